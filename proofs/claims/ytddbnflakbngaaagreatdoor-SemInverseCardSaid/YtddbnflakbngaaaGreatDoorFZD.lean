/- Calls by contract; stores; appends. -/
import Derived.Test.YtddbnflakbngaaaGreatDoorFZC
import Derived.CallsIn
import Derived.TacticsIn
import Derived.OrdersIn
import Derived.RangeFuncCalls
set_option linter.unusedVariables false
set_option linter.unusedSimpArgs false
namespace Go.Proofs.YtddbnflakbngaaaGreatDoor.Fw
variable {t E B R p:TypeId} {x:AV} {g y:Operand} {e k:Ty} {v:Value} {Z:List Nat} {Y:List Value} {X:TI} {w W:World} {o:Oper} {a:Act} {K c:Nat->Prop} {n:Nat} {l:List AV} {V:Bool}
section
open Go Go.RowKit
abbrev AEa:=@Go.Oper.uponIn_enter
def QF (w:World) (O:Nat->Prop):(ts:List Ty)->List Value->Jl ts->Prop
 | [],a,_=>a=[]
 | t :: ts,a,ds=>∃(v:Value) (r:List Value),a=v :: r/\Bg w O t v ds.1/\QF w O ts r ds.2
def FR (r:Option Nat):Fence:={ fn:=λ_=>True,depth:=none,alive:=false,round:=r }
theorem IL {r:Option Nat} {P:Program} {f:FuncId} {args:Array Value} {R:Ending->World->Prop} (h:Calls P f args w R):CallsIn (FR r) n P f args w R:=by
 cases r with
 | none=>exact callsIn_wide.2 h
 | some l=>exact((callsIn_wide.2 h:CallsIn Fence.wide n P f args w R).inRound l:CallsIn _ n P f args w R)
theorem Et (r:Option Nat) (ρ:Operand->Value) (o:Oper) (h:∀c,o.op≠.defer c):o.semAt r ρ=execOp ρ o:=by
 cases r with
 | none=>exact Oper.semAt_none ρ o
 | some l=>exact Oper.semAt_some l ρ o h
def A0D (w:World) (O:Nat->Prop) (outs:List RV) (u:Value) (w':World):Prop :=
 ∀nm:Nat,∃ρ',QS w O ⟨[],[]⟩ (λ_=>undef) (Hk nm outs) (C8 nm outs) u ρ' w'
def gls:List (Nat×PV):=[(0,⟨.slice (.agg (.prod .str .str)),([(⟨#[104]⟩,⟨#[104,97,110,100,108,101]⟩),(⟨#[101]⟩,⟨#[101,118,101,110,116]⟩),(⟨#[120]⟩,⟨#[101,110,116,105,116,121]⟩),(⟨#[105]⟩,⟨#[105,110,100,101,120]⟩)]:List (ByteArray×ByteArray))⟩)]
def GW (w:World) (K O:Nat->Prop):Prop:=∀x∈gls,K x.1/\¬O x.1/\∃cs:List Value,(∀(j:Nat) (u:Value),cs[j]?=some u->w.cell? ⟨x.1,j,none⟩=some u)/\B6 w (λb=>¬K b\/O b) x.2.t cs x.2.d
theorem GW.mono {w':World} {O O':Nat->Prop} (h:GW w K O) (d:∀b,K b->¬O b->c b/\¬O' b) (e:∀b,K b->w'.heap[b]?=w.heap[b]?):GW w' c O':=λx q=>by
 obtain⟨h1,f,cs,g,i⟩:=h x q;obtain⟨k,l⟩:=d _ h1 f;refine⟨k,l,cs,λj u o=>?_,i.mono (λb _ hn p=>?_) λb _ hn=>e b (Do λhk=>hn (.inl hk))⟩
 .rw[ADN (w:=w) (w':=w')]
  .exact g j u o
  exact e _ h1
 have hk:K b:=Do λhk=>hn (.inl hk);have a:¬O b:=λa=>hn (.inr a);obtain⟨m,n⟩:=d b hk a;rcases p with h|h
 .exact h m
 exact n h
def A8M (P:Program) (f:FuncId) (sp:Ab):Prop :=
 ∀(w:World) (O:Nat->Prop) (a:List Value) (ds:Jl sp.ins),(∀b,O b->b<w.heap.size)->GW w (λb=>b<w.heap.size) O->QF w O sp.ins a ds->sp.pre ds ->
  Calls P f a.toArray w λe w'=>∃u,e=.returned u/\A0D w O (sp.out ds) u w'
def Ag (P:Program) (f:FuncId) (sp:Ab):Prop :=
 (∃ fn : Func, P.funcs[f]? = some fn /\ (fn.name == "runtime.NumGoroutine") = false /\ fn.body.isNone = false) /\ A8M P f sp
def JM (P:Program) (tb:Tb):Prop:=∀f sp,lk f tb.fns=some sp->Ag P f sp
theorem QG {w w':World} {O O':Nat->Prop}:∀ {t:Ty} {cs:List Value} {d:t.den},t.flat=true->B6 w O t cs d->B6 w' O' t cs d
 | .int _,_,_,_,h=>h
 | .bool,_,_,_,h=>h
 | .str,_,_,_,h=>h
 | .ref _,_,_,_,h=>h
 | .slice _,_,_,hf,_=>by simp[Ty.flat]at hf
 | .prod a b,_,_,hf,h=>by
  simp only[Ty.flat,An]at hf;obtain⟨c1,c2,rfl,h1,c⟩:=h;exact⟨c1,c2,rfl,QG hf.1 h1,QG hf.2 c⟩
 | .agg t,cs,d,hf,h=>by
  simp only[Ty.flat]at hf;have h:B6 w O t cs d:=h;exact(QG hf h:B6 w' O' t cs d)
theorem YI {w':World} {O O':Nat->Prop} {t:Ty} {d:t.den} (hf:t.flat=true) (h:Bg w O t v d):Bg w' O' t v d :=
 let ⟨cs,h1,a⟩:=h
 ⟨cs,QG hf h1,a⟩
theorem TK:∀ {l:List RV} (nm:Nat),l.all RV.flat=true->C8 nm l=[]
 | [],_,_=>rfl
 | .p t d :: l,nm,h=>by
  simp only[ADh,An]at h;simp[C8,S9,TK (nm+10000) h.2]
 | .own _ _ _ :: l,nm,h=>by simp[RV.flat]at h
theorem A0E {r:RV} (h:r.flat=true) (nm:Nat):∃t d,eH nm r=.p t d/\t.flat=true:=by
 cases r with
 | p t d=>exact⟨t,d,rfl,h⟩
 | own _ _ _=>simp[RV.flat]at h
theorem A0F {V V':Vw}:∀ {l:List RV} {nm:Nat} {a:List Value},l.all RV.flat=true->II V (IC nm l) a->II V' (IC nm l) a
 | [],_,_,_,h=>h
 | r :: l,nm,a,hf,h=>by
  simp only[ADh,An]at hf;obtain⟨v,f,rfl,h1,b⟩:=h;obtain⟨t,d,e,c⟩:=A0E hf.1 nm;refine⟨v,f,rfl,?_,A0F hf.2 b⟩;rw[e]at h1 ⊢;exact YI c h1
theorem A0G {V V':Vw} {l:List RV} {nm:Nat} {u:Value} (hf:l.all RV.flat=true) (h:CD V (Hk nm l) u):CD V' (Hk nm l) u:=by
 match l,hf,h with
 | [],_,h=>exact h
 | [r],hf,h =>
  simp only[ADh,List.all_nil,Bool.and_true]at hf;obtain⟨t,d,e,a⟩:=A0E hf nm;simp only[Hk]at h ⊢;rw[e]at h ⊢;exact YI a h
 | c :: f :: l,hf,h =>
  obtain⟨b,rfl,h1⟩:=h;exact⟨b,rfl,A0F hf h1⟩
section
variable {P:Program} {tb:Tb} {w:World} {O0:Nat->Prop} {σ:St} {ρ:Nat->Value} {vc:Prop} {v:AV} {obs:List (Nat×Obj)}
theorem QS.call {outs:List RV} {nm:Nat} {u:Value} {ρ':Nat->Value} {w':World} (hf:Bp (C8 nm outs) σ=true)
  (h:QS w (own O0 σ ρ) ⟨[],[]⟩ (λ_=>undef) (Hk nm outs) (C8 nm outs) u ρ' w') :
  QS w O0 σ ρ (Hk nm outs) (C8 nm outs) u (λn=>if (lk n (C8 nm outs)).isSome then ρ' n else ρ n) w':=by
 have e:∀n,HV (D5 ⟨[],[]⟩ (C8 nm outs)) n↔∃o,lk n (C8 nm outs)=some o:=λn=>by simp[HV,D5]
 have hk:C3 (vw w' (own O0 σ ρ) (D5 ⟨[],[]⟩ (C8 nm outs)) ρ') (vw w' O0 (D5 σ (C8 nm outs)) (λn=>if (lk n (C8 nm outs)).isSome then ρ' n else ρ n)):=by
  refine⟨?_,?_,?_,λ_ _ _=>rfl⟩
  .intro b _ c d;rcases d with h0|⟨n,g,hn⟩
   .exact c (.inl (.inl h0))
   rcases MX g with ⟨o,a⟩|⟨j,i⟩
   .refine c (.inr ⟨n,(e n).2 ⟨o,a⟩,?_⟩);simpa[a] using hn
   refine c (.inl (.inr ⟨n,i,?_⟩));simpa[j] using hn
  .intro n hn;obtain⟨o,a⟩:=(e n).1 hn;exact⟨o,by simp[D5,BJ,a]⟩
  intro n hn;obtain⟨o,a⟩:=(e n).1 hn;simp[vw,a]
 refine⟨h.below,λn hn=>by simp[hn],h.av.keeps hk,λn o a=>?_,λn o b a c=>?_,λn m o k b a f c d=>?_⟩
 .simp only[a,AEp,ACk];exact(h.obj n o a).keeps hk (λ_ _=>rfl)
 .simp only[a,AEp,ACk]at c;exact h.new n o b a c
 simp only[a,f,AEp,ACk]at c d;exact h.dist n m o k b a f c d
theorem aH {V:Vw} {O':Nat->Prop} {l:Bool} (c:∀b,¬V.O b->¬O' b) (f:l=true->∀b,¬O' b) (e:∀n o,lk n σ.objs=some o->BI V o (V.ρ n)) {ev:Operand->Value} (d:Es V σ ev) :
  ∀ {ts:List Ty} {xs:List Operand} {ds:Jl ts},GX l σ ts xs=some ds->QF V.w O' ts (xs.map ev) ds
 | [],[],ds,h=>rfl
 | [],_ :: _,ds,h=>by simp[GX]at h
 | _ :: _,[],ds,h=>by simp[GX]at h
 | t :: ts,x :: xs,ds,h=>by
  simp only[GX]at h;cases a:Al σ x with
  | none=>rw[a]at h;cases h
  | some av =>
   rw[a]at h;simp only at h;split at h
   .rename_i y ys g i;cases h;exact⟨ev x,xs.map ev,rfl,Ft c f e g (d x av a),aH c f e d i⟩
   cases h
theorem A8N (J:JM P tb) (y:GW w (λb=>b<w.heap.size) (own O0 σ ρ)) (A:∀n o,lk n σ.objs=some o->BI (vw w O0 σ ρ) o (ρ n)) (O:∀b,own O0 σ ρ b->b<w.heap.size) (m:Es (vw w O0 σ ρ) σ a.eval) {d:Nat} {xs:List Operand} 
  {ts:Array TypeId} (z:o.op=.call { callee:=.value g,args:=xs.toArray,argTypes:=ts })
  (h:MP tb σ d xs (Al σ g)=some (vc,v,obs)) (C:vc) (hf:Bp obs σ=true) {next:Act->World->Prop} {Q:Exit->Act->World->Prop} {r:Option Nat}
  (hn:∀u ρ' w',QS w O0 σ ρ v obs u ρ' w'->next (a.put o.dst u) w'):o.wpIn (FR r) 0 P a w next Q:=by
 cases p:Al σ g with
 | none=>rw[p]at h;simp[MP]at h
 | some D =>
  rw[p]at h;have L:=m g D p;unfold MP at h;split at h
  .rename_i f H;cases H;have K:a.eval g=.func (.func f) #[] #[]:=L;cases t:lk f tb.fns with
   | none=>rw[t]at h;simp[Jr]at h
   | some sp =>
    rw[t]at h;simp only[Jr]at h;cases i:GX sp.lend σ sp.ins xs with
    | none=>rw[i]at h;simp[Kw]at h
    | some ds =>
     rw[i]at h;simp only[Kw]at h;split at h
     .rename_i j;cases h;obtain⟨⟨fn,I,N,G⟩,B⟩:=J f sp t;have R:(execOp a.eval o).run P w=.ok (.enter f (xs.map a.eval).toArray) w:=by
       have h1 : ¬ fn.name = "runtime.NumGoroutine" := by simpa using N
       have E:¬fn.body=none:=by intro e;simp[e]at G
       simp[execOp,z,resolve,Deferred.ofValue,K,invoke,callFunc,I,h1,E]
      refine⟨λ_ _=>trivial,?_⟩;rw[Et _ _ _ (λc e=>by rw[z]at e;cases e),R,AEa];refine⟨λh=>(by simp[FR]at h),IL ?_⟩;by_cases q:sp.lend=true
      .rw[q]at i;have x:(sp.out ds).all RV.flat=true:=by
        rcases j with j|j
        .rw[q]at j;cases j
        exact j
       have l:=aH (V:=vw w O0 σ ρ) (O':=λ_=>False) (λ_ _ h=>h) (λ_ _ h=>h) A m i;refine(B w (λ_=>False) _ ds (λ_ h=>h.elim) (y.mono (λb F _=>⟨F,id⟩) λ_ _=>rfl) l C).mono λe w' hh=>?_;obtain⟨u,rfl,s⟩:=hh;obtain⟨ρ',k⟩:=s d;refine hn u ρ w' ?_;rw[TK d x]at k ⊢;exact⟨k.below,λ_ _=>rfl,A0G x k.av,(λ_ _ h=>by cases h),(λ_ _ _ h=>by cases h),(λ_ _ _ _ _ h=>by cases h)⟩
      have M:sp.lend=false:=by simpa using q
      rw[M]at i;have l:=aH (V:=vw w O0 σ ρ) (O':=own O0 σ ρ) (λ_ h=>h) (λh=>by cases h) A m i;refine(B w (own O0 σ ρ) _ ds O y l C).mono λe w' hh=>?_;obtain⟨u,rfl,s⟩:=hh;obtain⟨ρ',k⟩:=s d;exact hn u _ w' (QS.call hf k)
     cases h
  cases h
end
end
section
open Go Go.RowKit
section
variable {P:Program} {tb:Tb} {w:World} {O0:Nat->Prop} {σ:St} {ρ:Nat->Value} {vc:Prop} {v:AV} {obs:List (Nat×Obj)}
theorem Aj {u:Value} {w':World} {next:Act->World->Prop} {Q:Exit->Act->World->Prop} {r:Option Nat} (h:(execOp a.eval o).run P w=.ok (.value u) w') (hn:next (a.put o.dst u) w') (hnd:∀c,o.op≠.defer c:=by intro c e;cases e):o.wpIn (FR r) 0 P a w next Q:=by
 refine⟨λ_ _=>trivial,?_⟩;rw[Et _ _ _ hnd,h];exact hn
theorem A0H {V:Vw} (x:Value):CD V (Hs x) x:=by
 unfold Hs;split
 .rename_i k n;split
  .rename_i h;exact Be h
  exact(rfl:(Value.int k n)=_)
 .exact Bx _
 .rename_i s;split
  .rename_i h;exact VJ h
  exact(rfl:(Value.string s)=_)
 exact(rfl:x=x)
theorem Cp {V:Vw} (h:∀s v,lk s σ.env=some v->CD V v (a.tmps.getD s undef)):Es V σ a.eval:=by
 intro x v b;cases x with
 | tmp t=>exact h t v b
 | const c=>simp only[Al]at b;cases b;exact A0H c
 | global g=>simp[Al]at b
 | func f=>simp only[Al]at b;cases b;rfl
structure AAK (P:Program) (tb:Tb) (w:World) (O0:Nat->Prop) (σ:St) (ρ:Nat->Value) (a:Act):Prop where
 hT:DI P tb
 hF:JM P tb
 hG:GW w (λb=>b<w.heap.size) (own O0 σ ρ)
 obj:∀n o,lk n σ.objs=some o->BI (vw w O0 σ ρ) o (ρ n)
 own:∀b,own O0 σ ρ b->b<w.heap.size
 ev:Es (vw w O0 σ ρ) σ a.eval
theorem QS.toP {d n:Nat} {xs:List e.den} {u:Value} {ρ':Nat->Value} {w':World} (hown:∀b,own O0 σ ρ b->b<w.heap.size) (hf:Bp [(d,.arr t e xs)] σ=true)
  (hq:QS w O0 σ ρ (.sr d e 0 n) [(d,.arr t e xs)] u ρ' w') (hn:n=xs.length):QS w O0 σ ρ (.p (.slice e) xs) [] u ρ w' where
 below:=hq.below
 rho:=λ_ _=>rfl
 av:=by
  have hO:∀b,¬own O0 (D5 σ [(d,.arr t e xs)]) ρ' b->¬own O0 (D5 σ []) ρ b:=by
   intro b hb hb';rcases hb' with h0|⟨m,⟨o,hm⟩,hmb⟩
   .exact hb (.inl h0)
   have hm:lk m σ.objs=some o:=hm;have hne:lk m [(d,Obj.arr t e xs)]=none:=by grind [lk,Ov]
   refine hb (.inr ⟨m,⟨o,by simp only[D5,BJ,hne];simpa using hm⟩,?_⟩);rw[hq.rho m hne];exact hmb
  have hd:lk d [(d,Obj.arr t e xs)]=some (.arr t e xs):=by simp[lk]
  have hb:∀b,bk (ρ' d) b->¬own O0 (D5 σ []) ρ b:=λb hb hb'=>by
   have h1:=hq.new d _ b hd hb;have h2:=hown b hb';omega
  have hr:=Z8 (V:=vw w' O0 (D5 σ [(d,.arr t e xs)]) ρ') hO (λb hb'=>hb b (.inl hb')) (hq.obj d _ hd) hq.av.2;rw[hn,JB]at hr;obtain⟨_,_,_,_,_,_,a',c',hve,_⟩:=hq.av.2;exact⟨[u],hr,by rw[hve];rfl⟩
 obj:=λ_ _ h=>by cases h
 new:=λ_ _ _ h=>by cases h
 dist:=λ_ _ _ _ _ h=>by cases h
theorem Xs {id:TypeId} (hT:EI P tb id X) (g:DI P tb) (r:∀n o,lk n σ.objs=some o->BI (vw w O0 σ ρ) o (ρ n)) (A:∀b,own O0 σ ρ b->b<w.heap.size) {ev:Operand->Value} (i:Es (vw w O0 σ ρ) σ ev) {t:Bool} {d n:Nat} {parts:List (Nat×Operand)}
  (h:Bu t σ d n parts (some X)=some (vc,v,obs)) (f:vc) (hf:Bp obs σ=true) :
  ∃u ρ' w',(Instr.buildSlice id n (parts.map λp=>(p.1,ev p.2)).toArray).run P w=.ok u w'/\QS w O0 σ ρ v obs u ρ' w':=by
 cases t with
 | false=>exact QD hT g r i h f hf
 | true =>
  unfold Bu at h;split at h
  .rename_i e offs el b D;cases s:FI σ e 0 parts with
   | none=>rw[s]at h;simp[B1]at h
   | some xs =>
    rw[s]at h;simp only[B1,ACk]at h;cases h;obtain⟨a,z⟩:∃a,lk a σ.objs=none:=by
     have:∀l:List (Nat×Obj),∃m,∀k,m<=k->lk k l=none:=by
      intro l;induction l with
      | nil=>exact⟨0,λ_ _=>rfl⟩
      | cons x l C =>
       obtain⟨m,c⟩:=C;refine⟨max m (x.1+1),λk hk=>?_⟩;have:¬k=x.1:=by omega
       obtain⟨j,o⟩:=x;simp only[lk,this,AD1];exact c k O1
     obtain⟨m,c⟩:=this σ.objs;exact⟨m,c m (Of m)⟩
    have q:Bp [(a,.arr el e xs)] σ=true:=by simp[Bp,z]
    have B:Bu false σ a n parts (some X)=some (xs.length=n/\n*e.size<=16777216,.sr a e 0 n,[(a,.arr el e xs)]):=by grind [Bu,B1]
    obtain⟨u,ρ',w',h1,y⟩:=QD hT g r i B f q;exact⟨u,ρ,w',h1,y.toP A q f.1.symm⟩
  cases h
theorem fE {V:Vw} {ev:Operand->Value} (f:Es V σ ev) (w':World) {k:IntKind}:∀(r:List Operand) (a m:Int),Fq σ k (some a) r=some m->I6 k a->((r.map ev).foldlM Builtin.min2 (.int k a)).run P w'=.ok (.int k m) w'/\I6 k m
 | [],a,m,h,ha=>by
  simp only[Fq,ACR]at h;subst h;exact⟨rfl,ha⟩
 | x :: r,a,m,h,ha=>by
  simp only[Fq]at h;cases d:Al σ x with
  | none=>rw[d]at h;cases r<;>simp[OL,Fq]at h
  | some xv =>
   rw[d]at h;cases c:OL k a (some xv) with
   | none=>rw[c]at h;cases r<;>simp[Fq]at h
   | some j =>
    rw[c]at h;unfold OL at c;split at c
    .rename_i l b e;cases e;split at c
     .rename_i hk;subst hk;cases c;obtain⟨g,i⟩:=Bb (f x _ d);have:=fE f w' r _ m h (by split;exact i;exact ha);rw[gO,List.foldlM_cons,g];simpa[Builtin.min2] using this
     cases c
    cases c
theorem qX (H:AAK P tb w O0 σ ρ a) (h:aq tb σ (o.dst.getD 0) o.op=some (vc,v,obs)) (C:vc) (hf:Bp obs σ=true)
  {next:Act->World->Prop} {Q:Exit->Act->World->Prop} {r:Option Nat} (hn:∀u ρ' w',QS w O0 σ ρ v obs u ρ' w'->next (a.put o.dst u) w'):o.wpIn (FR r) 0 P a w next Q:=by
 obtain⟨hT,hF,hG,E,W,q⟩:=H;have R:∀n,(vw w O0 σ ρ).L n->∃o,BI (vw w O0 σ ρ) o ((vw w O0 σ ρ).ρ n):=λn ⟨o,ae⟩=>⟨o,E n o ae⟩;obtain⟨dst,op,type,pos,after,guard⟩:=o;simp only at h hn;cases op<;>simp only[aq]at h<;>try(cases h;done)
 case move x =>
  cases d:Al σ x with
  | none=>rw[d]at h;cases h
  | some xv =>
   rw[d]at h;simp only[HB]at h;cases h;exact Aj (u:=a.eval x) (by simp[execOp]) (hn _ _ _ (QS.still (q x _ d)))
 case assign x =>
  cases d:Al σ x with
  | none=>rw[d]at h;cases h
  | some xv =>
   rw[d]at h;simp only[HB]at h;cases h;exact Aj (u:=a.eval x) (by simp[execOp]) (hn _ _ _ (QS.still (q x _ d)))
 case pick c x y =>
  cases H:Al σ c with
  | none=>rw[H]at h;simp[Ls]at h
  | some O =>
   rw[H]at h;have T:=q c O H;unfold Ls at h;split at h
   .rename_i F;cases F;have D:=EX T;cases d:Al σ x with
    | none=>rw[d]at h;simp[HB]at h
    | some xv =>
     rw[d]at h;simp only[HB]at h;cases h;exact Aj (u:=a.eval x) (by simp[execOp,D,asBool]) (hn _ _ _ (QS.still (q x _ d)))
   .rename_i F;cases F;have D:=EX T;cases A:Al σ y with
    | none=>rw[A]at h;simp[HB]at h
    | some I =>
     rw[A]at h;simp only[HB]at h;cases h;exact Aj (u:=a.eval y) (by simp[execOp,D,asBool]) (hn _ _ _ (QS.still (q y _ A)))
   cases h
 case alloc t =>
  cases e:lk t tb.ty with
  | none=>rw[e]at h;simp[Ks]at h
  | some ti =>
   rw[e]at h;obtain⟨u,ρ',w',h1,j⟩:=A4T (w:=w) (O0:=O0) (ρ:=ρ) (hT _ _ e) h hf;exact Aj (u:=u) (w':=w') (by simp[execOp,h1]) (hn _ _ _ j)
 case box t x =>
  cases e:lk t tb.ty with
  | none=>rw[e]at h;simp[UA]at h
  | some ti =>
   cases d:Al σ x with
   | none=>rw[e,d]at h;simp[UA]at h
   | some xv =>
    rw[e,d]at h;obtain⟨u,ρ',w',h1,j⟩:=AAI (hT _ _ e) h (q x _ d) hf;exact Aj (u:=u) (w':=w') (by simp[execOp,h1]) (hn _ _ _ j)
 case build t parts =>
  cases e:lk t tb.ty with
  | none=>rw[e]at h;simp[Jn]at h
  | some ti =>
   rw[e]at h;obtain⟨rfl,u,h1,j⟩:=A4V (hT _ _ e) E q h;have h1:(Instr.build t (parts.map λp=>(p.1,a.eval p.2))).run P w=.ok u w:=by
    rw[<-h1]
    congr 2
    apply Array.ext';simp
   exact Aj (u:=u) (w':=w) (by simp[execOp,h1]) (hn _ _ _ (QS.still j))
 case buildSlice t n parts =>
  cases U:lk (dst.getD 0) tb.nests with
  | some al =>
   rw[U]at h;simp only[G2]at h;cases e:lk t tb.ty with
   | none=>rw[e]at h;simp[Jp]at h
   | some ti =>
    rw[e]at h;obtain⟨u,ρ',w',h1,j⟩:=A8H (hT _ _ e) hT E q h C hf;have h1:(Instr.buildSlice t n (parts.map λp=>(p.1,a.eval p.2))).run P w=.ok u w':=by
     rw[<-h1]
     congr 2
     grind
    exact Aj (u:=u) (w':=w') (by simp[execOp,h1]) (hn _ _ _ j)
  | none =>
  rw[U]at h;simp only[G2]at h;cases e:lk t tb.ty with
  | none=>rw[e]at h;simp[Bu]at h
  | some ti =>
   rw[e]at h;obtain⟨u,ρ',w',h1,j⟩:=Xs (hT _ _ e) hT E W q h C hf;have h1:(Instr.buildSlice t n (parts.map λp=>(p.1,a.eval p.2))).run P w=.ok u w':=by
    rw[<-h1]
    congr 2
    apply Array.ext';simp
   exact Aj (u:=u) (w':=w') (by simp[execOp,h1]) (hn _ _ _ j)
 case load t x =>
  cases e:lk t tb.ty with
  | none=>rw[e]at h;simp[KC]at h
  | some ti =>
   cases d:Al σ x with
   | none=>rw[e,d]at h;simp[KC]at h
   | some xv =>
    rw[e,d]at h;obtain⟨rfl,u,h1,j⟩:=A0v (hT _ _ e) E h (q x _ d);exact Aj (u:=u) (w':=w) (by simp[execOp,h1]) (hn _ _ _ (QS.still j))
 case nilCheck x =>
  cases d:Al σ x with
  | none=>rw[d]at h;simp[VC]at h
  | some xv =>
   rw[d]at h;obtain⟨rfl,⟨ad,F⟩,j⟩:=AAH h (q x _ d);exact Aj (u:=a.eval x) (w':=w) (by simp[execOp,F]) (hn _ _ _ (QS.still j))
 case binOp op t x y ar =>
  cases d:Al σ x with
  | none=>rw[d]at h;simp[Rr]at h
  | some xv =>
   cases A:Al σ y with
   | none=>rw[d,A]at h;cases xv<;>simp[Rr]at h
   | some I =>
    rw[d,A]at h;obtain⟨rfl,h1,u,j,B⟩:=AAD (P:=P) (t:=t) (λD=>by
     cases e:lk t tb.ty with
     | none=>rw[e]at D;cases D
     | some ti =>
      have h0:=(hT _ _ e).2;rw[e]at D;unfold TA at D;split at D
      .grind
      cases D) w h C (q x _ d) (q y _ A)
    exact Aj (u:=u) (w':=w) (by simp[execOp,h1,j]) (hn _ _ _ (QS.still B))
 case unOp op t x =>
  cases d:Al σ x with
  | none=>rw[d]at h;cases op<;>simp[qUn]at h
  | some xv =>
   rw[d]at h;obtain⟨rfl,u,j,B⟩:=ACp (P:=P) w h C (q x _ d);exact Aj (u:=u) (w':=w) (by simp[execOp,j]) (hn _ _ _ (QS.still B))
 case convert s t x =>
  cases hs:lk s tb.ty with
  | none=>rw[hs]at h;simp[KD]at h
  | some ap =>
   cases e:lk t tb.ty with
   | none=>rw[hs,e]at h;simp[KD]at h
   | some ti =>
    cases d:Al σ x with
    | none=>rw[hs,e,d]at h;simp[KD]at h
    | some xv =>
     rw[hs,e,d]at h;obtain⟨rfl,u,j,B⟩:=A8D (P:=P) hT rfl (hT _ _ hs) (hT _ _ e) h C (q x _ d);have j:(convert s t (a.eval x)).run P w=.ok u w:=j;exact Aj (u:=u) (w':=w) (by simp[execOp,j]) (hn _ _ _ (QS.still B))
 case makeSlice t l c =>
  cases e:lk t tb.ty with
  | none=>rw[e]at h;simp[JJ]at h
  | some ti =>
   cases d:Al σ l with
   | none=>rw[e,d]at h;simp[JJ]at h
   | some an =>
    cases A:Al σ c with
    | none=>rw[e,d,A]at h;simp[JJ]at h
    | some O =>
     rw[e,d,A]at h;obtain⟨u,ρ',w',h1,j⟩:=A8I (hT _ _ e) hT h C (q l _ d) (q c _ A) hf;exact Aj (u:=u) (w':=w') (by simp[execOp,h1]) (hn _ _ _ j)
 case slice t x lo hi ah =>
  cases ah with
  | some m =>
   cases lo with
   | some _=>cases hi<;>simp[aq]at h
   | none =>
    cases hi with
    | none=>simp[aq]at h
    | some h1 =>
     simp only[aq]at h;cases e:lk t tb.ty with
     | none=>rw[e]at h;simp[D3]at h
     | some ti =>
      cases d:Al σ x with
      | none=>rw[e,d]at h;simp[D3]at h
      | some xv =>
       cases hh:Al σ h1 with
       | none=>rw[e,d,hh]at h;simp[D3]at h
       | some ak =>
        cases G:Al σ m with
        | none=>rw[e,d,hh,G]at h;simp[D3]at h
        | some ao =>
         rw[e,d,hh,G]at h;obtain⟨rfl,u,j,B⟩:=A0A (P:=P) (V:=vw w O0 σ ρ) (hT _ _ e) hT h C (q x _ d) (q h1 _ hh) (q m _ G);have j:(Instr.sliceAt t (a.eval x) none (some (a.eval h1)) (some (a.eval m))).run P w=.ok u w:=j;exact Aj (u:=u) (w':=w) (by simp[execOp,j]) (hn _ _ _ (QS.still B))
  | none =>
   simp only[aq]at h;cases e:lk t tb.ty with
   | none=>rw[e]at h;simp[Fe]at h
   | some ti =>
    cases d:Al σ x with
    | none=>rw[e,d]at h;simp[Fe]at h
    | some xv =>
     have S:∀ {y:Option Operand} {N:Option AV},HA σ y=some N->eX (V:=vw w O0 σ ρ) N (y.map a.eval):=by
      intro y N A;cases y with
      | none=>simp only[HA]at A;cases A;trivial
      | some z =>
       simp only[HA,No]at A;obtain⟨Z,hz,rfl⟩:=A;exact q z Z hz
     cases J:HA σ lo with
     | none=>rw[e,d,J]at h;simp[Fe]at h
     | some am =>
      cases K:HA σ hi with
      | none=>rw[e,d,J,K]at h;simp[Fe]at h
      | some aj =>
       rw[e,d,J,K]at h;obtain⟨rfl,u,j,B⟩:=A4S (P:=P) (V:=vw w O0 σ ρ) (hT _ _ e) hT h C (q x _ d) (S J) (S K);have j:(Instr.sliceAt t (a.eval x) (lo.map a.eval) (hi.map a.eval) none).run P w=.ok u w:=j;exact Aj (u:=u) (w':=w) (by simp[execOp,j]) (hn _ _ _ (QS.still B))
 case fieldAddr s x f =>
  cases hs:lk s tb.ty with
  | none=>rw[hs]at h;simp[HY]at h
  | some ti =>
   cases d:Al σ x with
   | none=>rw[hs,d]at h;simp[HY]at h
   | some xv =>
    rw[hs,d]at h;obtain⟨rfl,u,j,B⟩:=A4O (P:=P) (hT _ _ hs) w h (q x _ d);exact Aj (u:=u) (w':=w) (by simp[execOp,j]) (hn _ _ _ (QS.still B))
 case indexAddr t x i =>
  cases e:lk t tb.ty with
  | none=>rw[e]at h;simp[F9]at h
  | some ti =>
   cases d:Al σ x with
   | none=>rw[e,d]at h;simp[F9]at h
   | some xv =>
    cases hi:Al σ i with
    | none=>rw[e,d,hi]at h;simp[F9]at h
    | some X =>
     rw[e,d,hi]at h;obtain⟨rfl,u,j,B⟩:=A4P (P:=P) (V:=vw w O0 σ ρ) (hT _ _ e) hT h C (q x _ d) (q i _ hi) R;have j:(Instr.indexAt t (a.eval x) (a.eval i)).run P w=.ok u w:=j;exact Aj (u:=u) (w':=w) (by simp[execOp,j]) (hn _ _ _ (QS.still B))
 case index t x i =>
  cases e:lk t tb.ty with
  | none=>rw[e]at h;simp[Ee]at h
  | some ti =>
   cases d:Al σ x with
   | none=>rw[e,d]at h;simp[Ee]at h
   | some xv =>
    cases hi:Al σ i with
    | none=>rw[e,d,hi]at h;simp[Ee]at h
    | some X =>
     rw[e,d,hi]at h;obtain⟨rfl,u,j,B⟩:=A0x (P:=P) (hT _ _ e) w h C (q x _ d) (q i _ hi);exact Aj (u:=u) (w':=w) (by simp[execOp,j]) (hn _ _ _ (QS.still B))
 case extract x i =>
  cases d:Al σ x with
  | none=>rw[d]at h;simp[Em]at h
  | some xv =>
   rw[d]at h;obtain⟨rfl,u,j,B⟩:=wV (P:=P) w h (q x _ d);exact Aj (u:=u) (w':=w) (by simp[execOp,j]) (hn _ _ _ (QS.still B))
 case makeFunc fn first ab =>
  obtain⟨rfl,u,j,B⟩:=AAJ (P:=P) q h;have j:(Instr.makeFunc fn (first.map a.eval) (ab.map a.eval)).run P w=.ok u w:=by
   rw[<-j]
   congr 2<;>(apply Array.ext';simp)
  exact Aj (u:=u) (w':=w) (by simp[execOp,j]) (hn _ _ _ (QS.still B))
 case makeMap t res =>
  cases res with
  | some z=>simp[aq]at h
  | none =>
   simp only[aq]at h;cases e:lk t tb.ty with
   | none=>rw[e]at h;simp[GA]at h
   | some ti =>
    rw[e]at h;obtain⟨u,ρ',w',h1,j⟩:=w3 (w:=w) (O0:=O0) (ρ:=ρ) (hT _ _ e) h hf;exact Aj (u:=u) (w':=w') (by simp[execOp,h1]) (hn _ _ _ j)
 case lookup t x i ok =>
  cases e:lk t tb.ty with
  | none=>rw[e]at h;simp[JL]at h
  | some ti =>
   cases d:Al σ x with
   | none=>rw[e,d]at h;simp[JL]at h
   | some xv =>
    cases hi:Al σ i with
    | none=>rw[e,d,hi]at h;simp[JL]at h
    | some X =>
     rw[e,d,hi]at h;obtain⟨rfl,u,j,B⟩:=A8L (P:=P) (hT _ _ e) hT E h (q x _ d) (q i _ hi);exact Aj (u:=u) (w':=w) (by simp[execOp,j]) (hn _ _ _ (QS.still B))
 case call c =>
  obtain⟨callee,args,argTypes⟩:=c;cases callee with
  | invoke r m=>simp[DC]at h
  | value g =>
   simp only[DC]at h;exact A8N hF hG E W q (xs:=args.toList) (ts:=argTypes) (o:=⟨dst,.call ⟨.value g,args,argTypes⟩,type,pos,after,guard⟩) sc h C hf hn
  | builtin b =>
   simp only[DC]at h;obtain⟨args⟩:=args;obtain⟨argTypes⟩:=argTypes;simp only at h;unfold DS at h;split at h
   .rename_i x t;cases e:lk t tb.ty with
    | none=>rw[e]at h;simp[UB]at h
    | some ti =>
     cases d:Al σ x with
     | none=>rw[e,d]at h;simp[UB]at h
     | some xv =>
      rw[e,d]at h;obtain⟨rfl,u,j,B⟩:=AAE (P:=P) (ty:=type) (V:=vw w O0 σ ρ) R (hT _ _ e) w h (q x _ d);exact Aj (u:=u) (w':=w) (by simp[execOp,resolve,invoke,builtin,j]) (hn _ _ _ (QS.still B))
   .rename_i x y t u;cases d:Al σ x with
    | none=>rw[d]at h;simp[Cy]at h
    | some xv =>
     cases A:Al σ y with
     | none=>rw[d,A]at h;simp[Cy]at h
     | some I =>
      rw[d,A]at h;obtain⟨z,ρ',w',h1,j⟩:=A0C (ty:=type) hT E h C (q x _ d) (q y _ A) hf;exact Aj (u:=z) (w':=w') (by simp[execOp,resolve,invoke,builtin,h1]) (hn _ _ _ j)
   .rename_i x y t u;cases d:Al σ x with
    | none=>rw[d]at h;simp[Rs]at h
    | some xv =>
     cases A:Al σ y with
     | none=>rw[d,A]at h;simp[Rs]at h
     | some I =>
      rw[d,A]at h;obtain⟨rfl,z,h1,j⟩:=AAF (P:=P) (ts:=#[t,u]) (ty:=type) w h (q x _ d) (q y _ A);exact Aj (u:=z) (w':=w) (by simp[execOp,resolve,invoke,builtin,h1]) (hn _ _ _ (QS.still j))
   .rename_i x y t u;cases d:Al σ x with
    | none=>rw[d]at h;simp[Ru]at h
    | some xv =>
     cases A:Al σ y with
     | none=>rw[d,A]at h;simp[Ru]at h
     | some I =>
      rw[d,A]at h;obtain⟨rfl,z,h1,j⟩:=AAG (P:=P) (ts:=#[t,u]) (ty:=type) w h (q x _ d) (q y _ A);exact Aj (u:=z) (w':=w) (by simp[execOp,resolve,invoke,builtin,h1]) (hn _ _ _ (QS.still j))
   .rename_i x y Y t u ai;cases d:Al σ x with
    | none=>rw[d]at h;simp[JK]at h
    | some xv =>
     cases A:Al σ y with
     | none=>rw[d,A]at h;simp[JK]at h
     | some I =>
      cases M:Al σ Y with
      | none=>rw[d,A,M]at h;simp[JK]at h
      | some Z =>
       rw[d,A,M]at h;obtain⟨rfl,z,h1,j⟩:=A8E (P:=P) (ts:=#[t,u,ai]) (ty:=type) w h (q x _ d) (q y _ A) (q Y _ M);exact Aj (u:=z) (w':=w) (by simp[execOp,resolve,invoke,builtin,h1]) (hn _ _ _ (QS.still j))
   .rename_i ts x y z u r;cases d:Al σ x with
    | none=>rw[d]at h;simp[OM]at h
    | some xv =>
     rw[d]at h;unfold OM at h;split at h
     .rename_i k aa F;cases F;cases G:Fq σ k (some aa) (y :: z :: u :: r) with
      | none=>rw[G]at h;simp[P1]at h
      | some m =>
       rw[G]at h;simp only[P1,ACR,AEi]at h;obtain⟨rfl,rfl,rfl⟩:=h;obtain⟨af,ag⟩:=Bb (q x _ d);obtain⟨h1,j⟩:=fE (P:=P) q w _ _ _ G ag;have B:(Builtin.min_ ⟨argTypes⟩ type (a.eval x :: a.eval y :: a.eval z :: a.eval u :: r.map a.eval).toArray).run P w=.ok (.int k m) w:=by
        rw[af];exact h1
       exact Aj (u:=.int _ m) (w':=w) (by simp[execOp,resolve,invoke,builtin,B]) (hn _ _ _ (QS.still (Be j)))
     cases h
   cases h
end
end
section
open Go Go.RowKit
section
variable {w0:World} {K O0:Nat->Prop} {nt:Nat} {ds:Fp} {σ:St} {ρ:Nat->Value} {a:Act} {w:World}
theorem A4X {n:Nat} {o:Obj} {env:List (Nat×AV)} (m:Nat):HV ⟨env,upd n o σ.objs⟩ m↔HV σ m:=by
 constructor
 .rintro⟨x,a⟩;rw[Gg]at a;split at a
  .rename_i e;subst e;simp only[No]at a;obtain⟨y,b,_⟩:=a;exact⟨y,b⟩
  exact⟨x,a⟩
 rintro⟨x,a⟩;by_cases e:m=n
 .subst e;exact⟨o,by simp[Gg,a]⟩
 exact⟨x,by simp[Gg,e,a]⟩
theorem CG.upd (h:CG w0 K O0 nt ds σ ρ a w) (A:∀b,K b->b<w0.heap.size) {n:Nat} {o j:Obj} (hn:lk n σ.objs=some o) {g:Nat} (r:blk (ρ n)=some g) {w':World} (c:w.grownBy w' (some g))
  (H:BI (vw w' O0 σ ρ) j (ρ n)):CG w0 K O0 nt ds ⟨σ.env,Fw.upd n j σ.objs⟩ ρ a w':=by
 have f:HV ⟨σ.env,Fw.upd n j σ.objs⟩=HV σ:=funext λm=>propext (A4X m);have y:vw w' O0 ⟨σ.env,Fw.upd n j σ.objs⟩ ρ=vw w' O0 σ ρ:=by
  have E:own O0 ⟨σ.env,Fw.upd n j σ.objs⟩ ρ=own O0 σ ρ:=by
   funext b;simp only[own,f]
  simp only[vw,f,E]
 have C:own O0 σ ρ g:=.inr ⟨n,⟨o,hn⟩,.inl r⟩;have hk:C3 (vw w O0 σ ρ) (vw w' O0 σ ρ):=⟨λ_ _ h=>h,λ_ h=>h,λ_ _=>rfl,λb D B=>c.block b D (λe=>by injection e with e;subst e;exact B C)⟩;refine⟨⟨c.os.trans h.frm.os,c.tape.trans h.frm.tape,c.output.trans h.frm.output,iN h.frm.size c.size,λk t=>?_⟩,h.nt,h.defers,λp F=>by rw[f];exact h.pin p F,?_,?_,?_,?_⟩
 .refine(c.block k (ACb (A k t) h.frm.size) (λe=>?_)).trans (h.frm.block k t);injection e with e
  subst e;exact(h.free n k ⟨o,hn⟩ (.inl r)).1 t
 .intro m x i;rw[y];rw[Gg]at i;split at i
  .grind
  rename_i e;refine(h.objs m x i).keeps hk λb l=>?_;refine c.block b ((h.objs m x i).block_lt l) (λq=>?_);injection q with q
  subst q;exact e (h.dist m n b ⟨x,i⟩ ⟨o,hn⟩ l (.inl r))
 .intro m b d l;rw[f]at d;exact h.free m b d l
 .intro m G b d u h1 z;rw[f]at d u;exact h.dist m G b d u h1 z
 intro s v hs;rw[y];exact(h.env s v hs).keeps hk
theorem KG (n s:Nat):∀l:List (Nat×AV),lk s (F7 n l)=(lk s l).map (AV.drp n)
 | []=>rfl
 | (j,v) :: l=>by
  simp only[F7,lk];split
  .rfl
  exact KG n s l
def Obj.drp (n:Nat):Obj->Obj
 | .arr et e xs=>.arr et e xs
 | .box et st fs=>.box et st (AV.drps n fs)
 | .mapo k v l=>.mapo k v l
 | .nest et b k e xs h=>.nest et b k e xs h
 | .frame i fs=>.frame i (F7 n fs)
 | .loop L=>.loop L
 | .itr c g d f a=>.itr c g d f a
 | .dfr=>.dfr
 | .sit sb sp=>.sit sb sp
theorem Br (n s:Nat):∀l:List (Nat×Obj),lk s (Bj n l)=(lk s l).map (Obj.drp n)
 | []=>rfl
 | (j,.arr et e xs) :: l=>by
  simp only[Bj,lk];split
  .rfl
  exact Br n s l
 | (j,.box et st fs) :: l=>by
  simp only[Bj,lk];split
  .rfl
  exact Br n s l
 | (j,.mapo k v x) :: l=>by
  simp only[Bj,lk];split
  .rfl
  exact Br n s l
 | (j,.nest et b k e xs h) :: l=>by
  simp only[Bj,lk];split
  .rfl
  exact Br n s l
 | (j,.frame i fs) :: l=>by
  simp only[Bj,lk];split
  .rfl
  exact Br n s l
 | (j,.loop L) :: l=>by
  simp only[Bj,lk];split
  .rfl
  exact Br n s l
 | (j,.itr c g d f a) :: l=>by
  simp only[Bj,lk];split
  .rfl
  exact Br n s l
 | (j,.dfr) :: l=>by
  simp only[Bj,lk];split
  .rfl
  exact Br n s l
 | (j,.sit sb sp) :: l=>by
  simp only[Bj,lk];split
  .rfl
  exact Br n s l
def Vw.but (V:Vw) (n:Nat):Vw:=⟨V.w,V.O,λm=>V.L m/\m≠n,V.ρ⟩
def seat (v:Value):Prop:=(∃a m c,v=.slice a m c)\/∃b,v=.tuple b
theorem JN {V:Vw} {n:Nat} (hn:seat (V.ρ n)) {v:Value} (h:MW V x v):MW (V.but n) (x.drp n) v:=by
 cases x;case sr m e lo hi =>
  simp only[AV.drp];split
  .trivial
  rename_i g;exact⟨⟨h.1,g⟩,h.2⟩
 case ep m e i p off =>
  simp only[AV.drp];split
  .trivial
  rename_i g;exact⟨⟨h.1,g⟩,h.2⟩
 case nin m e i len =>
  simp only[AV.drp];split
  .trivial
  rename_i g;exact⟨⟨h.1,g⟩,h.2⟩
 case bp m p off =>
  simp only[AV.drp];refine⟨⟨h.1,λe=>?_⟩,h.2⟩;subst e;obtain⟨_,b,d,_⟩:=h;rcases hn with ⟨a,j,c,hs⟩|⟨k,hs⟩<;>(rw[hs]at d;cases d)
 case clo f ns =>
  simp only[AV.drp];refine⟨h.1,λm o=>?_⟩;obtain⟨h1,b,d⟩:=h.2 m o;refine⟨⟨h1,λe=>?_⟩,b,d⟩;subst e;rcases hn with ⟨a,j,c,hs⟩|⟨k,hs⟩<;>(rw[hs]at d;cases d)
 case mp m =>
  simp only[AV.drp];refine⟨⟨h.1,λe=>?_⟩,h.2⟩;subst e;obtain⟨_,b,d,_⟩:=h;rcases hn with ⟨a,j,c,hs⟩|⟨k,hs⟩<;>(rw[hs]at d;cases d)
 case yl m =>
  simp only[AV.drp];refine⟨⟨h.1,λe=>?_⟩,h.2⟩;subst e;obtain⟨_,b,d,_⟩:=h;rcases hn with ⟨a,j,c,hs⟩|⟨k,hs⟩<;>(rw[hs]at d;cases d)
 case ag l=>exact h.elim
 case tup l=>exact h.elim
 all_goals simp only[AV.drp];exact h
theorem A0I {V:Vw} {n:Nat} (hn:seat (V.ρ n)) {cs:List Value} (h0:Xp x=false) (h:GS V x cs):GS (V.but n) (x.drp n) cs:=by
 cases x;case p t d=>simp only[AV.drp];exact h
 case ag l=>cases h0
 case tup l=>obtain⟨v,_,_,hf⟩:=h;exact hf.elim
 all_goals
  obtain⟨v,rfl,h1,c⟩:=h;have a:=JN hn c;simp only[AV.drp]at a ⊢;first
   | exact⟨v,rfl,h1,a⟩
   | (split at a<;>rename_i b<;>first|(rw[At b];exact⟨v,rfl,h1,a⟩)|(rw[As b];exact⟨v,rfl,h1,a⟩))
theorem A0J {V:Vw} {n:Nat} (hn:seat (V.ρ n)):(∀(x:AV) (cs:List Value),GS V x cs->GS (V.but n) (x.drp n) cs)/\∀(l:List AV) (cs:List Value),AVCs V l cs->AVCs (V.but n) (AV.drps n l) cs :=
 P8 (λ_=>by simp only[AV.drp]) (by simp only[AV.drps]) (λ_ _=>by simp only[AV.drps]) (A0I hn)
theorem VR {V:Vw} {n:Nat} (hn:seat (V.ρ n)) {cs:List Value} (h:AVCs V l cs):AVCs (V.but n) (AV.drps n l) cs:=(A0J hn).2 l cs h
theorem A4Y {V:Vw} {n:Nat} (hn:seat (V.ρ n)) {v:Value} (a:TD V x v):TD (V.but n) (x.drp n) v:=by
 cases x;case ag l=>obtain⟨cs,h1,b⟩:=a;simp only[AV.drp];exact⟨cs,h1,VR hn b⟩
 all_goals exact TD.of1 (JN hn a)
theorem fF {V:Vw} {n:Nat} (hn:seat (V.ρ n)):∀ {l:List AV} {a:List Value},II V l a->II (V.but n) (AV.drps n l) a
 | [],a,h=>(h:a=[])
 | x :: r,a,h=>by
  obtain⟨v,c,rfl,h1,b⟩:=h;simp only[AV.drps];exact⟨v,c,rfl,A4Y hn h1,fF hn b⟩
theorem A4Z {V:Vw} {v:Value} (h:MW V x v):CD V x v:=by
 cases x;case ag l=>exact h.elim
 case tup l=>exact h.elim
 all_goals exact h
theorem qY {V:Vw} {n:Nat} (hn:seat (V.ρ n)) {v:Value} (h:CD V x v):CD (V.but n) (x.drp n) v:=by
 cases x;case ag l=>obtain⟨cs,h1,a⟩:=h;simp only[AV.drp];exact⟨cs,h1,VR hn a⟩
 case tup l=>obtain⟨b,h1,a⟩:=h;simp only[AV.drp];exact⟨b,h1,fF hn a⟩
 all_goals exact A4Z (JN hn h)
theorem TL (n:Nat):∀l:List AV,(AV.drps n l).length=l.length
 | []=>rfl
 | _ :: r=>by simp[AV.drps,TL n r]
theorem A50 {n:Nat} {c:Obj} {env:List (Nat×AV)} (m:Nat):HV ⟨env,upd n c (Bj n σ.objs)⟩ m↔HV σ m:=by
 constructor
 .rintro⟨x,a⟩;rw[Gg,Br,Br]at a;split at a
  .rename_i e;subst e;simp only[Option.map_map,No]at a;obtain⟨y,b,_⟩:=a;exact⟨y,b⟩
  simp only[No]at a;obtain⟨y,b,_⟩:=a;exact⟨y,b⟩
 rintro⟨x,a⟩;by_cases e:m=n
 .subst e;exact⟨c,by simp[Gg,Br,a]⟩
 exact⟨x.drp n,by simp[Gg,Br,e,a]⟩
theorem CG.app (h:CG w0 K O0 nt ds σ ρ a w) (ab:∀b,K b->b<w0.heap.size) (aq:∀b,O0 b->b<w0.heap.size) {n:Nat} (ag:G9 n=false) {et:TypeId} {xs ys:List e.den} (hn:lk n σ.objs=some (.arr et e xs)) {loc:Value} {w':World} {cells:List Value}
  (E:w.grownBy w' (blk (ρ n))) (T:blk loc=blk (ρ n)\/∀b,blk loc=some b->w.heap.size<=b) (I:ys.length<=AP)
  (Q:w'.ownsRow 0 et e.size loc ys.length cells) (af:D1 w (own O0 σ ρ) e cells ys) {d:Nat} (ae:d<nt) {hi:Nat} (ah:hi=ys.length) :
  CG w0 K O0 nt ds ⟨(d,.sr n e 0 hi) :: F7 n σ.env,Fw.upd n (.arr et e ys) (Bj n σ.objs)⟩ (E3 ρ n loc) (a.put (some d) loc) w':=by
 subst ah;have J:∃a m c,(vw w O0 σ ρ).ρ n=.slice a m c:=by
  obtain⟨_,cells',ak,_⟩:=h.objs n _ hn;rcases ak.2 with ⟨D,_⟩|⟨g,cap,U,D,_⟩
  .exact⟨_,_,_,D⟩
  exact⟨_,_,_,D⟩
 let σ':St:=⟨(d,.sr n e 0 ys.length) :: F7 n σ.env,Fw.upd n (.arr et e ys) (Bj n σ.objs)⟩
 have F:∀m,HV σ' m↔HV σ m:=λm=>A50 m;have H:∀b,bk loc b↔blk loc=some b:=λb=>by
  rcases Q.2 with ⟨D,_⟩|⟨g,cap,U,D,_⟩
  .rw[D];exact MV
  rw[D];exact MV
 have ar:∀b,bk (ρ n) b↔blk (ρ n)=some b:=λb=>by
  obtain⟨Y,ao,c2,u⟩:=J;have u:ρ n=_:=u;rw[u];exact MV
 have ai:∀b,bk loc b->own O0 σ ρ b\/w.heap.size<=b:=by
  intro b f;replace f:=(H b).1 f;rcases T with h1|h1
  .exact .inl (.inr ⟨n,⟨_,hn⟩,.inl (by rw[<-h1];exact f)⟩)
  exact .inr (h1 b f)
 have hk:C3 ((vw w O0 σ ρ).but n) (vw w' O0 σ' (E3 ρ n loc)):=by
  refine⟨?_,λm I=>(F m).2 I.1,λm I=>?_,?_⟩
  .intro b O f C;rcases C with h0|⟨m,i,N⟩
   .exact f (.inl h0)
   by_cases P:m=n
   .subst P;rw[Bz]at N;rcases ai b N with h1|h1
    .exact f h1
    have O:b<w.heap.size:=O;omega
   have:E3 ρ n loc m=ρ m:=by simp[E3,P]
   rw[this]at N;exact f (.inr ⟨m,(F m).1 i,N⟩)
  .have:m≠n:=I.2;show E3 ρ n loc m=ρ m;simp[E3,this]
  intro b O f;exact E.block b O (λj=>f (.inr ⟨n,⟨_,hn⟩,.inl j.symm⟩))
 refine⟨⟨E.os.trans h.frm.os,E.tape.trans h.frm.tape,E.output.trans h.frm.output,iN h.frm.size E.size,λk R=>?_⟩,by rw[P9];exact h.nt,by rw[K4];exact h.defers,λp al=>?_,?_,?_,?_,?_⟩
 .refine(E.block k (ACb (ab k R) h.frm.size) (λj=>?_)).trans (h.frm.block k R);exact(h.free n k ⟨_,hn⟩ (.inl j.symm)).1 R
 .obtain⟨h1,G,B⟩:=h.pin p al;have av:p.1≠n:=by
   intro t;obtain⟨Y,ao,c2,u⟩:=J;have u:ρ n=_:=u;rw[<-t,G]at u;rw[u]at B;rcases B with B|B
   .cases B
   rw[t,ag]at B;cases B
  grind [E3]
 .intro m x A;show BI (vw w' O0 σ' (E3 ρ n loc)) x (E3 ρ n loc m);rw[Gg]at A;split at A
  .rename_i j;subst j;rw[Br,hn]at A;simp only[AD8]at A;cases A;rw[Bz];exact⟨I,cells,Q,af.keeps (V:=(vw w O0 σ ρ).but m) hk⟩
  rename_i j;rw[Br]at A;simp only[No]at A;obtain⟨y,r,rfl⟩:=A;have:E3 ρ n loc m=ρ m:=by simp[E3,j]
  rw[this];have f:∀b,bk (ρ m) b->w'.heap[b]?=w.heap[b]?:=λb C=>by
   refine E.block b ((h.objs m y r).block_lt C) (λt=>?_);exact j (h.dist m n b ⟨y,r⟩ ⟨_,hn⟩ C (.inl t.symm))
  have q:=h.objs m y r;cases y with
  | arr X t bb=>exact BI.keeps (V:=(vw w O0 σ ρ).but n) hk f q
  | box X st fs =>
   obtain⟨h0,b,cs,i,hh,ad⟩:=q;exact BI.keeps (V:=(vw w O0 σ ρ).but n) (o:=.box X st (AV.drps n fs)) hk f ⟨λam=>by rw[TL];exact h0 am,b,cs,i,hh,VR (.inl J) ad⟩
  | mapo k v l=>exact BI.keeps (V:=(vw w O0 σ ρ).but n) hk f q
  | nest et an k e xs i=>exact BI.keeps (V:=(vw w O0 σ ρ).but n) (o:=.nest et an k e xs i) hk f (Nc (V:=vw w O0 σ ρ) (V':=(vw w O0 σ ρ).but n) rfl rfl q)
  | frame ap fs =>
   obtain⟨h0,h1⟩:=q;refine BI.keeps (V:=(vw w O0 σ ρ).but n) (o:=.frame ap (F7 n fs)) hk f ⟨h0,λs z hz=>?_⟩;rw[KG]at hz;simp only[No]at hz;obtain⟨y,r,rfl⟩:=hz;exact qY (.inl J) (h1 s y r)
  | loop L=>exact BI.keeps (V:=(vw w O0 σ ρ).but n) hk f q
  | itr ax ba ay az aw=>exact BI.keeps (V:=(vw w O0 σ ρ).but n) hk f q
  | dfr=>exact BI.keeps (V:=(vw w O0 σ ρ).but n) hk f q
  | sit sb sp=>exact BI.keeps (V:=(vw w O0 σ ρ).but n) hk f q
 .intro m b i f;replace i:=(F m).1 i;by_cases j:m=n
  .subst j;rw[Bz]at f;rcases T with h1|h1
   .exact h.free m b i (.inl (by rw[<-h1];exact(H b).1 f))
   have:=h1 b ((H b).1 f);have:=h.frm.size;grind
  have:E3 ρ n loc m=ρ m:=by simp[E3,j]
  rw[this]at f;exact h.free m b i f
 .have key:∀m b,HV σ m->m≠n->bk (ρ m) b->bk loc b->False:=by
   intro m b i P f C;rcases T with h1|h1
   .exact P (h.dist m n b i ⟨_,hn⟩ f (.inl (by rw[<-h1];exact(H b).1 C)))
   have G:=h1 b ((H b).1 C);obtain⟨y,r⟩:=i;have:=(h.objs m y r).block_lt f;have:b<w.heap.size:=this;omega
  intro m M b i S h1 G;replace i:=(F m).1 i;replace S:=(F M).1 S;by_cases W:m=n<;>by_cases t:M=n
  .rw[W,t]
  .grind [E3,Bz]
  .grind [E3,Bz]
  have Z:E3 ρ n loc m=ρ m:=by simp[E3,W]
  have aa:E3 ρ n loc M=ρ M:=by simp[E3,t]
  rw[Z]at h1;rw[aa]at G;exact h.dist m M b i S h1 G
 intro s v hs;show CD (vw w' O0 σ' (E3 ρ n loc)) v _;rw[Nb a d loc s (by rw[h.nt];exact ae)];simp only[lk]at hs;split at hs
 .rename_i es;cases hs;rw[At es];refine⟨(F n).2 ⟨_,hn⟩,?_⟩;show Di (plc (E3 ρ n loc n)) e.size 0 ys.length loc;rw[Bz,Hu Q];rcases Q.2 with ⟨rfl,aj⟩|⟨g,cap,U,rfl,_,_,au,_⟩
  .exact⟨none,0,0,rfl,O1,O1,none,0,by rw[aj],O1,λ_=>⟨rfl,rfl⟩,λh=>by omega⟩
  exact⟨some ⟨g,0,none⟩,ys.length,cap,rfl,O1,O1,some ⟨g,0,none⟩,cap,sc,O1,λ_=>⟨rfl,rfl⟩,λ_=>by simp[NY]⟩
 rename_i es;rw[As es];rw[KG]at hs;simp only[No]at hs;obtain⟨y,r,rfl⟩:=hs;exact(qY (.inl J) (h.env s y r)).keeps hk
end
end
section
open Go Go.RowKit
def Vw.buts (V:Vw) (hs:List Nat):Vw:=⟨V.w,V.O,λm=>V.L m/\Ai m hs=false,V.ρ⟩
theorem aI {V:Vw} {hs:List Nat} (h:MW V x v):MW (V.buts hs) (x.fgt hs) v:=by
 cases x;case clo f ns =>
  simp only[AV.fgt];split
  .trivial
  rename_i a;refine⟨h.1,λn hn=>⟨⟨(h.2 n hn).1,?_⟩,(h.2 n hn).2⟩⟩;grind
 case ag l=>exact h.elim
 case tup l=>exact h.elim
 case p t d=>simp only[AV.fgt];exact h
 case pc e d=>simp only[AV.fgt];exact h
 case raw u=>simp only[AV.fgt];exact h
 case ip t d=>simp only[AV.fgt];exact h
 case fn f=>simp only[AV.fgt];exact h
 case top=>trivial
 all_goals
  simp only[AV.fgt];split
  .trivial
  rename_i a;exact⟨⟨h.1,by simpa using a⟩,h.2⟩
theorem A0K {V:Vw} {hs:List Nat} {cs:List Value} (h0:Xp x=false) (h:GS V x cs):GS (V.buts hs) (x.fgt hs) cs:=by
 cases x;case p t d=>simp only[AV.fgt];exact h
 case ag l=>cases h0
 case tup l=>obtain⟨v,_,_,hf⟩:=h;exact hf.elim
 all_goals
  obtain⟨v,rfl,h1,c⟩:=h;have a:=aI (hs:=hs) c;simp only[AV.fgt]at a ⊢;first
   | exact⟨v,rfl,h1,a⟩
   | (split at a<;>rename_i b<;>first|(rw[At b];exact⟨v,rfl,h1,a⟩)|(rw[As b];exact⟨v,rfl,h1,a⟩))
theorem A0L {V:Vw} {hs:List Nat}:(∀(x:AV) (cs:List Value),GS V x cs->GS (V.buts hs) (x.fgt hs) cs)/\∀(l:List AV) (cs:List Value),AVCs V l cs->AVCs (V.buts hs) (AV.fgts hs l) cs :=
 P8 (λ_=>by simp only[AV.fgt]) (by simp only[AV.fgts]) (λ_ _=>by simp only[AV.fgts]) A0K
theorem VS {V:Vw} {hs:List Nat} {cs:List Value} (h:AVCs V l cs):AVCs (V.buts hs) (AV.fgts hs l) cs:=A0L.2 l cs h
theorem A51 {V:Vw} {hs:List Nat} (a:TD V x v):TD (V.buts hs) (x.fgt hs) v:=by
 cases x;case ag l=>obtain⟨cs,h1,b⟩:=a;simp only[AV.fgt];exact⟨cs,h1,VS b⟩
 all_goals exact TD.of1 (aI a)
theorem fG {V:Vw} {hs:List Nat}:∀ {l:List AV} {a:List Value},II V l a->II (V.buts hs) (AV.fgts hs l) a
 | [],a,h=>(h:a=[])
 | x :: r,a,h=>by
  obtain⟨v,c,rfl,h1,b⟩:=h;simp only[AV.fgts];exact⟨v,c,rfl,A51 h1,fG b⟩
theorem UX {V:Vw} {hs:List Nat} (h:CD V x v):CD (V.buts hs) (x.fgt hs) v:=by
 cases x;case ag l=>obtain⟨cs,h1,a⟩:=h;simp only[AV.fgt];exact⟨cs,h1,VS a⟩
 case tup l=>obtain⟨b,h1,a⟩:=h;simp only[AV.fgt];exact⟨b,h1,fG a⟩
 all_goals exact A4Z (aI h)
theorem Gk (hs:List Nat) (s:Nat):∀l:List (Nat×AV),lk s (Cv hs l)=(lk s l).map (AV.fgt hs)
 | []=>rfl
 | (j,v) :: l=>by
  simp only[Cv,lk];split
  .rfl
  exact Gk hs s l
theorem TM (hs:List Nat):∀l:List AV,(AV.fgts hs l).length=l.length
 | []=>rfl
 | _ :: r=>by simp[AV.fgts,TM hs r]
theorem Ci (a hs:List Nat) (n:Nat):∀l:List (Nat×Obj),lk n (A6 a hs l)=if Ai n a=true then none else (lk n l).map (Obj.fgt hs)
 | []=>by simp[A6,lk]
 | (j,o) :: l=>by
  simp only[A6];by_cases b:Ai j a=true
  .rw[At b,Ci a hs n l];grind [lk]
  rw[As b];simp only[lk];by_cases hn:n=j
  .subst hn;simp[b]
  simp[hn,Ci a hs n l]
theorem aJ {V V':Vw} {hs:List Nat} (hk:C3 (V.buts hs) V') {o:Obj} {loc:Value} (a:∀b,bk loc b->V'.w.heap[b]?=V.w.heap[b]?) (h:BI V o loc):BI V' (o.fgt hs) loc:=by
 cases o with
 | arr et e xs=>exact BI.keeps (V:=V.buts hs) hk a h
 | box et st fs =>
  obtain⟨h0,b,cs,c,hh,d⟩:=h;exact BI.keeps (V:=V.buts hs) (o:=.box et st (AV.fgts hs fs)) hk a ⟨λf=>by rw[TM];exact h0 f,b,cs,c,hh,VS d⟩
 | mapo k v l=>exact BI.keeps (V:=V.buts hs) hk a h
 | nest et i k e xs c=>exact BI.keeps (V:=V.buts hs) (o:=.nest et i k e xs c) hk a (Nc (V:=V) (V':=V.buts hs) rfl rfl h)
 | frame j fs =>
  obtain⟨h0,h1⟩:=h;refine BI.keeps (V:=V.buts hs) (o:=.frame j (Cv hs fs)) hk a ⟨h0,λs z hz=>?_⟩;rw[Gk]at hz;simp only[No]at hz;obtain⟨y,g,rfl⟩:=hz;exact UX (h1 s y g)
 | loop L=>exact BI.keeps (V:=V.buts hs) hk a h
 | itr n r p q m=>exact BI.keeps (V:=V.buts hs) hk a h
 | dfr=>exact BI.keeps (V:=V.buts hs) hk a h
 | sit sb sp=>exact BI.keeps (V:=V.buts hs) hk a h
section
variable {w0:World} {K O0:Nat->Prop} {nt:Nat} {ds:Fp} {σ:St} {ρ:Nat->Value} {a:Act} {w:World}
theorem CG.swap (h:CG w0 K O0 nt ds σ ρ a w) (H:∀b,K b->b<w0.heap.size) (ad:∀b,O0 b->b<w0.heap.size) {T:Nat->Prop} (hT:∀n,T n->G9 n=false/\∃o,lk n σ.objs=some o/\seat (ρ n))
  {new:List (Nat×Obj)} {σ':St} {ρ':Nat->Value} {w':World} {dst:Option Nat} {u:Value}
  (V:w'.os=w.os) (aa:w'.tape=w.tape) (W:w'.output=w.output) (Y:w.heap.size<=w'.heap.size)
  (M:∀b,b<w.heap.size->(∀n,T n->¬bk (ρ n) b)->w'.heap[b]?=w.heap[b]?)
  (r:∀n o,lk n σ'.objs=some o->lk n new=none->¬T n/\∃d,lk n σ.objs=some d)
  (N:∀n o,lk n σ.objs=some o->¬T n->lk n new=none/\∃d,lk n σ'.objs=some d)
  (l:∀n,lk n new=none->ρ' n=ρ n)
  (D:∀n o b,lk n new=some o->bk (ρ' n) b->(∃m,T m/\bk (ρ m) b)\/w.heap.size<=b)
  (I:∀n m o t b,lk n new=some o->lk m new=some t->bk (ρ' n) b->bk (ρ' m) b->n=m)
  (U:∀n o,lk n σ'.objs=some o->BI (vw w' O0 σ' ρ') o (ρ' n))
  (J:∀s v,lk s σ'.env=some v->CD (vw w' O0 σ' ρ') v ((a.put dst u).tmps.getD s undef)) :
  CG w0 K O0 nt ds σ' ρ' (a.put dst u) w':=by
 have ae:∀m,T m->∀b,bk (ρ m) b->b<w.heap.size:=λm c b i=>by
  obtain⟨_,o,g,_⟩:=hT m c;exact(h.objs m o g).block_lt i
 have A:∀m,T m->∀b,bk (ρ m) b->¬K b/\¬O0 b:=λm c b i=>by
  obtain⟨_,o,g,_⟩:=hT m c;exact h.free m b ⟨o,g⟩ i
 refine⟨⟨V.trans h.frm.os,aa.trans h.frm.tape,W.trans h.frm.output,iN h.frm.size Y,λk hk=>?_⟩,by rw[P9];exact h.nt,by rw[K4];exact h.defers,λp X=>?_,U,?_,?_,J⟩
 .exact(M k (ACb (H k hk) h.frm.size) λn hn i=>(A n hn k i).1 hk).trans (h.frm.block k hk)
 .obtain⟨⟨o,h1⟩,f,j⟩:=h.pin p X;have P:¬T p.1:=λZ=>by
   obtain⟨hf,_,_,hs⟩:=hT _ Z;rw[f]at hs;rcases j with j|j
   .rcases hs with ⟨_,_,_,z⟩|⟨_,z⟩<;>rw[z]at j<;>cases j
   rw[hf]at j;cases j
  obtain⟨F,G⟩:=N p.1 o h1 P;exact⟨G,(l _ F).trans f,j⟩
 .intro n b y i;obtain⟨o,g⟩:=y;cases hn:lk n new with
  | none =>
   obtain⟨_,d,h1⟩:=r n o g hn;rw[l n hn]at i;exact h.free n b ⟨d,h1⟩ i
  | some e =>
   rcases D n e b hn i with ⟨m,c,x⟩|L
   .exact A m c b x
   have:=h.frm.size;grind
 have key:∀n m o e b,lk n σ'.objs=some o->lk n new=none->lk m new=some e->bk (ρ' n) b->bk (ρ' m) b->False:=by
  intro n m o e b g hn c h1 f;obtain⟨Q,d,q⟩:=r n o g hn;rw[l n hn]at h1;rcases D m e b c f with ⟨E,B,x⟩|L
  .obtain⟨_,ab,S,_⟩:=hT E B;have:=h.dist n E b ⟨d,q⟩ ⟨ab,S⟩ h1 x;exact Q (this▸B)
  have af:b<w.heap.size:=(h.objs n d q).block_lt h1;omega
 intro n m b y O h1 f;obtain⟨o,g⟩:=y;obtain⟨t,C⟩:=O;cases hn:lk n new with
 | none =>
  cases c:lk m new with
  | none =>
   obtain⟨_,d,q⟩:=r n o g hn;obtain⟨_,e,R⟩:=r m t C c;rw[l n hn]at h1;rw[l m c]at f;exact h.dist n m b ⟨d,q⟩ ⟨e,R⟩ h1 f
  | some e=>exact(key n m o e b g hn c h1 f).elim
 | some d =>
  cases c:lk m new with
  | none=>exact(key m n t d b C c hn f h1).elim
  | some e=>exact I n m d e b hn c h1 f
end
end
section
open Go Go.RowKit
structure QH (V V':Vw) (n:Nat) (hs:List Nat):Prop where
 O:∀b,b<V.w.heap.size->¬V.O b->¬V'.O b
 L:∀m,V.L m->Ai m hs=false->V'.L m
 ρ:∀m,V.L m->Ai m hs=false->m≠n->V'.ρ m=V.ρ m
 tup:∃vs,V.ρ n=.tuple vs
 plc:plc (V'.ρ n)=plc (V.ρ n)
 heap:∀b,b<V.w.heap.size->¬V.O b->V'.w.heap[b]?=V.w.heap[b]?
section
variable {V V':Vw} {n:Nat} {hs:List Nat}
theorem QH.pl (h:QH V V' n hs) {m:Nat} (a:V.L m) (b:Ai m hs=false):Fw.plc (V'.ρ m)=Fw.plc (V.ρ m):=by
 by_cases e:m=n
 .subst e;exact h.plc
 rw[h.ρ m a b e]
theorem QH.ptr (h:QH V V' n hs) {m:Nat} (b:V.L m) (c:Ai m hs=false) (d:V.ρ m=v) (f:∀a,v≠.tuple a):V'.ρ m=v:=by
 have e:m≠n:=λe=>by
  obtain⟨a,h1⟩:=h.tup;grind
 rw[h.ρ m b c e,d]
theorem aK (h:QH V V' n hs) (c:MW V x v):MW V' (x.trn n hs) v:=by
 cases x;case ag l=>exact c.elim
 case tup l=>exact c.elim
 case p t d=>simp only[AV.trn];exact Bg.mono h.O h.heap c
 case pc e d=>simp only[AV.trn];exact⟨Bg.mono h.O h.heap c.1,c.2⟩
 case raw u=>simp only[AV.trn];exact c
 case fn f=>simp only[AV.trn];exact c
 case top=>trivial
 case ip t d =>
  simp only[AV.trn];obtain⟨ad,cs,o,q,r,B⟩:=c;have s:ad.block<V.w.heap.size:=by
   have H:=t.size_pos;have F:=B.length;have:=block_lt_of_cell (r 0 (cs[0]'(by omega)) (AT O1))
   rwa [CF]at this
  refine⟨ad,cs,o,h.O _ s q,λj u C=>?_,B6.mono h.O h.heap B⟩;rw[ADN (w:=V.w) (w':=V'.w)]
  .exact r j u C
  rw[CF];exact h.heap _ s q
 case sr m e lo hi =>
  simp only[AV.trn];split
  .trivial
  rename_i a;have a:Ai m hs=false:=by simpa using a
  exact⟨h.L m c.1 a,by rw[h.pl c.1 a];exact c.2⟩
 case ep m e i E off =>
  simp only[AV.trn];split
  .trivial
  rename_i a;have a:Ai m hs=false:=by simpa using a
  exact⟨h.L m c.1 a,by rw[h.pl c.1 a];exact c.2⟩
 case nin m e i len =>
  simp only[AV.trn];split
  .trivial
  rename_i a;have D:m≠n:=λe=>a (.inl e);have y:Ai m hs=false:=by grind
  exact⟨h.L m c.1 y,by rw[h.ρ m c.1 y D];exact c.2⟩
 case bp m E off =>
  simp only[AV.trn];split
  .trivial
  rename_i a;have a:Ai m hs=false:=by simpa using a
  obtain⟨g,b,k,o⟩:=c;exact⟨h.L m g a,b,h.ptr g a k (λ_ e=>by cases e),o⟩
 case mp m =>
  simp only[AV.trn];split
  .trivial
  rename_i a;have a:Ai m hs=false:=by simpa using a
  obtain⟨g,b,k,o⟩:=c;exact⟨h.L m g a,b,h.ptr g a k (λ_ e=>by cases e),o⟩
 case yl m =>
  simp only[AV.trn];split
  .trivial
  rename_i a;have a:Ai m hs=false:=by simpa using a
  obtain⟨g,b,k,o⟩:=c;exact⟨h.L m g a,b,h.ptr g a k (λ_ e=>by cases e),o⟩
 case clo f ns =>
  simp only[AV.trn];split
  .trivial
  rename_i G;have z:∀m∈ns,Ai m hs=false:=λm a=>by grind
  have A:∀m∈ns,V'.ρ m=V.ρ m:=λm a=>by
   obtain⟨g,b,k⟩:=c.2 m a;rw[h.ptr g (z m a) k (λ_ e=>by cases e),k]
  refine⟨?_,λm a=>⟨h.L m (c.2 m a).1 (z m a),by rw[A m a];exact(c.2 m a).2⟩⟩;rw[c.1]
  congr 1
  exact iF λm a=>(A m a).symm
theorem A0M (h:QH V V' n hs) {cs:List Value} (h0:Xp x=false) (b:GS V x cs):GS V' (x.trn n hs) cs:=by
 cases x;case p t d=>simp only[AV.trn];exact(B6.mono h.O h.heap b:B6 V'.w V'.O t cs d)
 case ag l=>cases h0
 case tup l=>obtain⟨v,_,_,hf⟩:=b;exact hf.elim
 all_goals
  obtain⟨v,rfl,h1,e⟩:=b;have a:=aK h e;simp only[AV.trn]at a ⊢;first
   | exact⟨v,rfl,h1,a⟩
   | (split at a<;>rename_i c<;>first|(rw[At c];exact⟨v,rfl,h1,a⟩)|(rw[As c];exact⟨v,rfl,h1,a⟩))
theorem A0N (h:QH V V' n hs):(∀(x:AV) (cs:List Value),GS V x cs->GS V' (x.trn n hs) cs)/\∀(l:List AV) (cs:List Value),AVCs V l cs->AVCs V' (AV.trns n hs l) cs :=
 P8 (λ_=>by simp only[AV.trn]) (by simp only[AV.trns]) (λ_ _=>by simp only[AV.trns]) (A0M h)
theorem VT (h:QH V V' n hs) {l:List AV} {cs:List Value} (a:AVCs V l cs):AVCs V' (AV.trns n hs l) cs:=(A0N h).2 l cs a
theorem A52 (h:QH V V' n hs) (a:TD V x v):TD V' (x.trn n hs) v:=by
 cases x;case ag l=>obtain⟨cs,h1,b⟩:=a;simp only[AV.trn];exact⟨cs,h1,VT h b⟩
 all_goals exact TD.of1 (aK h a)
theorem fH (h:QH V V' n hs):∀ {l:List AV} {a:List Value},II V l a->II V' (AV.trns n hs l) a
 | [],a,b=>(b:a=[])
 | x :: r,a,b=>by
  obtain⟨v,d,rfl,h1,c⟩:=b;simp only[AV.trns];exact⟨v,d,rfl,A52 h h1,fH h c⟩
theorem aL (h:QH V V' n hs) (b:CD V x v):CD V' (x.trn n hs) v:=by
 cases x;case ag l=>obtain⟨cs,h1,a⟩:=b;simp only[AV.trn];exact⟨cs,h1,VT h a⟩
 case tup l=>obtain⟨c,h1,a⟩:=b;simp only[AV.trn];exact⟨c,h1,fH h a⟩
 all_goals exact A4Z (aK h b)
theorem Fu (n:Nat) (hs:List Nat) (s:Nat):∀l:List (Nat×AV),lk s (EZ n hs l)=(lk s l).map (AV.trn n hs)
 | []=>rfl
 | (j,v) :: l=>by
  simp only[EZ,lk];split
  .rfl
  exact Fu n hs s l
theorem TN (n:Nat) (hs:List Nat):∀l:List AV,(AV.trns n hs l).length=l.length
 | []=>rfl
 | _ :: r=>by simp[AV.trns,TN n hs r]
theorem Dj (n:Nat) (hs:List Nat) (m:Nat):∀l:List (Nat×Obj),lk m (Cw n hs l)=if Ai m (n :: hs)=true then none else (lk m l).map (Obj.trn n hs)
 | []=>by simp[Cw,lk]
 | (j,o) :: l=>by
  simp only[Cw];by_cases a:Ai j (n :: hs)=true
  .rw[At a,Dj n hs m l];grind [lk]
  rw[As a];simp only[lk];by_cases b:m=j
  .subst b;simp[a]
  simp[b,Dj n hs m l]
theorem qZ (h:QH V V' n hs) {o:Obj} {loc:Value} (c:∀b,bk loc b->V'.w.heap[b]?=V.w.heap[b]?) (a:BI V o loc):BI V' (o.trn n hs) loc:=by
 have hk:C3 ⟨V.w,V.O,λ_=>False,V.ρ⟩ V':=⟨h.O,λ_ h=>h.elim,λ_ h=>h.elim,h.heap⟩;cases o with
 | arr et e xs=>exact BI.keeps (V:=⟨V.w,V.O,λ_=>False,V.ρ⟩) (o:=.arr et e xs) hk c a
 | box et st fs =>
  obtain⟨h0,b,cs,rfl,h1,d⟩:=a;exact⟨λg=>by rw[TN];exact h0 g,b,cs,rfl,(c b (.inl rfl)).trans h1,VT h d⟩
 | mapo k v l=>exact BI.keeps (V:=⟨V.w,V.O,λ_=>False,V.ρ⟩) (o:=.mapo k v l) hk c a
 | nest et m k e xs f=>exact BI.keeps (V:=⟨V.w,V.O,λ_=>False,V.ρ⟩) (o:=.nest et m k e xs f) hk c (Nc (V:=V) (V':=⟨V.w,V.O,λ_=>False,V.ρ⟩) rfl rfl a)
 | frame u fs =>
  obtain⟨h0,h1⟩:=a;refine⟨h0,λs z hz=>?_⟩;rw[Fu]at hz;simp only[No]at hz;obtain⟨y,i,rfl⟩:=hz;exact aL h (h1 s y i)
 | loop L=>exact BI.keeps (V:=⟨V.w,V.O,λ_=>False,V.ρ⟩) (o:=.loop L) hk c a
 | itr p t q r j=>exact BI.keeps (V:=⟨V.w,V.O,λ_=>False,V.ρ⟩) (o:=.itr p t q r j) hk c a
 | dfr=>exact BI.keeps (V:=⟨V.w,V.O,λ_=>False,V.ρ⟩) (o:=.dfr) hk c a
 | sit sb sp=>exact BI.keeps (V:=⟨V.w,V.O,λ_=>False,V.ρ⟩) (o:=.sit sb sp) hk c a
end
end
section
open Go Go.RowKit
theorem mC {t:Ty} (h:t.cell1=true):t.size=1:=by cases t<;>simp[Ty.cell1]at h<;>rfl
theorem YJ {V:Vw} {ty:Ty} {es:List Value} (b:GS V x es) (hf:OK ty x=true):es.length=ty.size:=by
 by_cases a:x=.top
 .subst a;obtain⟨v,rfl,_⟩:=b;grind [OK,mC]
 have hf:CW ty x=true:=by cases x<;>first|exact hf|exact absurd rfl a
 exact(l8 b hf).1
theorem YK {V:Vw} {ty:Ty} {u v:AV} {j:List Value} (hu:OK ty u=true) (M:CW ty v=true)
  (H:∀l,v=.ag l->AVCs V l j) (n:(∀l,v≠.ag l)->GS V v j) (K:j.length=ty.size):∀ {E:List Nat} {st:Bool} {fs m:List AV} {off:Nat} {cs:List Value},AVCs V fs cs->(st=false->fs.length=1) ->
  GB st fs v E=some m->Jm fs E=some off->FE st fs E=some u->off+j.length<=cs.length/\AVCs V m (A9 cs off j)/\(st=false->m.length=1)
 | [],st,fs,m,off,cs,c,C,h,f,b=>by
  simp only[Jm]at f;cases f;cases st with
  | true =>
   simp only[GB,FE,ACk]at h b;cases b;have R:cs.length=ty.size:=by
    have:=c.length;cases ty<;>simp only[OK,CW]at hu<;>try(cases hu;done)
    grind [Ty.size]
   rw[D6 O1];split at h
   .cases h;exact⟨O1,A0B _ _ _ _ (n sc),sc⟩
   .cases h;exact⟨O1,H _ rfl,sc⟩
   cases h
  | false =>
   simp only[GB,FE,ACT,AD1]at h b;split at h
   .rename_i i;have i:∀l,v≠.ag l:=λl e=>by subst e;simp[P3]at i
    cases h;obtain⟨x,rfl⟩:=ACz.1 (C rfl);simp at b;subst b;obtain⟨c1,c2,rfl,h1,a⟩:=c;have a:c2=[]:=a;subst a;have I:=YJ h1 hu;rw[AAW,D6 O1];exact⟨O1,⟨j,[],sc,n i,rfl⟩,sc⟩
   cases h
 | [k],st,fs,m,off,cs,c,C,h,f,b=>by
  simp only[GB]at h;split at h
  .rename_i F;simp only[An]at F;obtain⟨rfl,i⟩:=F;have i:∀l,v≠.ag l:=λl e=>by subst e;simp[P3]at i
   cases h;simp only[FE,ACk]at b;obtain⟨h1,a⟩:=c.get b;have I:=YJ a hu;have Q:=a.length;have L:off=CT fs k:=by grind [Jm,MM]
   subst L;have z:=n i;have g:=z.length;exact⟨O1,c.set b z O1,sc⟩
  cases h
 | k :: S :: r,st,fs,m,off,cs,c,C,h,f,b=>by
  cases st with
  | false=>simp[GB]at h
  | true =>
   simp only[GB,ACk]at h;split at h
   .rename_i t d P x hk;simp only[No]at h;obtain⟨y,D,rfl⟩:=h;simp only[Jm,hk,No]at f;obtain⟨N,B,rfl⟩:=f;obtain⟨h1,a⟩:=c.get hk;have A:B6 V.w V.O t _ d:=a;have z:B6 V.w V.O P j x:=n sc;obtain⟨g,q⟩:=VI D B A z;have s:=a.length;simp only[AV.cells]at h1 s q g;have o:=c.set (y:=.p t y) hk (g:B6 V.w V.O t _ y) rfl;rw[Jt _ _ _ _ _ O1 h1]at o;exact⟨O1,o,sc⟩
   .rename_i l hk;simp only[No]at h;obtain⟨l',D,rfl⟩:=h;simp only[Jm,hk,No]at f;obtain⟨N,B,rfl⟩:=f;simp only[FE,ACk,hk]at b;obtain⟨h1,a⟩:=c.get hk;have A:AVCs V l _:=a;have s:=a.length;obtain⟨g,q,_⟩:=YK hu M H n K A sc D (by simpa only[Jm] using B) b;have J:(AV.ag l').cells=(AV.ag l).cells:=by
     have G:=GS.length (V:=V) (x:=.ag l') q;rw[EW g]at G;rw[<-G,s]
    have o:=c.set (y:=.ag l') hk (show GS V (.ag l') _ from q) J;rw[s]at g;rw[Jt _ _ _ _ _ g h1]at o;exact⟨O1,o,sc⟩
   cases h
section
variable {P:Program} {tb:Tb} {w0:World} {K O0:Nat->Prop} {nt:Nat} {ds:Fp} {σ σ':St} {ρ:Nat->Value} {a:Act} {w:World} {vc:Prop}
theorem TP {n:Nat} {o:Obj} (hn:lk n σ.objs=some o) {g:Nat} (c:blk (ρ n)=some g) {w':World} (d:w.grownBy w' (some g)):C3 (vw w O0 σ ρ) (vw w' O0 σ ρ) :=
 ⟨λ_ _ h=>h,λ_ h=>h,λ_ _=>rfl,λb f a=>d.block b f (λe=>by injection e with e;subst e;exact a (.inr ⟨n,⟨o,hn⟩,.inl c⟩))⟩
theorem GE (w:World) (g:Nat) (cs:Array Value):w.grownBy (w.setRow g cs) (some g) :=
 ⟨rfl,rfl,rfl,sc,λk _ hk=>setRow_other w g k cs (λe=>hk (by rw[e]))⟩
theorem Mb (hT:EI P tb t X) {g off:Nat} {cs:List Value} {et:TypeId} {xv:Value} (hh:w.heap[g]?=some (.cells cs.toArray et (0,0))) (hs:xv.cells.size=X.ty.size)
  (b:off+xv.cells.toList.length<=cs.length) (h1:∀u∈xv.cells.toList,u.oneCell'=true) :
  (Instr.storeAt t (.pointer (some ⟨g,off,none⟩)) xv).run P w=.ok () (w.setRow g (A9 cs off xv.cells.toList).toArray):=by
 have a:=run_storeCells_at P g off et xv.cells.toList 0 cs.toArray w hh (by simpa using b) h1;simp only[Nat.add_zero]at a;have c:¬xv.cells.size≠X.ty.size:=by omega
 simp only[Instr.storeAt,Instr.sureAddr,storeVar,ACc,AD6,AAM,IK w hT,As c,a];rfl
theorem q9 {w':World} {next:Act->World->Prop} {Q:Exit->Act->World->Prop} {r:Option Nat} (h:(execOp a.eval o).run P w=.ok .skip w') (hn:next (a.put o.dst undef) w') (hnd:∀c,o.op≠.defer c:=by intro c e;cases e):o.wpIn (FR r) 0 P a w next Q:=by
 refine⟨λ_ _=>trivial,?_⟩;rw[Et _ _ _ hnd,h];exact hn
theorem w4 (hs:CG w0 K O0 nt ds σ ρ a w) (ak:∀b,K b->b<w0.heap.size) (hT:DI P tb) {x:Operand} (bt:∀n e i s off,Al σ x=some (.ep n e i s off)->C7 (lk n σ.objs)=false) (h:IH σ (lk t tb.ty) (Al σ x) (Al σ y)=some (vc,σ')) (cy:vc) :
  ∃w',(Instr.storeAt t (a.eval x) (a.eval y)).run P w=.ok () w'/\CG w0 K O0 nt ds σ' ρ a w':=by
 have G:Es (vw w O0 σ ρ) σ a.eval:=Cp hs.env;unfold IH at h;split at h
 .rename_i ti n s off v ab Q ah;have af:=G x _ Q;have D:=G y _ ah;cases hn:lk n σ.objs with
  | none=>rw[hn]at h;simp[DT]at h
  | some o =>
   rw[hn]at h;cases o with
   | arr et e xs=>simp[DT]at h
   | mapo k v l=>simp[DT]at h
   | frame cm fs=>simp[DT]at h
   | loop L=>simp[DT]at h
   | itr ch ck ci cj cf=>simp[DT]at h
   | dfr=>simp[DT]at h
   | sit sb sp=>simp[DT]at h
   | nest et cg k e xs bp=>simp[DT]at h
   | box et st fs =>
    simp only[DT]at h;cases I:FE st fs s with
    | none=>rw[I]at h;simp[FO]at h
    | some u =>
     cases Z:GB st fs v s with
     | none=>rw[I,Z]at h;simp[FO]at h
     | some cq =>
      rw[I,Z]at h;simp only[FO]at h;split at h
      .rename_i ax;obtain⟨hu,ad,bu,_⟩:=ax;cases h;obtain⟨ca,b,cs,W,C,bh⟩:=hs.objs n _ hn;obtain⟨bf,co,f,ae⟩:=af;have f:ρ n=_:=f;rw[W]at f;injection f with f
       injection f with f
       injection f with f
       subst f;have H:=A0u D ad (OP D ad);have al:∀l,v=.ag l->AVCs (vw w O0 σ ρ) l (a.eval y).cells.toList:=by
        intro l e;subst e;obtain⟨cp,A,bi⟩:=D;rw[A];simpa[Value.cells] using bi
       obtain⟨h1,R,bc⟩:=YK hu ad al (λJ=>H.2 J) (by simpa using H.1) bh ca Z bu I;have bw:∀z∈(a.eval y).cells.toList,z.oneCell'=true:=by
        by_cases J:∃l,v=.ag l
        .obtain⟨l,e⟩:=J;exact(al l e).one
        exact(H.2 (λl e=>J ⟨l,e⟩)).one
       have Y:=Mb (hT _ _ ab) C H.1 h1 bw;rw[ae];refine⟨_,Y,?_⟩;have id:blk (ρ n)=some b:=by rw[W];rfl
       refine hs.upd ak hn id (GE w b _) ⟨bc,b,_,W,setRow_heap w b _ _ et _ C,?_⟩;exact R.keeps (TP hn id (GE w b _))
      cases h
 .rename_i ti n e i s off v ab Q ah;have af:=G x _ Q;have D:=G y _ ah;cases hn:lk n σ.objs with
  | none=>rw[hn]at h;simp[DU]at h
  | some o =>
   rw[hn]at h;cases o with
   | box et st fs=>simp[DU]at h
   | mapo k v l=>simp[DU]at h
   | frame cm fs=>simp[DU]at h
   | loop L=>simp[DU]at h
   | itr ch ck ci cj cf=>simp[DU]at h
   | dfr=>simp[DU]at h
   | sit sb sp=>simp[DU]at h
   | nest et cg k e xs bp=>have:=bt _ _ _ _ _ Q;rw[hn]at this;cases this
   | arr et d xs =>
    simp only[DU]at h;cases T:Bh (.slice e) ⟨.slice d,xs⟩ with
    | none=>rw[T]at h;simp[Ep]at h
    | some ys =>
     obtain⟨rfl,R⟩:=B3 T;cases R;rw[T]at h;cases S:JC false σ ti.ty v with
     | none=>rw[S]at h;simp[Ep]at h
     | some cn =>
      rw[S]at h;simp only[Ep]at h;cases aa:VA s d (xs.getD i d.dflt) ⟨ti.ty,cn⟩ with
      | none=>rw[aa]at h;simp[GC]at h
      | some z =>
       rw[aa]at h;simp only[GC]at h;split at h
       .rename_i bv;cases h;obtain⟨br,cells,M,F⟩:=hs.objs n _ hn;obtain⟨bf,g,m,c,f,X,ae⟩:=af;have f:plc (ρ n)=_:=f;have M:w.ownsRow 0 et d.size (ρ n) xs.length cells:=M;rw[Hu M]at f;have F:D1 w (own O0 σ ρ) d cells xs:=F;have cd:=Ft (V:=vw w O0 σ ρ) (O':=own O0 σ ρ) (λ_ h=>h) (λh=>by cases h) hs.objs S D;obtain⟨aw,av⟩:=YD cd;obtain⟨au,bx⟩:=M;rcases bx with ⟨A,_⟩|⟨cr,cap,r,A,cu,C,an,bg,U,cb⟩
        .grind
        rw[f]at A;injection A with B bj bk
        injection B with B
        injection B with B
        subst B;subst bj;have ce:xs[i]?=some (xs.getD i d.dflt):=by
         rw[AT X,AS,AT X];rfl
        obtain⟨es,bm,ap,bl⟩:=F i _ ce;obtain⟨bd,be⟩:=VI aa bv bl av;have ct:cells.length=xs.length*d.size:=au;have bo:(i+1)*d.size<=xs.length*d.size:=AAu _ X;have cv:xs.length*d.size<=cap*d.size:=AAu _ an;rw[ACZ]at bo;have am:i*d.size+off+(a.eval y).cells.toList.length<=r.toList.length:=by
         have bq:r.toList.length=cap*d.size:=by rw[<-U];simp
         have cx:(a.eval y).cells.toList.length=ti.ty.size:=by rw[<-aw];simp
         omega
        have bn:w.heap[g]?=some (.cells r.toList.toArray et (0,0)):=by simpa using C
        have Y:=Mb (hT _ _ ab) bn aw am av.one;rw[ae];refine⟨_,Y,?_⟩;have id:blk (ρ n)=some g:=by rw[f];rfl
        have bz:(A9 r.toList (i*d.size+off) (a.eval y).cells.toList).length=r.size:=by rw[EW am];simp
        have cc:(A9 r.toList (i*d.size+off) (a.eval y).cells.toList).take (xs.length*d.size)=A9 cells (i*d.size+off) (a.eval y).cells.toList:=by
         rw[<-cb];apply AE9;intro j;simp only[A9,AAp,AAA,ACg,On,ACh,ACU];have ai:min (i*d.size+off) r.toList.length=i*d.size+off:=by omega
         have E:min (i*d.size+off) (xs.length*d.size)=i*d.size+off:=by omega
         have cl:min (xs.length*d.size) r.toList.length=xs.length*d.size:=by
          have bq:r.toList.length=cap*d.size:=by rw[<-U];simp
          omega
         simp only[ai,E,cl];by_cases c1:j<i*d.size+off
         .simp[c1,show j<xs.length*d.size by omega]
         by_cases c2:j-(i*d.size+off)<(a.eval y).cells.toList.length
         .simp only[c1,c2,AD1,ACk,show j<xs.length*d.size by omega]
         simp only[c1,c2,AD1];by_cases aj:j<xs.length*d.size
         .rw[At aj,At O1]
         rw[As aj,As O1]
        refine hs.upd ak hn id (GE w g _) ⟨by simpa using br,A9 cells (i*d.size+off) (a.eval y).cells.toList,⟨?_,.inr ⟨g,cap,_,by rw[f,bk];simp,DO _,setRow_heap w g _ _ et _ C,by simpa using an,bg,by simp[bz,U],?_⟩⟩,?_⟩
        .rw[EW O1];simpa using au
        .simpa using cc
        have hk:=TP (O0:=O0) hn id (GE w g (A9 r.toList (i*d.size+off) (a.eval y).cells.toList).toArray);have bs:D1 (vw w O0 σ ρ).w (vw w O0 σ ρ).O d (A9 cells (i*d.size+off) (a.eval y).cells.toList) (xs.set i z):=by
         intro k q N;rw[ACs]at N;split at N
         .rename_i aq;subst aq;cases N;refine⟨A9 es off (a.eval y).cells.toList,by rw[EW be];exact bm,λj u p=>?_,bd⟩;simp only[A9,AAp,ACg,On,AAA,ACh]at p ⊢;have ai:min off es.length=off:=by omega
          have E:min (i*d.size+off) cells.length=i*d.size+off:=by omega
          simp only[ai]at p;simp only[E];by_cases c1:j<off
          .simp only[c1,ACk]at p;simp only[show i*d.size+j<i*d.size+off by omega,ACk];exact ap _ _ p
          simp only[c1,AD1]at p;simp only[show ¬i*d.size+j<i*d.size+off by omega,AD1];rw[show i*d.size+j-(i*d.size+off)=j-off by omega];by_cases c2:j-off<(a.eval y).cells.toList.length
          .simp only[c2,ACk]at p ⊢;exact p
          simp only[c2,AD1]at p ⊢;have:=ap _ _ p;rw[<-this]
          congr 1
          omega
         rename_i aq;obtain⟨ay,az,ba,bb⟩:=F k q N;refine⟨ay,az,λj u p=>?_,bb⟩;have cw:=(aT.1 p).1;have ao:=ba j u p;simp only[A9,AAp,ACg,On,AAA,ACh];have E:min (i*d.size+off) cells.length=i*d.size+off:=by omega
         simp only[E];rcases Nat.lt_or_ge k i with ar|ar
         .have:(k+1)*d.size<=i*d.size:=AAu _ ar;rw[ACZ]at this;simp only[show k*d.size+j<i*d.size+off by omega,ACk];exact ao
         have:(i+1)*d.size<=k*d.size:=AAu _ O1;rw[ACZ]at this;simp only[show ¬k*d.size+j<i*d.size+off by omega,AD1,show ¬k*d.size+j-(i*d.size+off)<(a.eval y).cells.toList.length by omega];rw[<-ao]
         congr 1
         omega
        exact bs.keeps hk
       cases h
 cases h
theorem w5 (hs:CG w0 K O0 nt ds σ ρ a w) (B:∀b,K b->b<w0.heap.size) (s:DI P tb) {m x y:Operand} (h:K2 tb σ (lk t tb.ty) (Al σ m) (Al σ x) (Al σ y)=some (vc,σ')) :
  ∃w',(Instr.mapUpdate t (a.eval m) (a.eval x) (a.eval y)).run P w=.ok () w'/\CG w0 K O0 nt ds σ' ρ a w':=by
 have g:Es (vw w O0 σ ρ) σ a.eval:=Cp hs.env;unfold K2 at h;split at h
 .rename_i k e _ _ n xv W N J O R;have Q:=g x _ O;have S:=g y _ R;obtain⟨Y,b,d,L⟩:=g m _ J;have d:ρ n=_:=d;cases hn:lk n σ.objs with
  | none=>rw[hn]at h;simp[GD]at h
  | some o =>
   rw[hn]at h;cases o with
   | mapo Z U l =>
    cases j:lk k tb.ty with
    | none=>simp[GD,j]at h
    | some T =>
     simp only[GD,j,AD8,ACR]at h;split at h
     .rename_i E;obtain⟨rfl,F⟩:=E;cases f:JC false σ T.ty xv with
      | none=>rw[f]at h;simp[G3]at h
      | some kd =>
       cases p:JC false σ U W with
       | none=>rw[f,p]at h;simp[G3]at h
       | some ab =>
        rw[f,p]at h;simp only[G3]at h;split at h
        .rename_i H;cases h;have h1:=Ft (V:=vw w O0 σ ρ) (O':=own O0 σ ρ) (λ_ h=>h) (λh=>by cases h) hs.objs f Q;have A:=Ft (V:=vw w O0 σ ρ) (O':=own O0 σ ρ) (λ_ h=>h) (λh=>by cases h) hs.objs p S;obtain⟨X,r,q,c,M,⟨aa,z⟩,G,D⟩:=A8K (w:=w) (V:=vw w O0 σ ρ) s (s _ _ N) (n:=n) rfl rfl j rfl (hs.objs n _ hn) F H h1 A;have c:ρ n=_:=c;rw[d]at c;injection c with c
         injection c with c
         subst c;rw[L];refine⟨_,M,?_⟩;have u:blk (ρ n)=some b:=by rw[d];rfl
         have v:w.grownBy { w with heap:=w.heap.setIfInBounds b (.map r q) } (some b) :=
          ⟨rfl,rfl,rfl,sc,λi _ hi=>(MapKept.heap_set z).2 i (λe=>hi (by rw[e]))⟩
         refine hs.upd B hn u v ⟨b,r,q,d,(MapKept.heap_set z).1,?_⟩;refine⟨?_,D⟩;exact G.mono (λ_ _ h=>h) (λb2 I C=>v.block b2 I (λe=>by injection e with e;subst e;exact C (.inr ⟨n,⟨_,hn⟩,.inl u⟩)))
        cases h
     cases h
   | _=>simp[GD]at h
 cases h
end
end
section
open Go Go.RowKit
section
variable {P:Program} {tb:Tb} {w0:World} {K O0:Nat->Prop} {nt:Nat} {ds:Fp} {σ σ':St} {ρ:Nat->Value} {a:Act} {w:World} {vc:Prop} {id:TypeId}
theorem UY {w:World} {base:Nat} {et:TypeId} {sz n:Nat} {s:Value} {xs:List Value} (h:w.ownsRow base et sz s n xs):s.ownBlock=blk s:=by
 rcases h.2 with ⟨rfl,_⟩|⟨g,cap,a,rfl,_⟩<;>rfl
theorem Hv (v:DI P tb) {el:TypeId} (hu:P.underlying id=some (.slice el)) {te:TI} (A:lk el tb.ty=some te) (I:te.ty=e) {base ty:Nat} {s xv:Value} {n:Nat} {xs B:List Value}
  (q:w.ownsRow base el e.size s n xs) {O:Nat->Prop} {ys:List e.den} (S:Src w O e xv ys B) (T:(n+ys.length)*te.bytes<=AP) {f:Value} {w':World}
  (h:(Builtin.append_ #[id,id] ty #[s,xv]).run P w=.ok f w'):blk f=blk s\/∀b,blk f=some b->w.heap.size<=b:=by
 subst I;obtain⟨⟨⟨_,G,_⟩,i,z,hi,o,x,hz,ah⟩,_⟩:=v _ _ A;have Q:n+ys.length<=AP:=by
  have:(n+ys.length)*1<=(n+ys.length)*te.bytes:=ADk _ G;omega
 have ab:AP=140737488355328:=rfl;obtain⟨⟨a,c,rfl,E⟩,L,Y,af,aa⟩:=S;have hs:(sizeOf el).run P w=.ok te.ty.size w:=IK w (v _ _ A);have ai:∀ {l C:Nat} {W:World},Result.ok (Value.slice (some ⟨w.heap.size,0,none⟩) l C) W=Result.ok f w'->blk f=blk s\/∀b,blk f=some b->w.heap.size<=b:=by grind [blk]
 have U:∀(ad:Addr) (m:Nat) (d:List Value),d.length=m*te.ty.size->(∀(j:Nat) (u:Value),d[j]?=some u->w.cell? (ad.add j)=some u)->(∀u∈d,u.oneCell'=true)->n+m<=AP->(n+m)*te.bytes<=AP ->
   (Builtin.append_ #[id,id] ty #[s,.slice (some ad) m c]).run P w=.ok f w'->blk f=blk s\/∀b,blk f=some b->w.heap.size<=b:=by
  intro ad m d k p h1 Z F h;rcases q.2 with ⟨rfl,rfl⟩|⟨g,cap,t,rfl,V,K,ae,X,H,ag⟩
  .by_cases M:m=0
   .subst M;have:d=[]:=AAs (by simpa using k);simp[Builtin.append_,iS hu,hs,Builtin.lenOf,Builtin.firstCells,loadCells,loadCellsFrom]at h;grind
   have:=run_append_nil (P:=P) w id ty el i z hu hi hz ad m c d (by rw[o];exact k) p O1 O1 (by rw[x];simp at F;omega);grind
  by_cases y:n+m<=cap
  .have J:n*i.size+d.length<=t.size:=by
    rw[k,o,H,<-AE6];exact AAu _ y
   have:=run_append_room (P:=P) w id ty el i hu hi g n cap t K ad m c d (by rw[o];exact k) p h1 y J;rw[this]at h;injection h with r D
   subst r;exact .inl rfl
  have R:∀j u,xs[j]?=some u->w.cell? ((⟨g,0,none⟩:Addr).add j)=some u:=q.cells (g:=g) rfl;have:=run_append_grow (P:=P) w id ty el i z hu hi hz ⟨g,0,none⟩ n cap xs (by rw[o];exact q.1) R ad m c d (by rw[o];exact k) p O1 O1 (by rw[x];exact growslice_fits O1 O1);grind
 rcases E with rfl|⟨ad,rfl,p⟩
 .have N:B=[]:=AAs (by simpa using L);subst N;cases a with
  | none =>
   have:=TG (P:=P) (ty:=ty) hu hs q c;rw[show ([]:List te.ty.den).length=0 from rfl,this]at h;injection h with r D
   subst r;exact .inl rfl
  | some ad=>exact U ad 0 [] sc sc sc (by simpa using Q) (by simpa using T) h
 grind
theorem mD {w:World} {O:Nat->Prop} {c:List Value} {xs:List e.den} (h:D1 w O e c xs) (n:Nat):D1 w O e (c.take (n*e.size)) (xs.take n):=by
 intro i x hi;rw[AAA]at hi;split at hi
 .rename_i f;obtain⟨es,a,g,b⟩:=h i x hi;refine⟨es,a,λj u d=>?_,b⟩;have k:=(aT.1 d).1;have:(i+1)*e.size<=n*e.size:=AAu _ f;grind
 cases hi
theorem mE (hs:CG w0 K O0 nt ds σ ρ a w) (af:∀b,K b->b<w0.heap.size) (ag:∀b,O0 b->b<w0.heap.size) (hT:DI P tb) {d:Option Nat} (ai:∀k,d=some k->k<nt) {t u ty:TypeId} {x:Operand}
  (h:DV tb σ d t u (Al σ x) (Al σ y)=some (vc,σ')) (ar:vc) (ah:∃n e hi,Al σ x=some (.sr n e 0 hi)/\C7 (lk n σ.objs)=false) :
  ∃z w' ρ',(Builtin.append_ #[t,u] ty #[a.eval x,a.eval y]).run P w=.ok z w'/\CG w0 K O0 nt ds σ' ρ' (a.put d z) w':=by
 have O:Es (vw w O0 σ ρ) σ a.eval:=Cp hs.env;obtain⟨n0,ad,am,Y,S⟩:=ah;unfold DV at h;split at h
 .rename_i n e hi v X au;obtain⟨rfl,rfl,rfl⟩:n=n0/\e=ad/\hi=am:=by rw[X]at Y;cases Y;exact⟨rfl,rfl,rfl⟩
  split at h
  .rename_i d;split at h
   .rename_i I;obtain⟨I,al⟩:=I;subst I;cases H:lk t tb.ty with
    | none=>rw[H]at h;simp[Eq]at h
    | some ti =>
     rw[H]at h;unfold Eq at h;split at h
     .rename_i p offs el b i;cases i;split at h
      .rename_i aj;subst aj;obtain⟨hu,bi,te,G,U⟩:=Cm (hT _ _ H) hT;rw[G]at h;cases hn:lk n σ.objs with
       | none=>rw[hn]at h;cases f:Pw σ p v<;>rw[f]at h<;>simp[Cg]at h
       | some o =>
        rw[hn]at h;cases o with
        | box et st fs=>cases f:Pw σ p v<;>rw[f]at h<;>simp[Cg]at h
        | mapo av v1 l=>cases f:Pw σ p v<;>rw[f]at h<;>simp[Cg]at h
        | frame br fs=>cases f:Pw σ p v<;>rw[f]at h<;>simp[Cg]at h
        | loop L=>cases f:Pw σ p v<;>rw[f]at h<;>simp[Cg]at h
        | itr bl bo bm bn bj=>cases f:Pw σ p v<;>rw[f]at h<;>simp[Cg]at h
        | nest et bk av s xs be=>rw[hn]at S;cases S
        | dfr=>cases f:Pw σ p v<;>rw[f]at h<;>simp[Cg]at h
        | sit sb sp=>cases f:Pw σ p v<;>rw[f]at h<;>simp[Cg]at h
        | arr et j xs =>
         simp only[Cg]at h;split at h
         .rename_i ak;subst ak;cases B:Bh (.slice p) ⟨.slice j,xs⟩ with
          | none=>rw[B]at h;simp[FP]at h
          | some bs =>
           obtain⟨rfl,ae⟩:=B3 B;cases ae;rw[B]at h;cases f:Pw σ j v with
           | none=>rw[f]at h;simp[FP]at h
           | some ys =>
            rw[f]at h;simp only[FP]at h;cases h;obtain⟨bp,F⟩:=UW hs.objs f (O y _ au);obtain⟨bh,cells,r,C⟩:=hs.objs n _ hn;have r:w.ownsRow 0 et j.size (ρ n) xs.length cells:=r;have C:D1 w (own O0 σ ρ) j cells xs:=C;obtain⟨bb,aa,m,c,q,bg,bd,Z,ab,J,bc,h0,h1⟩:=O x _ X;have q:plc (ρ n)=.slice aa m c:=q;rw[Hu r]at q;obtain⟨rfl,rfl⟩:=h0 rfl;simp only[Nat.sub_zero]at J;have bf:=r.1;have R:hi<=xs.length:=by
             rcases r.2 with ⟨i,ap⟩|⟨g,cap,M,i,_⟩
             .rw[q]at i;injection i;omega
             rw[q]at i;injection i;omega
            have ao:hi*j.size<=xs.length*j.size:=AAu _ R;have E:w.ownsRow 0 et j.size (a.eval x) hi (cells.take (hi*j.size)):=by
             rw[J];refine⟨by rw[On];omega,?_⟩;rcases r.2 with ⟨i,ap⟩|⟨g,cap,M,i,aw,ax,bq,ay,az,ba⟩
             .rw[q]at i;injection i with s j A
              subst s;subst A;have:hi=0:=by omega
              subst this;exact .inl ⟨rfl,rfl⟩
             rw[q]at i;injection i with s j A
             subst s;subst A;refine .inr ⟨g,ab,M,rfl,aw,ax,O1,ay,az,?_⟩;rw[<-ba,ACU,ADl ao]
            have V:(hi+ys.length)*te.bytes<=AP:=ar;obtain⟨z,w',T,aq,Q,an⟩:=Gj (ty:=ty) hT hu G U E F V (DO _);have W:=Hv (ty:=ty) hT hu G U E F V T;have N:blk (a.eval x)=blk (ρ n):=by
             rw[J,q];cases Z<;>rfl
            rw[N]at W;rw[UY E,N]at Q;refine⟨z,w',E3 ρ n z,T,?_⟩;have D:(xs.take hi++ys).length=hi+ys.length:=by simp;omega
            exact hs.app af ag al hn Q W (by rw[D];exact an) (by rw[D];exact aq) (K8 (mD C hi) F.elems (by rw[On,On];rw[ADl R];omega)) (ai d rfl) D.symm
         cases h
      cases h
     cases h
   cases h
  cases h
 .grind
 .grind
 cases h
theorem Nh (n:Nat) (e:Ty) (xs:List e.den) (s:Nat):∀l:List (Nat×AV),lk s (Dg n e xs l)=(lk s l).map (AV.frz n e xs)
 | []=>rfl
 | (j,v) :: l=>by
  simp only[Dg,lk];split
  .rfl
  exact Nh n e xs s l
def Obj.frz (n:Nat) (e:Ty) (xs:List e.den):Obj->Obj
 | .arr et a ys=>.arr et a ys
 | .box et st fs=>.box et st (AV.frzs n e xs fs)
 | .mapo k v l=>.mapo k v l
 | .nest et c k e ys h=>.nest et c k e ys h
 | .frame j fs=>.frame j (Dg n e xs fs)
 | .loop L=>.loop L
 | .itr d i f g b=>.itr d i f g b
 | .dfr=>.dfr
 | .sit sb sp=>.sit sb sp
theorem CU (n:Nat) (e:Ty) (xs:List e.den) (s:Nat):∀l:List (Nat×Obj),lk s (BG n e xs l)=(lk s l).map (Obj.frz n e xs)
 | []=>rfl
 | (j,.arr et a ys) :: l=>by
  simp only[BG,lk];split
  .rfl
  exact CU n e xs s l
 | (j,.box et st fs) :: l=>by
  simp only[BG,lk];split
  .rfl
  exact CU n e xs s l
 | (j,.mapo k v x) :: l=>by
  simp only[BG,lk];split
  .rfl
  exact CU n e xs s l
 | (j,.nest _ _ _ _ _ _) :: l=>by
  simp only[BG,lk];split
  .rfl
  exact CU n e xs s l
 | (j,.frame h fs) :: l=>by
  simp only[BG,lk];split
  .rfl
  exact CU n e xs s l
 | (j,.loop L) :: l=>by
  simp only[BG,lk];split
  .rfl
  exact CU n e xs s l
 | (j,.itr c g d f b) :: l=>by
  simp only[BG,lk];split
  .rfl
  exact CU n e xs s l
 | (j,.dfr) :: l=>by
  simp only[BG,lk];split
  .rfl
  exact CU n e xs s l
 | (j,.sit sb sp) :: l=>by
  simp only[BG,lk];split
  .rfl
  exact CU n e xs s l
theorem TQ (n:Nat) (e:Ty) (xs:List e.den):∀l:List AV,(AV.frzs n e xs l).length=l.length
 | []=>rfl
 | _ :: r=>by simp[AV.frzs,TQ n e xs r]
section
variable {V V':Vw} {n:Nat} {et:TypeId} {e:Ty} {xs:List e.den}
structure mF (V V':Vw) (n:Nat):Prop where
 w:V'.w=V.w
 ρ:V'.ρ=V.ρ
 L:∀m,V.L m->m≠n->V'.L m
 O:∀b,¬V.O b->¬V'.O b
 n:∀b,bk (V.ρ n) b->¬V'.O b
theorem mF.keeps (h:mF V V' n):C3 (V.but n) V':=⟨λb _ c=>h.O b c,λm a=>h.L m a.1 a.2,λm _=>by rw[h.ρ];rfl,λb _ _=>by rw[h.w];rfl⟩
structure OQ (V V':Vw) (n:Nat) (e:Ty) (xs:List e.den):Prop where
 seat:seat (V.ρ n)
 read:∀lo hi v,Di (plc (V.ρ n)) e.size lo hi v->B6 V'.w V'.O (.slice e) [v] (sub xs lo hi)
theorem fJ {V:Vw} {et:TypeId} {e:Ty} {xs:List e.den} {loc:Value} (b:BI V (.arr et e xs) loc):seat loc:=by
 obtain⟨_,cells',c,_⟩:=b;rcases c.2 with ⟨a,_⟩|⟨g,cap,d,a,_⟩
 .exact .inl ⟨_,_,_,a⟩
 exact .inl ⟨_,_,_,a⟩
theorem mF.arr (h:mF V V' n) (a:BI V (.arr et e xs) (V.ρ n)):OQ V V' n e xs:=⟨fJ a,λlo hi v f=>by
 have d:=Z8 (V:=V) (O':=V'.O) h.O (λb c=>h.n b (.inl c)) a f
 rwa [<-h.w]at d⟩
theorem mF.nest (h:mF V V' n) {f:TypeId} {k e:Ty} {xs:List (k.den×List e.den)} (a:BI V (.nest et f k e xs none) (V.ρ n)):OQ V V' n (.agg (.prod k (.slice e))) xs:=⟨by
 obtain⟨o,ins,cells,b,_⟩:=a;exact b.elim (λh=>.inr ⟨_,h⟩) (λh=>.inl ⟨_,_,_,h.1⟩),λlo hi v d=>by
 have c:=eJ (V:=V) (O':=V'.O) h.O h.n a d
 rwa [<-h.w]at c⟩
theorem aM (h:mF V V' n) (g:OQ V V' n e xs) {v:Value} (b:MW V x v):MW V' (x.frz n e xs) v/\((∀t d,x≠.p t d)->∀t d,x.frz n e xs=.p t d->t.wrap [v]=v/\B6 V'.w V'.O t [v] d):=by
 have hk:=h.keeps;have c:=g.seat;cases x;case sr m f lo hi =>
  simp only[AV.frz];split
  .rename_i a;subst a;split
   .rename_i q;subst q;obtain⟨y,k⟩:=b;have j:=g.read lo hi v k;obtain⟨_,_,_,_,_,_,s,u,l,_⟩:=k;refine⟨⟨[v],j,by rw[l];rfl⟩,λ_ t d h=>?_⟩;injection h with h1 o
    subst h1;cases o;exact⟨by rw[l];rfl,j⟩
   exact⟨trivial,λ_ t d h=>by cases h⟩
  rename_i a;have:=JN c b;simp only[AV.drp,As a]at this;exact⟨this.keeps hk,λ_ t d h=>by cases h⟩
 case ep m f i z off =>
  have:=JN c b;simp only[AV.drp]at this;simp only[AV.frz];split
  .exact⟨trivial,λ_ t d h=>by cases h⟩
  rename_i a;rw[As a]at this;exact⟨this.keeps hk,λ_ t d h=>by cases h⟩
 case nin m f i len =>
  have:=JN c b;simp only[AV.drp]at this;simp only[AV.frz];split
  .exact⟨trivial,λ_ t d h=>by cases h⟩
  rename_i a;rw[As a]at this;exact⟨this.keeps hk,λ_ t d h=>by cases h⟩
 case p t d=>exact⟨(JN c b).keeps hk,λr=>absurd rfl (r t d)⟩
 all_goals
  have:=JN c b;simp only[AV.drp]at this;simp only[AV.frz];exact⟨this.keeps hk,λ_ t d h=>by cases h⟩
theorem A0O (h:mF V V' n) (k:OQ V V' n e xs) {cs:List Value} (h0:Xp x=false) (c:GS V x cs):GS V' (x.frz n e xs) cs:=by
 by_cases g:∃t d,x=.p t d
 .obtain⟨t,d,rfl⟩:=g;simp only[AV.frz];have c:B6 V.w V.O t cs d:=c;have:B6 V'.w V'.O t cs d:=c.mono (λb _ j=>h.O b j) (λb _ _=>by rw[h.w]);exact this
 have m:∃v,cs=[v]/\v.oneCell'=true/\MW V x v:=by
  cases x;case p t d=>exact absurd ⟨t,d,rfl⟩ g
  case ag l=>cases h0
  all_goals exact c
 obtain⟨v,rfl,h1,i⟩:=m;obtain⟨f,a⟩:=aM h k i;have a:=a (λt d e=>g ⟨t,d,e⟩);generalize o:x.frz n e xs=y at f a;cases y;case p t d=>exact(a t d rfl).2
 case ag l=>exact f.elim
 all_goals exact⟨v,rfl,h1,f⟩
theorem A0P (h:mF V V' n) (a:OQ V V' n e xs):(∀(x:AV) (cs:List Value),GS V x cs->GS V' (x.frz n e xs) cs)/\∀(l:List AV) (cs:List Value),AVCs V l cs->AVCs V' (AV.frzs n e xs l) cs :=
 P8 (λ_=>by simp only[AV.frz]) (by simp only[AV.frzs]) (λ_ _=>by simp only[AV.frzs]) (A0O h a)
theorem VU (h:mF V V' n) (a:OQ V V' n e xs) {l:List AV} {cs:List Value} (b:AVCs V l cs):AVCs V' (AV.frzs n e xs l) cs:=(A0P h a).2 l cs b
theorem A53 (h:mF V V' n) (b:OQ V V' n e xs) {v:Value} (a:TD V x v):TD V' (x.frz n e xs) v:=by
 cases x;case ag l=>obtain⟨cs,h1,c⟩:=a;simp only[AV.frz];exact⟨cs,h1,VU h b c⟩
 all_goals
  simp only[TD]at a;exact TD.of1 (aM h b a).1
theorem fL (h:mF V V' n) (c:OQ V V' n e xs):∀ {l:List AV} {a:List Value},II V l a->II V' (AV.frzs n e xs l) a
 | [],a,b=>(b:a=[])
 | x :: r,a,b=>by
  obtain⟨v,f,rfl,h1,d⟩:=b;simp only[AV.frzs];exact⟨v,f,rfl,A53 h c h1,fL h c d⟩
theorem rA (h:mF V V' n) (c:OQ V V' n e xs) {v:Value} (a:CD V x v):CD V' (x.frz n e xs) v:=by
 cases x;case ag l=>obtain⟨cs,h1,b⟩:=a;simp only[AV.frz];exact⟨cs,h1,VU h c b⟩
 case tup l=>obtain⟨d,h1,b⟩:=a;simp only[AV.frz];exact⟨d,h1,fL h c b⟩
 all_goals
  simp only[CD]at a;exact A4Z (aM h c a).1
end
theorem fN (hs:CG w0 K O0 nt ds σ ρ a w) (n:Nat) (M:¬G9 n=true) {U:Obj} (hn:lk n σ.objs=some U) {xs:List e.den}
  (Q:mF (vw w O0 σ ρ) (vw w O0 ⟨Dg n e xs σ.env,BG n e xs (del n σ.objs)⟩ ρ) n->OQ (vw w O0 σ ρ) (vw w O0 ⟨Dg n e xs σ.env,BG n e xs (del n σ.objs)⟩ ρ) n e xs) :
  CG w0 K O0 nt ds ⟨Dg n e xs σ.env,BG n e xs (del n σ.objs)⟩ ρ a w:=by
 have F:∀m x,lk m (BG n e xs (del n σ.objs))=some x->m≠n/\∃y,lk m σ.objs=some y/\x=y.frz n e xs:=by
  intro m x d;rw[CU,Rx]at d;split at d
  .simp at d
  rename_i B;simp only[No]at d;grind
 have i:∀m,HV ⟨Dg n e xs σ.env,BG n e xs (del n σ.objs)⟩ m↔(HV σ m/\m≠n):=by
  intro m;constructor
  .rintro⟨x,C⟩;obtain⟨h1,y,h,_⟩:=F m x C;exact⟨⟨y,h⟩,h1⟩
  rintro⟨⟨x,C⟩,B⟩;exact⟨x.frz n e xs,by simp[CU,Rx,B,C]⟩
 have hF:mF (vw w O0 σ ρ) (vw w O0 ⟨Dg n e xs σ.env,BG n e xs (del n σ.objs)⟩ ρ) n:=by
  refine⟨rfl,rfl,λm h1 h=>(i m).2 ⟨h1,h⟩,λb f A=>?_,λb f A=>?_⟩
  .rcases A with h0|⟨m,c,d⟩
   .exact f (.inl h0)
   exact f (.inr ⟨m,((i m).1 c).1,d⟩)
  have f:bk (ρ n) b:=f;rcases A with h0|⟨m,c,d⟩
  .exact(hs.free n b ⟨_,hn⟩ f).2 h0
  exact((i m).1 c).2 (hs.dist m n b ((i m).1 c).1 ⟨_,hn⟩ d f)
 have t:=Q hF;have P:∀p∈ds.pin,HV ⟨Dg n e xs σ.env,BG n e xs (del n σ.objs)⟩ p.1/\ρ p.1=p.2/\(A8z p.2=true\/G9 p.1=true):=by
  intro p O;obtain⟨h1,h,q⟩:=hs.pin p O;refine⟨(i p.1).2 ⟨h1,λj=>?_⟩,h,q⟩;have q:A8z p.2=true:=q.resolve_right (by rw[j];exact M);have D:seat (ρ n):=t.seat;rw[<-j,h]at D;rcases D with ⟨_,_,_,E⟩|⟨_,E⟩<;>rw[E]at q<;>cases q
 refine⟨hs.frm,hs.nt,hs.defers,P,?_,?_,?_,?_⟩
 .intro m x d;obtain⟨B,y,r,rfl⟩:=F m x d;have g:=hs.objs m y r;cases y with
  | arr u j I=>exact BI.keeps (V:=(vw w O0 σ ρ).but n) hF.keeps (λ_ _=>rfl) g
  | box u st fs =>
   obtain⟨h0,b,cs,c,hh,J⟩:=g;exact⟨λR=>by rw[TQ];exact h0 R,b,cs,c,hh,VU hF t J⟩
  | nest u S T j I c=>exact BI.keeps (V:=(vw w O0 σ ρ).but n) (o:=.nest u S T j I c) hF.keeps (λ_ _=>rfl) (Nc (V:=vw w O0 σ ρ) (V':=(vw w O0 σ ρ).but n) rfl rfl g)
  | mapo k v l=>exact BI.keeps (V:=(vw w O0 σ ρ).but n) hF.keeps (λ_ _=>rfl) g
  | frame ab fs =>
   obtain⟨h0,h1⟩:=g;refine⟨h0,λs z hz=>?_⟩;simp only[Nh,No]at hz;obtain⟨y,r,rfl⟩:=hz;exact rA hF t (h1 s y r)
  | loop L=>exact BI.keeps (V:=(vw w O0 σ ρ).but n) hF.keeps (λ_ _=>rfl) g
  | itr X aa Y Z W=>exact BI.keeps (V:=(vw w O0 σ ρ).but n) hF.keeps (λ_ _=>rfl) g
  | dfr=>exact BI.keeps (V:=(vw w O0 σ ρ).but n) hF.keeps (λ_ _=>rfl) g
  | sit sb sp=>exact BI.keeps (V:=(vw w O0 σ ρ).but n) hF.keeps (λ_ _=>rfl) g
 .intro m b c f;exact hs.free m b ((i m).1 c).1 f
 .intro m H b c N h1 h;exact hs.dist m H b ((i m).1 c).1 ((i H).1 N).1 h1 h
 intro s v G;simp only[Nh,No]at G;obtain⟨y,r,rfl⟩:=G;exact rA hF t (hs.env s y r)
theorem A54 (hs:CG w0 K O0 nt ds σ ρ a w) (n:Nat):CG w0 K O0 nt ds (frz n σ) ρ a w:=by
 unfold frz;split
 .exact hs
 rename_i b;cases hn:lk n σ.objs with
 | none=>exact hs
 | some d =>
 cases d with
 | box et st fs=>exact hs
 | mapo k v l=>exact hs
 | frame q fs=>exact hs
 | loop L=>exact hs
 | itr j p m o f=>exact hs
 | dfr=>exact hs
 | sit sb sp=>exact hs
 | arr et e xs=>exact fN hs n b hn λh=>h.arr (hs.objs n _ hn)
 | nest et g k e xs c =>
  cases c with
  | some i=>exact hs
  | none=>exact fN hs n b hn λh=>h.nest (hs.objs n _ hn)
theorem K9:∀ {l:List Nat} {σ:St},CG w0 K O0 nt ds σ ρ a w->CG w0 K O0 nt ds (Cz l σ) ρ a w
 | [],_,h=>h
 | n :: r,σ,h=>K9 (l:=r) (σ:=frz n σ) (A54 h n)
end
end
section
open Go Go.RowKit
section
variable {P:Program} {tb:Tb} {w0:World} {K O0:Nat->Prop} {nt:Nat} {ds:Fp} {σ σ':St} {ρ:Nat->Value} {a:Act} {w:World} {vc:Prop}
theorem A55 (hs:CG w0 K O0 nt ds σ ρ a w) (br:∀b,K b->b<w0.heap.size) (bs:∀b,O0 b->b<w0.heap.size) (hT:DI P tb) {d:Nat} (bw:d<nt) {ty:TypeId} {x:Operand} {n i len:Nat} {v:AV}
  (cl:Al σ x=some (.nin n e i len)) (cm:Al σ y=some v) {et:TypeId} {xs:List (k.den×List e.den)} (hn:lk n σ.objs=some (.nest et R k e xs none)) (bz:G9 n=false)
  (hu:P.underlying t=some (.slice R)) {te:TI} (an:lk R tb.ty=some te) (ao:te.ty=e) (h:MR σ d n et R k e xs i te.bytes (Pw σ e v)=some (vc,σ')) (ab:vc) :
  ∃z w' ρ',(Builtin.append_ #[t,t] ty #[a.eval x,a.eval y]).run P w=.ok z w'/\CG w0 K O0 nt ds σ' ρ' (a.put (some d) z) w':=by
 have av:Es (vw w O0 σ ρ) σ a.eval:=Cp hs.env;cases ap:Pw σ e v with
 | none=>rw[ap]at h;simp[MR]at h
 | some ys =>
  rw[ap]at h;simp only[MR]at h;split at h
  .rename_i aw;have al:lk d σ.objs=none:=by simpa using aw.1
   cases h;obtain⟨cr,W⟩:=UW hs.objs ap (av y _ cm);obtain⟨cv,cs,ad,c,U,J,E,cb,db⟩:=av x _ cl;have J:ρ n=.tuple cs:=J;have bd:=hs.objs n _ hn;have ax:=aA (z:=(k.dflt,[])) bd J E;obtain⟨o,ins,cells,cj,C⟩:=bd;obtain rfl:=cj.tup J;have E:ins[i]?=some U:=by simpa using E
   obtain⟨c1,dc,bv,ci,s⟩:=C.row i _ _ ax E;rcases s with ⟨s,_⟩|⟨_,cx,p,bf,N,bx⟩
   .cases s
   generalize da:xs.getD i (k.dflt,[])=row at *;obtain⟨z,w',Q,D,B,am,be⟩:∃z w',(Builtin.append_ #[t,t] ty #[a.eval x,a.eval y]).run P w=.ok z w'/\w'.ownsRow 0 R e.size z (row.2.length+ys.length) (bf++cr)/\w.grownBy w' (blk U)/\row.2.length+ys.length<=AP/\(blk z=blk U\/∀b,blk z=some b->w.heap.size<=b):=by
    rcases cb with G|⟨G,aq,ck⟩
    .rw[G];obtain⟨z,w',Q,D,B,am⟩:=Gj (ty:=ty) hT hu an ao N W ab (DO _);have be:=Hv (ty:=ty) hT hu an ao N W ab Q;rw[UY N]at B;exact⟨z,w',Q,D,B,am,be⟩
    subst G;have bc:=K5 N;have ch:row.2=[]:=AAs bc.symm;have ca:bf=[]:=AAs (by rw[N.1,<-bc,AEO]);subst ca;have cn:0<ys.length:=by
     cases ys with
     | nil=>simp at aw
     | cons _ _=>simp
    rw[ck];rw[ch]at ab ⊢;obtain⟨z,w',Q,D,B⟩:=TH (ty:=ty) hT hu an ao (xs:=([]:List e.den)) (a:=aq) (UV w (own O0 σ ρ) e aq 0) W cn ab;refine⟨z,w',Q,⟨D.1,D.2.imp (λh=>h) λ⟨g,cap,ah,e,_,r⟩=>⟨g,cap,ah,e,DO _,r⟩⟩,B,by simpa using W.max,.inr λb f=>?_⟩;rcases D.2 with ⟨h1,_⟩|⟨g,cap,ah,h1,q,_⟩
    .rw[h1]at f;simp[blk]at f
    rw[h1]at f;simp[blk]at f;omega
   have Y:∀b,bk (ρ n) b↔blk o=some b\/∃(j:Nat) (u:Value),ins[j]?=some u/\blk u=some b:=λb=>by rw[J];exact BN
   have cy:i<ins.length:=(aT.1 E).1;have hnd:n≠d:=λl=>by rw[l,al]at hn;cases hn
   generalize az:(Value.tuple (o :: ins.set i (.slice none 0 0)).toArray)=loc;have af:E3 (E3 ρ n loc) d z n=loc:=by simp[E3,hnd]
   have ae:E3 (E3 ρ n loc) d z d=z:=Bz _ _ _;have ag:∀m,m≠n->m≠d->E3 (E3 ρ n loc) d z m=ρ m:=λm h1 q=>by simp[E3,h1,q]
   generalize E3 (E3 ρ n loc) d z=ρ' at af ae ag;have aa:∀(j:Nat) (u:Value),(ins.set i (.slice none 0 0))[j]?=some u->(j=i/\u=.slice none 0 0)\/(j≠i/\ins[j]?=some u):=by grind
   have au:∀b,bk loc b->blk o=some b\/∃(j:Nat) (u:Value),j≠i/\ins[j]?=some u/\blk u=some b:=by grind [BN,blk]
   have bu:∀b,bk loc b->bk (ρ n) b:=λb f=>(Y b).2 ((au b f).imp id λ⟨j,u,_,h1,q⟩=>⟨j,u,h1,q⟩);have Z:∀b,blk U=some b->bk (ρ n) b:=λb f=>(Y b).2 (.inr ⟨i,_,E,f⟩);have cw:∀b,bk z b->blk z=some b:=λb f=>by
    rcases D.2 with ⟨G,_⟩|⟨g,cap,ah,G,_⟩<;>rw[G]at f ⊢<;>exact MV.1 f
   have cq:∀b,bk z b->blk U=some b\/w.heap.size<=b:=λb f=>by grind
   have ba:∀b,bk (ρ n) b->b<w.heap.size:=λb f=>(hs.objs n _ hn).block_lt f;have cz:∀b,bk loc b->blk U≠some b:=by
    intro b f G;rcases au b f with h1|⟨j,u,h1,q,s⟩
    .exact C.out i b _ E G h1
    exact h1 (C.dist j i b u _ q E s G)
   have ay:(row.2++ys).length=row.2.length+ys.length:=by simp
   let S:St:=⟨(d,.sr d e 0 (row.2.length+ys.length)) :: EZ n [] σ.env,(d,.arr R e (row.2++ys)) :: (n,.nest et R k e xs (some i)) :: Cw n [] σ.objs⟩
   have ar:∀m H,lk m S.objs=some H->(m=d/\H=.arr R e (row.2++ys))\/(m=n/\m≠d/\H=.nest et R k e xs (some i))\/(m≠d/\m≠n/\∃A,lk m σ.objs=some A/\H=A.trn n []):=by
    intro m H p;simp only[S,lk]at p;split at p
    .rename_i l;cases p;exact .inl ⟨l,rfl⟩
    rename_i l;split at p
    .rename_i ai;cases p;exact .inr (.inl ⟨ai,l,rfl⟩)
    rename_i ai;rw[Dj]at p;split at p
    .cases p
    simp only[No]at p;obtain⟨A,h1,rfl⟩:=p;exact .inr (.inr ⟨l,ai,A,h1,rfl⟩)
   have bt:∀m,m≠d->m≠n->∀A,lk m σ.objs=some A->lk m S.objs=some (A.trn n []):=by grind [lk,Dj,Ai]
   have cf:∀b,b<w.heap.size->¬own O0 σ ρ b->¬own O0 S ρ' b:=by
    intro b f I cp;rcases cp with h0|⟨m,⟨H,ce⟩,L⟩
    .exact I (.inl h0)
    rcases ar m H ce with ⟨rfl,_⟩|⟨rfl,_,_⟩|⟨h1,q,A,s,_⟩
    .rw[ae]at L;rcases cq b L with F|F
     .exact I (.inr ⟨n,⟨_,hn⟩,Z b F⟩)
     omega
    .rw[af]at L;exact I (.inr ⟨_,⟨_,hn⟩,bu b L⟩)
    rw[ag m q h1]at L;exact I (.inr ⟨m,⟨A,s⟩,L⟩)
   have cg:plc loc=o:=by rw[<-az];rfl
   have X:QH (vw w O0 σ ρ) (vw w' O0 S ρ') n []:=by
    refine⟨cf,λm p _=>?_,λm p _ cd=>?_,⟨_,J⟩,?_,λb f I=>B.block b f λl=>I (.inr ⟨n,⟨_,hn⟩,Z b l.symm⟩)⟩
    .obtain⟨A,h1⟩:=p;by_cases bb:m=n
     .subst bb;exact⟨.nest et R k e xs (some i),by simp[S,lk,hnd]⟩
     have cc:m≠d:=λl=>by rw[l,al]at h1;cases h1
     exact⟨_,bt m cc bb A h1⟩
    .obtain⟨A,h1⟩:=p;exact ag m cd (λl=>by rw[l,al]at h1;cases h1)
    show plc (ρ' n)=plc (ρ n);rw[af,cg,J];rfl
   have M:C3 ⟨w,own O0 σ ρ,λ_=>False,ρ⟩ (vw w' O0 S ρ'):=⟨X.O,λ_ h=>h.elim,λ_ h=>h.elim,X.heap⟩;refine⟨z,w',ρ',Q,hs.swap br bs (T:=λm=>m=n) (λm p=>by obtain rfl:m=n:=p;exact⟨bz,_,hn,by rw[J];exact .inr ⟨_,rfl⟩⟩) (new:=[(d,.arr R e (row.2++ys)),(n,.nest et R k e xs (some i))]) B.os B.tape B.output B.size ?_ ?_ ?_ ?_ ?_ ?_ ?_ ?_⟩
   .exact λb f I=>B.block b f λl=>I n rfl (Z b l.symm)
   .grind [lk]
   .grind [lk]
   .grind [lk]
   .grind [lk]
   .grind [bk,lk]
   .intro m H p;rcases ar m H p with ⟨rfl,rfl⟩|⟨rfl,_,rfl⟩|⟨h1,q,A,s,rfl⟩
    .rw[ae];refine⟨by rw[ay];exact am,_,by rw[ay];exact D,?_⟩;exact D1.keeps M (K8 bx W.elems N.1)
    .rw[af];refine⟨o,ins.set i (.slice none 0 0),cells,.inl az.symm,C.max,by rw[AAx];exact C.len,Js (λb f=>B.block b (ba b ((Y b).2 (.inl f))) λl=>C.out i b _ E l.symm f) C.own,λj ct u h1 q=>?_,?_,?_⟩
     .rcases aa j u q with ⟨rfl,rfl⟩|⟨s,F⟩
      .rw[ax]at h1;cases h1;exact⟨c1,_,bv,B6.mono M.O M.heap ci,.inl ⟨sc,rfl⟩⟩
      obtain⟨c2,bl,bm,bn,aj⟩:=C.row j ct u h1 F;rcases aj with ⟨aj,_⟩|⟨_,bo,bp⟩
      .cases aj
      refine⟨c2,bl,bm,B6.mono M.O M.heap bn,.inr ⟨ACX.2 (λl=>s (by injection l with l;exact l.symm)),bo,?_⟩⟩;exact Rw.keeps (V:=⟨w,own O0 σ ρ,λ_=>False,ρ⟩) M (λb f=>B.block b (ba b ((Y b).2 (.inr ⟨j,u,F,f⟩))) λl=>s (C.dist j i b u _ F E f l.symm)) bp
     .intro bg bh b bi bj h1 q s F;rcases aa bg bi h1 with ⟨_,rfl⟩|⟨_,ak⟩
      .simp[blk]at s
      rcases aa bh bj q with ⟨_,rfl⟩|⟨_,bq⟩
      .simp[blk]at F
      exact C.dist bg bh b bi bj ak bq s F
     intro j b u h1 q;rcases aa j u h1 with ⟨_,rfl⟩|⟨_,ak⟩
     .simp[blk]at q
     exact C.out j b u ak q
    rw[ag m q h1];refine qZ X (λb f=>B.block b ((hs.objs m A s).block_lt f) λl=>q (hs.dist m n b ⟨_,s⟩ ⟨_,hn⟩ f (Z b l.symm))) (hs.objs m A s)
   intro s2 bl el;rw[Nb a d z s2 (by rw[hs.nt];exact bw)];simp only[S,lk]at el;split at el
   .rename_i es;cases el;rw[At es];refine⟨⟨.arr R e (row.2++ys),by simp[S,lk]⟩,?_⟩;show Di (plc (ρ' d)) e.size 0 _ z;rw[ae,Hu D];exact Gh D
   rename_i es;rw[As es];rw[Fu]at el;simp only[No]at el;obtain⟨cu,co,rfl⟩:=el;exact aL X (hs.env s2 cu co)
  cases h
end
end
section
open Go Go.RowKit
theorem aN {et:TypeId} {sz len g m c:Nat} {cells:List Value} (h:w.ownsRow 0 et sz (.slice (some ⟨g,0,none⟩) m c) len cells) {p:Nat} (C:p<len*sz) (v:Value) :
  ∃a:List Value,w.heap[g]?=some (.cells a.toArray et (0,0))/\p+1<=a.length/\(w.setRow g (A9 a p [v]).toArray).ownsRow 0 et sz (.slice (some ⟨g,0,none⟩) m c) len (cells.set p v):=by
 obtain⟨t,l⟩:=h;rcases l with ⟨d,_⟩|⟨y,cap,a,d,z,i,e,o,f,u⟩
 .cases d
 injection d with b q r
 injection b with b
 injection b with b
 subst b;have A:len*sz<=cap*sz:=AAu _ e;have B:a.toList.length=cap*sz:=by rw[<-f];simp
 have n:p + [v].length<=a.toList.length:=by simp only[oR];omega
 have s:w.heap[g]?=some (.cells a.toList.toArray et (0,0)):=by simpa using i
 have k:A9 a.toList p [v]=a.toList.set p v:=by
  apply AE9;intro j;simp only[A9,AAp,ACg,On,AAA,ACh,oR,ACs];have x:min p a.toList.length=p:=by omega
  simp only[x];by_cases c1:j<p
  .grind
  grind
 refine⟨a.toList,s,by simpa using n,?_,.inr ⟨g,cap,_,by rw[q,r],DO _,setRow_heap w g _ _ et _ i,e,o,?_,?_⟩⟩
 .rw[AAx];exact t
 .rw[k];simp[f]
 rw[k,<-u];simp[List.take_set]
section
variable {P:Program} {tb:Tb} {w0:World} {K O0:Nat->Prop} {nt:Nat} {ds:Fp} {σ σ':St} {ρ:Nat->Value} {a:Act} {w:World} {vc:Prop}
theorem A0Q (hs:CG w0 K O0 nt ds σ ρ a w) (bm:∀b,K b->b<w0.heap.size) (bn:∀b,O0 b->b<w0.heap.size) (hT:DI P tb) (ch:lk t tb.ty=some X) {x:Operand} {n m i hi:Nat} {k e:Ty} (ci:X.ty=.slice e) {cs:List Nat}
  (cj:Al σ x=some (.ep n (.agg (.prod k (.slice e))) i cs k.size)) (cn:Al σ y=some (.sr m e 0 hi)) {et:TypeId} {xs:List (k.den×List e.den)} {ys:List e.den} (hn:lk n σ.objs=some (.nest et B k e xs (some i))) (G:lk m σ.objs=some (.arr B e ys))
  (bu:G9 n=false) (cz:G9 m=false) (dd:hi=ys.length) :
  ∃w' ρ',(Instr.storeAt t (a.eval x) (a.eval y)).run P w=.ok () w'/\CG w0 K O0 nt ds ⟨EZ n [m] σ.env,(n,.nest et B k e (xs.set i ((xs.getD i (k.dflt,[])).1,ys)) none) :: Cw n [m] σ.objs⟩ ρ' a w':=by
 have ar:Es (vw w O0 σ ρ) σ a.eval:=Cp hs.env;have cc:m≠n:=λd=>by rw[d,hn]at G;cases G
 obtain⟨cx,g,be,c,al,bz,cl⟩:=ar x _ cj;obtain⟨cy,bh,cr,bi,N,_,db,cu,cv,de,_,h0,_⟩:=ar y _ cn;obtain⟨o,ins,cells,ba,ti⟩:=hs.objs n _ hn;have ao:Rw (vw w O0 σ ρ) B e ys (ρ m):=hs.objs m _ G;have aw:=hs.objs m _ G;have N:plc (ρ m)=.slice bh cr bi:=N;rw[UT aw]at N;have cq:a.eval y=ρ m:=by
  obtain⟨rfl,rfl⟩:=h0 rfl;obtain⟨_,df,dc,_⟩:=ao;grind [K5]
 have al:plc (ρ n)=.slice (some ⟨g,0,none⟩) be c:=al;have cd:o=.slice (some ⟨g,0,none⟩) be c:=by rw[<-ba.plc];exact al
 subst cd;have cb:=K5 ti.own;subst cb;have M:i<xs.length:=bz;have aj:i<ins.length:=by rw[ti.len];exact M
 have aa:ρ n=.tuple ((.slice (some ⟨g,0,none⟩) xs.length c) :: ins).toArray:=ba.resolve_right λh=>by rw[h.2.2]at aj;simp at aj
 have ax:i*(k.size+1)+k.size<xs.length*(k.size+1):=by
  have:(i+1)*(k.size+1)<=xs.length*(k.size+1):=AAu _ M;rw[ACZ]at this;omega
 obtain⟨Q,bv,br,Y⟩:=aN ti.own ax (ρ m);have cf:(ρ m).oneCell'=true:=by rw[N];rfl
 have W:(a.eval y).cells=#[ρ m]:=by rw[cq,N];rfl
 have az:=Mb (P:=P) (xv:=a.eval y) (hT _ _ ch) bv (off:=i*(k.size+1)+k.size) (by rw[W,ci];rfl) (by rw[W];simpa using br) (by rw[W];intro u hu;simp at hu;subst hu;exact cf);rw[W]at az;refine⟨_,E3 ρ n (.tuple ((.slice (some ⟨g,0,none⟩) xs.length c) :: ins.set i (ρ m)).toArray),by rw[cl];exact az,?_⟩;have E:=GE w g (A9 Q (i*(k.size+1)+k.size) [ρ m]).toArray;change CG w0 K O0 nt ds _ _ a (w.setRow g (A9 Q (i*(k.size+1)+k.size) [ρ m]).toArray);have Y:(w.setRow g (A9 Q (i*(k.size+1)+k.size) [ρ m]).toArray).ownsRow 0 et (k.size+1) (.slice (some ⟨g,0,none⟩) xs.length c) xs.length (cells.set (i*(k.size+1)+k.size) (ρ m)):=Y;generalize w.setRow g (A9 Q (i*(k.size+1)+k.size) [ρ m]).toArray=w' at E Y;generalize av:(Value.tuple ((.slice (some ⟨g,0,none⟩) xs.length c) :: ins.set i (ρ m)).toArray)=loc;have ab:E3 ρ n loc n=loc:=Bz _ _ _;have ad:∀j,j≠n->E3 ρ n loc j=ρ j:=λj h1=>by simp[E3,h1]
 generalize E3 ρ n loc=ρ' at ab ad;have aq:∀b,bk (ρ n) b↔blk (.slice (some ⟨g,0,none⟩) xs.length c)=some b\/∃(j:Nat) (u:Value),ins[j]?=some u/\blk u=some b:=λb=>by rw[aa];exact BN
 have Z:∀(j:Nat) (u:Value),(ins.set i (ρ m))[j]?=some u->(j=i/\u=ρ m)\/(j≠i/\ins[j]?=some u):=by grind
 have ag:∀b,blk (ρ m)=some b->bk (ρ m) b:=λb f=>.inl f;have bp:∀b,bk loc b->bk (ρ n) b\/blk (ρ m)=some b:=by grind [BN]
 have bs:∀b,bk (ρ n) b->blk (ρ m)=some b->False:=λb h1 s=>cc (hs.dist m n b ⟨_,G⟩ ⟨_,hn⟩ (ag b s) h1);have ah:bk (ρ n) g:=(aq g).2 (.inl rfl);have bx:∀b,bk (ρ n) b->b<w.heap.size:=λb f=>(hs.objs n _ hn).block_lt f;have ca:∀b,blk (ρ m)=some b->b<w.heap.size:=λb f=>aw.block_lt (ag b f)
 let S:St:=⟨EZ n [m] σ.env,(n,.nest et B k e (xs.set i ((xs.getD i (k.dflt,[])).1,ys)) none) :: Cw n [m] σ.objs⟩
 have ap:∀j C,lk j S.objs=some C->(j=n/\C=.nest et B k e (xs.set i ((xs.getD i (k.dflt,[])).1,ys)) none)\/(j≠n/\j≠m/\∃r,lk j σ.objs=some r/\C=r.trn n [m]):=by
  intro j C p;simp only[S,lk]at p;split at p
  .grind
  rename_i d;rw[Dj]at p;split at p
  .cases p
  rename_i cw;simp only[No]at p;grind [Ai]
 have bo:∀j,j≠n->j≠m->∀r,lk j σ.objs=some r->lk j S.objs=some (r.trn n [m]):=by grind [lk,Dj,Ai]
 have cg:∀b,b<w.heap.size->¬own O0 σ ρ b->¬own O0 S ρ' b:=by
  intro b f H cp;rcases cp with h0|⟨j,⟨C,ce⟩,U⟩
  .exact H (.inl h0)
  rcases ap j C ce with ⟨rfl,_⟩|⟨h1,s,r,l,_⟩
  .rw[ab]at U;rcases bp b U with v|v
   .exact H (.inr ⟨_,⟨_,hn⟩,v⟩)
   exact H (.inr ⟨m,⟨_,G⟩,ag b v⟩)
  rw[ad j h1]at U;exact H (.inr ⟨j,⟨r,l⟩,U⟩)
 have R:QH (vw w O0 σ ρ) (vw w' O0 S ρ') n [m]:=by
  refine⟨cg,λj p bw=>?_,λj _ _ ak=>ad j ak,⟨_,aa⟩,?_,λb f H=>E.block b f λd=>?_⟩
  .obtain⟨r,h1⟩:=p;by_cases au:j=n
   .exact⟨.nest et B k e (xs.set i ((xs.getD i (k.dflt,[])).1,ys)) none,by simp[S,lk,au]⟩
   exact⟨_,bo j au (λd=>by simp[Ai,d]at bw) r h1⟩
  .show plc (ρ' n)=plc (ρ n);rw[ab,<-av,aa];rfl
  injection d with d
  subst d;exact H (.inr ⟨n,⟨_,hn⟩,ah⟩)
 have F:C3 ⟨w,own O0 σ ρ,λ_=>False,ρ⟩ (vw w' O0 S ρ'):=⟨R.O,λ_ h=>h.elim,λ_ h=>h.elim,R.heap⟩;have ai:∀b,b<w.heap.size->b≠g->w'.heap[b]?=w.heap[b]?:=λb h1 s=>E.block b h1 λd=>s (by injection d);refine hs.swap bm bn (T:=λj=>j=n\/j=m) (dst:=none) (u:=undef) (λj p=>?_) (new:=[(n,.nest et B k e (xs.set i ((xs.getD i (k.dflt,[])).1,ys)) none)]) E.os E.tape E.output E.size ?_ ?_ ?_ ?_ ?_ ?_ ?_ ?_
 .rcases p with rfl|rfl
  .exact⟨bu,_,hn,by rw[aa];exact .inr ⟨_,rfl⟩⟩
  grind [fJ]
 .grind
 .grind [lk]
 .grind [lk]
 .grind [lk]
 .grind [lk]
 .grind [lk]
 .intro j C p;rcases ap j C p with ⟨rfl,rfl⟩|⟨h1,s,r,l,rfl⟩
  .rw[ab];have bq:cells.length=xs.length*(k.size+1):=ti.own.1;refine⟨_,ins.set i (ρ m),cells.set (i*(k.size+1)+k.size) (ρ m),.inl av.symm,by rw[AAx];exact ti.max,by rw[AAx,AAx];exact ti.len,by rw[AAx];exact Y,λj an u h1 s=>?_,?_,?_⟩
   .have bt:∀(c2:List Value) (D:Value),j≠i->c2.length=k.size->(∀(q:Nat) (z:Value),(c2++[D])[q]?=some z->cells[j*(k.size+1)+q]?=some z)->∀(q:Nat) (z:Value),(c2++[D])[q]?=some z->(cells.set (i*(k.size+1)+k.size) (ρ m))[j*(k.size+1)+q]?=some z:=by
     intro c2 D da id I q z A;have am:=(aT.1 A).1;simp only[IF,oR,id]at am;have ak:i*(k.size+1)+k.size≠j*(k.size+1)+q:=by
      intro d;rcases Nat.lt_or_ge i j with l|l
      .have:(i+1)*(k.size+1)<=j*(k.size+1):=AAu _ l;rw[ACZ]at this;omega
      have:(j+1)*(k.size+1)<=i*(k.size+1):=AAu _ O1;rw[ACZ]at this;omega
     rw[ACs,As ak];exact I q z A
    rcases Z j u s with ⟨rfl,rfl⟩|⟨l,v⟩
    .have cm:xs[j]?=some (xs.getD j (k.dflt,[])):=by
      rw[AT M,AS,AT M];rfl
     obtain⟨c2,D,I,J,_⟩:=ti.row j _ ins[j] cm (AT aj);have ck:an=((xs.getD j (k.dflt,[])).1,ys):=by
      rw[ADo M]at h1;exact(Option.some.inj h1).symm
     subst ck;have id:c2.length=k.size:=J.length;refine⟨c2,ρ m,λq z A=>?_,B6.mono F.O F.heap J,.inr ⟨rfl,.inl rfl,?_⟩⟩
     .have am:=(aT.1 A).1;simp only[IF,oR,id]at am;rw[ACs];by_cases ay:q=k.size
      .rw[ay,At rfl,At (by rw[bq];exact ax)];rw[ay,<-id,AAd (Of _),AD9]at A;exact A
      rw[As O1];refine I q z ?_;rw[AAr O1]at A ⊢;exact A
     exact Rw.keeps (V:=⟨w,own O0 σ ρ,λ_=>False,ρ⟩) F (λb f=>ai b (ca b f) λd=>bs b (by rw[d];exact ah) f) ao
    have h1:xs[j]?=some an:=by
     rw[ACs,As (λd=>l d.symm)]at h1;exact h1
    obtain⟨c2,D,I,J,ae⟩:=ti.row j an u h1 v;rcases ae with ⟨ae,_⟩|⟨_,bj,bl⟩
    .exact absurd (by simpa using ae) (λd:i=j=>l d.symm)
    refine⟨c2,D,bt c2 D l J.length I,B6.mono F.O F.heap J,.inr ⟨rfl,bj,?_⟩⟩;exact Rw.keeps (V:=⟨w,own O0 σ ρ,λ_=>False,ρ⟩) F (λb f=>ai b (bx b ((aq b).2 (.inr ⟨j,u,v,f⟩))) λd=>ti.out j b u v f (by rw[d];rfl)) bl
   .intro bc bd b bf bg h1 s l v;rcases Z bc bf h1 with ⟨L,rfl⟩|⟨_,L⟩<;>rcases Z bd bg s with ⟨af,rfl⟩|⟨_,af⟩
    .rw[L,af]
    .grind
    .grind
    exact ti.dist bc bd b bf bg L af l v
   intro j b u h1 s l;rcases Z j u h1 with ⟨_,rfl⟩|⟨_,L⟩
   .grind
   exact ti.out j b u L s l
  rw[ad j h1];refine qZ R (λb f=>ai b ((hs.objs j r l).block_lt f) λd=>h1 (hs.dist j n b ⟨_,l⟩ ⟨_,hn⟩ f (by rw[d];exact ah))) (hs.objs j r l)
 intro s2 D bb;simp only[Fu,No]at bb;obtain⟨ct,co,rfl⟩:=bb;exact aL R (hs.env s2 ct co)
end
end
section
open Go Go.RowKit
section
variable {P:Program} {tb:Tb} {w0:World} {K O0:Nat->Prop} {nt:Nat} {ds:Fp} {σ σ':St} {ρ:Nat->Value} {a:Act} {w:World} {vc:Prop}
theorem CG.swap1 (h:CG w0 K O0 nt ds σ ρ a w) (H:∀b,K b->b<w0.heap.size) (I:∀b,O0 b->b<w0.heap.size) {tl:List Nat} (hT:∀n,n∈tl->G9 n=false/\∃o,lk n σ.objs=some o/\seat (ρ n))
  {e:Nat} (ae:e∈tl\/lk e σ.objs=none) {j:Obj} {loc:Value} {w':World}
  (U:w'.os=w.os) (Y:w'.tape=w.tape) (V:w'.output=w.output) (W:w.heap.size<=w'.heap.size)
  (B:∀b,b<w.heap.size->(∀n,n∈tl->¬bk (ρ n) b)->w'.heap[b]?=w.heap[b]?)
  (P:∀b,bk loc b->(∃m,m∈tl/\bk (ρ m) b)\/w.heap.size<=b)
  (R:∀V':Vw,V'.w=w'->C3 ⟨w,own O0 σ ρ,λ_=>False,ρ⟩ V'->BI V' j loc)
  {d:Nat} (N:d<nt) {v:AV} {u:Value} (M:∀V':Vw,V'.L e->V'.ρ e=loc->CD V' v u) :
  CG w0 K O0 nt ds ⟨(d,v) :: Cv tl σ.env,(e,j) :: A6 tl tl σ.objs⟩ (E3 ρ e loc) (a.put (some d) u) w':=by
 let S:St:=⟨(d,v) :: Cv tl σ.env,(e,j) :: A6 tl tl σ.objs⟩
 have D:∀m o,lk m S.objs=some o->(m=e/\o=j)\/(m≠e/\m∉tl/\∃c,lk m σ.objs=some c/\o=c.fgt tl):=by
  intro m o f;simp only[S,lk]at f;split at f
  .grind
  rename_i ab;rw[Ci]at f;split at f
  .cases f
  rename_i ad;simp only[No]at f;grind [A0]
 have J:∀m,m≠e->m∉tl->∀c,lk m σ.objs=some c->lk m S.objs=some (c.fgt tl):=by grind [lk,Ci,A0]
 have F:∀m,m∉tl->(∃o,lk m σ.objs=some o)->m≠e:=by grind
 have r:E3 ρ e loc e=loc:=Bz _ _ _;have z:∀m,m≠e->E3 ρ e loc m=ρ m:=λm h1=>by simp[E3,h1]
 generalize E3 ρ e loc=ρ' at r z;have G:∀b,b<w.heap.size->¬own O0 σ ρ b->¬own O0 S ρ' b:=by
  intro b l p aa;rcases aa with h0|⟨m,⟨o,Q⟩,q⟩
  .exact p (.inl h0)
  rcases D m o Q with ⟨rfl,_⟩|⟨h1,i,c,g,_⟩
  .rw[r]at q;rcases P b q with ⟨t,X,C⟩|C
   .obtain⟨_,c,k,_⟩:=hT t X;exact p (.inr ⟨t,⟨c,k⟩,C⟩)
   omega
  rw[z m h1]at q;exact p (.inr ⟨m,⟨c,g⟩,q⟩)
 have E:∀b,b<w.heap.size->¬own O0 σ ρ b->w'.heap[b]?=w.heap[b]?:=λb l p=>B b l λn hn A=>by
  obtain⟨_,c,k,_⟩:=hT n hn;exact p (.inr ⟨n,⟨c,k⟩,A⟩)
 have O:C3 ⟨w,own O0 σ ρ,λ_=>False,ρ⟩ (vw w' O0 S ρ'):=⟨G,λ_ h=>h.elim,λ_ h=>h.elim,E⟩;have hk:C3 ((vw w O0 σ ρ).buts tl) (vw w' O0 S ρ'):=by
  refine⟨G,λm f=>?_,λm f=>?_,E⟩
  .obtain⟨⟨c,h1⟩,i⟩:=f;have g:m∉tl:=λh=>by rw[(A0 _ _).2 h]at i;cases i
   exact⟨_,J m (F m g ⟨c,h1⟩) g c h1⟩
  obtain⟨⟨c,h1⟩,i⟩:=f;have g:m∉tl:=λh=>by rw[(A0 _ _).2 h]at i;cases i
  exact z m (F m g ⟨c,h1⟩)
 refine h.swap H I (T:=λm=>m∈tl) hT (new:=[(e,j)]) U Y V W B ?_ ?_ ?_ ?_ ?_ ?_ ?_
 .grind [lk]
 .grind [lk]
 .grind [lk]
 .grind [lk]
 .grind [lk]
 .intro m o f;rcases D m o f with ⟨rfl,rfl⟩|⟨h1,i,c,g,rfl⟩
  .rw[r];exact R _ rfl O
  rw[z m h1];refine aJ hk (λb l=>B b ((h.objs m c g).block_lt l) λn hn A=>?_) (h.objs m c g);obtain⟨_,af,k,_⟩:=hT n hn;exact i ((h.dist m n b ⟨_,g⟩ ⟨_,k⟩ l A)▸hn)
 intro s x hs;rw[Nb a d u s (by rw[h.nt];exact N)];simp only[S,lk]at hs;split at hs
 .rename_i es;cases hs;rw[At es];exact M _ ⟨j,by simp[S,lk]⟩ r
 rename_i es;rw[As es];rw[Gk]at hs;simp only[No]at hs;obtain⟨y,Z,rfl⟩:=hs;exact(UX (h.env s y Z)).keeps hk
theorem Z5.move {V:Vw} {a:TypeId} {k e:Ty} {hole:Bool} {cells cells':List Value} {i i':Nat} {x:k.den×List e.den} {u:Value} (h:Z5 V a k e hole cells i x u)
  (c:∀(j:Nat) (z:Value),cells[i*(k.size+1)+j]?=some z->cells'[i'*(k.size+1)+j]?=some z):Z5 V a k e hole cells' i' x u :=
 let ⟨c1,v,h1,b⟩:=h
 ⟨c1,v,λj z d=>c j z (h1 j z d),b⟩
theorem YL {V V':Vw} {et A:TypeId} {k e:Ty} {xs ys:List (k.den×List e.den)} {o D z:Value} {ins f cells m:List Value} (h1:Lu V et A k e xs none o ins cells) (p:Lu V E A k e ys none D f m)
  (r:∀b,bk (.tuple (o :: ins).toArray) b->bk (.tuple (D :: f).toArray) b->False)
  (K:V'.w.ownsRow 0 et (k.size+1) z (xs.length+ys.length) (cells++m)) (hz:blk z=blk o\/∀b,blk z=some b->V.w.heap.size<=b)
  (B:∀b,b<V.w.heap.size->blk o≠some b->V'.w.heap[b]?=V.w.heap[b]?) (hk:C3 ⟨V.w,V.O,λ_=>False,V.ρ⟩ V') (I:xs.length+ys.length<=AP) :
  Lu V' et A k e (xs++ys) none z (ins++f) (cells++m):=by
 have F:cells.length=xs.length*(k.size+1):=h1.own.1;have G:∀(i b:Nat) (u:Value),ins[i]?=some u->blk u=some b->b<V.w.heap.size:=λi b u hi c=>h1.block_lt (BN.2 (.inr ⟨i,u,hi,c⟩));have H:∀(i b:Nat) (u:Value),f[i]?=some u->blk u=some b->b<V.w.heap.size:=λi b u hi c=>p.block_lt (BN.2 (.inr ⟨i,u,hi,c⟩));have C:∀(i b:Nat) (u:Value),f[i]?=some u->blk u=some b->blk o≠some b:=λi b u hi c J=>r b (BN.2 (.inl J)) (BN.2 (.inr ⟨i,u,hi,c⟩));have y:∀(i:Nat) (u:Value),(ins++f)[i]?=some u->(i<xs.length/\ins[i]?=some u)\/(xs.length<=i/\f[i-xs.length]?=some u):=by
  intro i u hi;rw[ACg]at hi;split at hi
  .rename_i h;rw[h1.len]at h;exact .inl ⟨h,hi⟩
  rename_i h;rw[h1.len]at h hi;exact .inr ⟨O1,hi⟩
 have L:∀b,blk z=some b->(∃(i:Nat) (u:Value),ins[i]?=some u/\blk u=some b)\/(∃(i:Nat) (u:Value),f[i]?=some u/\blk u=some b)->False:=by
  intro b c hi;rcases hz with d|d
  .rw[d]at c;rcases hi with ⟨i,u,a,g⟩|⟨i,u,a,g⟩
   .exact h1.out i b u a g c
   exact C i b u a g c
  grind
 refine⟨by rw[IF];exact I,by rw[IF,IF,h1.len,p.len],by rw[IF];exact K,λi x u l hu=>?_,λi j b u v hi s hu q=>?_,λi b u hi c M=>?_⟩
 .rcases y i u hu with ⟨d,a⟩|⟨d,a⟩
  .have l:xs[i]?=some x:=by rwa [AAr d]at l
   have t:=(h1.row i x u l a).move (cells':=cells++m) (i':=i) λj z s=>by grind
   exact Z5.keeps (V:=⟨V.w,V.O,λ_=>False,V.ρ⟩) hk (λb c=>B b (G i b u a c) (h1.out i b u a c)) t
  have l:ys[i-xs.length]?=some x:=by rwa [AAd d]at l
  have t:=(p.row _ x u l a).move (cells':=cells++m) (i':=i) λj z s=>by
   have g:i*(k.size+1)=cells.length+(i-xs.length)*(k.size+1):=by
    rw[F,<-AE6];congr 1;omega
   grind
  exact Z5.keeps (V:=⟨V.w,V.O,λ_=>False,V.ρ⟩) hk (λb c=>B b (H _ b u a c) (C _ b u a c)) t
 .rcases y i u hi with ⟨d,a⟩|⟨d,a⟩<;>rcases y j v s with ⟨g,n⟩|⟨g,n⟩
  .exact h1.dist i j b u v a n hu q
  .exact(r b (BN.2 (.inr ⟨i,u,a,hu⟩)) (BN.2 (.inr ⟨_,v,n,q⟩))).elim
  .exact(r b (BN.2 (.inr ⟨j,v,n,q⟩)) (BN.2 (.inr ⟨_,u,a,hu⟩))).elim
  have:=p.dist _ _ b u v a n hu q;omega
 grind
theorem A0R (V:Vw) (et a:TypeId) (k e:Ty):Lu V et a k e [] none (.slice none 0 0) [] [] :=
 ⟨by simp[AP],rfl,ADA V.w 0 et _,λi x u h=>by simp at h,λi j b u v h=>by simp at h,λi b u h=>by simp at h⟩
theorem Mc {w:World} {base:Nat} {et:TypeId} {sz b n:Nat} {loc v:Value} {cells:List Value} (f:w.ownsRow base et sz loc n cells) (h:Di loc b 0 n v):v=loc:=by
 obtain⟨a,m,c,rfl,_,_,d,e,rfl,_,h0,_⟩:=h;grind [K5]
theorem A56 {w:World} {O:Nat->Prop} {et:TypeId} {xs:List e.den} {loc:Value} {cells:List Value} (d:xs.length<=AP) (a:w.ownsRow 0 et e.size loc xs.length cells) (c:D1 w O e cells xs):Src w O e loc xs cells:=by
 refine⟨?_,a.1,c,YF (V:=⟨w,O,λ_=>False,λ_=>undef⟩) a c,d⟩;rcases a.2 with ⟨b,hn⟩|⟨g,cap,f,b,_⟩
 .grind
 subst b;exact⟨some ⟨g,0,none⟩,cap,rfl,.inr ⟨_,rfl,a.cells (g:=g) rfl⟩⟩
theorem QI {V:Vw} {et a:TypeId} {k e:Ty} {xs:List (k.den×List e.den)} {o:Value} {ins cells:List Value} (h:Lu V et a k e xs none o ins cells):Src V.w (λ_=>False) (.agg (.prod k (.slice e))) o xs cells :=
 A56 (e:=.agg (.prod k (.slice e))) (xs:=xs) h.max h.own (Ox (λ_ _ h=>h) h λ_ _ _ _ _ h=>h)
theorem R1 {V:Vw} {et c:TypeId} {k e:Ty} {xs:List (k.den×List e.den)} {a:Option Nat} {loc:Value} (b:BI V (.nest et c k e xs a) loc):seat loc:=by
 obtain⟨o,ins,cells,a,_⟩:=b;exact a.elim (λh=>.inr ⟨_,h⟩) (λh=>.inl ⟨_,_,_,h.1⟩)
theorem A0S (hs:CG w0 K O0 nt ds σ ρ a w) (T:∀b,K b->b<w0.heap.size) (V:∀b,O0 b->b<w0.heap.size) (hT:DI P tb) {d:Nat} (W:d<nt) {ty:TypeId} {x:Operand} {n m hi C:Nat} {E A:Ty} {k e:Ty}
  (f:Al σ x=some (.sr n E 0 hi)) (g:Al σ y=some (.sr m A 0 C)) {et v:TypeId} {xs ys:List (k.den×List e.den)} (hn:lk n σ.objs=some (.nest et v k e xs none)) (D:lk m σ.objs=some (.nest R v k e ys none)) (Z:n≠m)
  (ah:G9 n=false) (ag:G9 m=false) (hu:P.underlying t=some (.slice et)) {te:TI} (J:lk et tb.ty=some te) (L:te.ty=.agg (.prod k (.slice e))) (ab:hi=xs.length) (ad:C=ys.length) (M:(xs.length+ys.length)*te.bytes<=AP) :
  ∃z w' ρ',(Builtin.append_ #[t,t] ty #[a.eval x,a.eval y]).run P w=.ok z w' /\
   CG w0 K O0 nt ds ⟨(d,.sr n (.agg (.prod k (.slice e))) 0 (xs.length+ys.length)) :: Cv [n,m] σ.env,(n,.nest et v k e (xs++ys) none) :: A6 [n,m] [n,m] σ.objs⟩ ρ' (a.put (some d) z) w':=by
 subst ab ad;have B:Es (vw w O0 σ ρ) σ a.eval:=Cp hs.env;have F:=hs.objs n _ hn;have G:=hs.objs m _ D;have aj:=R1 F;have ak:=R1 G;obtain⟨o,ins,cells,p,l⟩:=F;obtain⟨al,O,Q,s,q⟩:=G;obtain⟨_,f⟩:=B x _ f;obtain⟨_,g⟩:=B y _ g;have f:Di (plc (ρ n)) E.size 0 xs.length (a.eval x):=f;have g:Di (plc (ρ m)) A.size 0 ys.length (a.eval y):=g;rw[p.plc]at f;rw[s.plc]at g;have f:=Mc l.own f;have g:=Mc q.own g;rw[f,g];obtain⟨z,w',I,H,h,X⟩:=Gj (ty:=ty) hT hu J L l.own (QI q) M (DO _);have N:=Hv (ty:=ty) hT hu J L l.own (QI q) M I;rw[UY l.own]at h;refine⟨z,w',_,I,hs.swap1 (loc:=.tuple (z :: (ins++O)).toArray) T V (tl:=[n,m]) (λj ai=>?_) (.inl sc) h.os h.tape h.output h.size ?_ ?_ ?_ W ?_⟩
 .grind
 .exact λb c aa=>h.block b c λr=>aa n sc (p.bk.2 (BN.2 (.inl r.symm)))
 .intro b c;rcases BN.1 c with c|⟨i,u,hi,c⟩
  .rcases N with h1|h1
   .exact .inl ⟨n,sc,p.bk.2 (BN.2 (.inl (by rw[<-h1];exact c)))⟩
   exact .inr (h1 b c)
  rw[ACg]at hi;split at hi
  .exact .inl ⟨n,sc,p.bk.2 (BN.2 (.inr ⟨_,u,hi,c⟩))⟩
  exact .inl ⟨m,sc,s.bk.2 (BN.2 (.inr ⟨_,u,hi,c⟩))⟩
 .intro V' ae hk;subst ae;refine⟨z,ins++O,cells++Q,.inl rfl,YL l q (λb h1 S=>?_) H N (λb c Y=>h.block b c λr=>Y r.symm) hk X⟩;exact Z (hs.dist n m b ⟨_,hn⟩ ⟨_,D⟩ (p.bk.2 h1) (s.bk.2 S))
 intro V' U af;refine⟨U,?_⟩;show Di (plc (V'.ρ n)) _ 0 _ z;rw[af];exact Gh H
theorem A57 (hs:CG w0 K O0 nt ds σ ρ a w) (M:∀b,K b->b<w0.heap.size) (O:∀b,O0 b->b<w0.heap.size) (hT:DI P tb) {d:Nat} (Q:d<nt) {ty:TypeId} {x:Operand} {m v:Nat} {q:Ty} {e:Ty}
  (o:Al σ x=some (.raw (.slice none 0 0))) (f:Al σ y=some (.sr m q 0 v)) {et L:TypeId} {ys:List (k.den×List e.den)} (S:lk m σ.objs=some (.nest L p k e ys none)) (R:lk d σ.objs=none)
  (Z:G9 m=false) (hu:P.underlying t=some (.slice et)) {te:TI} (E:lk et tb.ty=some te) (F:te.ty=.agg (.prod k (.slice e))) (V:v=ys.length) (G:ys.length*te.bytes<=AP) :
  ∃z w' ρ',(Builtin.append_ #[t,t] ty #[a.eval x,a.eval y]).run P w=.ok z w' /\
   CG w0 K O0 nt ds ⟨(d,.sr d (.agg (.prod k (.slice e))) 0 ys.length) :: Cv [m] σ.env,(d,.nest et p k e ys none) :: A6 [m] [m] σ.objs⟩ ρ' (a.put (some d) z) w':=by
 subst V;have s:Es (vw w O0 σ ρ) σ a.eval:=Cp hs.env;have A:=hs.objs m _ S;have ad:=R1 A;obtain⟨ae,I,J,D,l⟩:=A;have o:a.eval x=.slice none 0 0:=s x _ o;obtain⟨_,f⟩:=s y _ f;have f:Di (plc (ρ m)) q.size 0 ys.length (a.eval y):=f;rw[D.plc]at f;have f:=Mc l.own f;rw[o,f];have h:=A0R (vw w O0 σ ρ) et p k e;obtain⟨z,w',C,B,g,T⟩:=Gj (ty:=ty) hT hu E F h.own (QI l) (by simpa using G) (DO _);have H:=Hv (ty:=ty) hT hu E F h.own (QI l) (by simpa using G) C;rw[UY h.own]at g;refine⟨z,w',_,C,hs.swap1 (loc:=.tuple (z :: ([]++I)).toArray) M O (tl:=[m]) (λj aa=>?_) (.inr R) g.os g.tape g.output g.size ?_ ?_ ?_ Q ?_⟩
 .grind
 .exact λb c ab=>g.block b c λn=>by simp[blk]at n
 .intro b c;rcases BN.1 c with c|⟨i,u,hi,c⟩
  .rcases H with h1|h1
   .grind [blk]
   exact .inr (h1 b c)
  exact .inl ⟨m,sc,D.bk.2 (BN.2 (.inr ⟨_,u,by simpa using hi,c⟩))⟩
 .intro V' W hk;subst W;refine⟨z,[]++I,[]++J,.inl rfl,?_⟩;have:=YL h l (λb h1 Y=>?_) B H (λb c U=>g.block b c λn=>U n.symm) hk T
  .simpa using this
  grind [BN,blk]
 intro V' N X;refine⟨N,?_⟩;show Di (plc (V'.ρ d)) _ 0 _ z;rw[X];have r:=Gh B;simp only[ABv,ACf]at r;exact r
theorem mG (hs:CG w0 K O0 nt ds σ ρ a w) (s:∀b,K b->b<w0.heap.size) (A:∀b,O0 b->b<w0.heap.size) (hT:DI P tb) {d:Option Nat} (B:∀k,d=some k->k<nt) {u ty:TypeId} {x:Operand}
  (h:DV tb σ d t u (Al σ x) (Al σ y)=some (vc,σ')) (q:vc) :
  ∃z w' ρ',(Builtin.append_ #[t,u] ty #[a.eval x,a.eval y]).run P w=.ok z w'/\CG w0 K O0 nt ds σ' ρ' (a.put d z) w':=by
 by_cases M:∃n e hi,Al σ x=some (.sr n e 0 hi)/\C7 (lk n σ.objs)=false
 .exact mE hs s A hT B h q M
 unfold DV at h;split at h
 .rename_i n e hi v j r;split at h
  .rename_i d;split at h
   .rename_i p;obtain⟨rfl,I⟩:=p;cases f:lk t tb.ty with
    | none=>rw[f]at h;simp[Eq]at h
    | some ti =>
     rw[f]at h;unfold Eq at h;split at h
     .rename_i Q offs el b F;cases F;split at h
      .rename_i G;subst G;obtain⟨hu,N,te,g,o⟩:=Cm (hT _ _ f) hT;rw[g]at h;unfold Cg at h;split at h
       .rename_i ti et L xs h1 hn;exact absurd ⟨n,_,hi,j,by rw[hn];rfl⟩ M
       .rename_i ti et O k L xs h1 hn;cases h1;split at h
        .rename_i c;obtain⟨rfl,rfl⟩:=c;unfold TC at h;split at h
         .rename_i m E V;unfold MT at h;split at h
          .rename_i S ad aa R ys J;split at h
           .rename_i c;obtain⟨rfl,W,H⟩:=c;cases D:Bh (.slice (.agg (.prod k (.slice L)))) ⟨.slice (.agg (.prod aa (.slice R))),ys⟩ with
            | none=>rw[D]at h;simp[Kz]at h
            | some af =>
             obtain⟨l,T⟩:=B3 D;injection l with l
             injection l with l C
             injection C with C
             subst l C;cases T;rw[D]at h;simp only[Kz]at h;cases h;obtain⟨X,Y,Z⟩:=q;exact A0S hs s A hT (B _ rfl) j r hn J W I H hu g o X Y Z
           cases h
          cases h
         cases h
        cases h
       cases h
      cases h
     cases h
   cases h
  cases h
 .rename_i n e i len v j r;split at h
  .rename_i d;split at h
   .rename_i p;subst p;cases f:lk t tb.ty with
    | none=>rw[f]at h;simp[OO]at h
    | some ti =>
     rw[f]at h;unfold OO at h;split at h
     .rename_i Q offs el b F;cases F;split at h
      .rename_i G;subst G;obtain⟨hu,N,te,g,o⟩:=Cm (hT _ _ f) hT;rw[g]at h;unfold P4 at h;split at h
       .rename_i ti et O k ab xs h1 hn;cases h1;split at h
        .rename_i c;obtain⟨rfl,rfl,I⟩:=c;exact A55 hs s A hT (B _ rfl) j r hn I hu g o h q
        cases h
       cases h
      cases h
     cases h
   cases h
  cases h
 .rename_i v j r;split at h
  .rename_i d;split at h
   .rename_i p;subst p;unfold Z3 at h;split at h
    .rename_i m E V ae offs el b f;obtain⟨hu,N,te,g,o⟩:=Cm (hT _ _ f) hT;rw[g]at h;unfold P6 at h;split at h
     .rename_i ti S O k e ys h1 J;cases h1;split at h
      .rename_i c;subst c;unfold P5 at h;split at h
       .rename_i c;obtain⟨U,H⟩:=c;cases h;exact A57 hs s A hT (B _ rfl) j r J (by simpa using U) H hu g o q.1 q.2
       cases h
      cases h
     cases h
    cases h
   cases h
  cases h
 cases h
theorem mH (hs:CG w0 K O0 nt ds σ ρ a w) (t:∀b,K b->b<w0.heap.size) (u:∀b,O0 b->b<w0.heap.size) (hT:DI P tb) {id:TypeId} {x:Operand} (h:IH σ (lk id tb.ty) (Al σ x) (Al σ y)=some (vc,σ')) (G:vc) :
  ∃w' ρ',(Instr.storeAt id (a.eval x) (a.eval y)).run P w=.ok () w'/\CG w0 K O0 nt ds σ' ρ' a w':=by
 by_cases C:∃n e i o off,Al σ x=some (.ep n e i o off)/\C7 (lk n σ.objs)=true
 .obtain⟨n,e,i,o,off,g,f⟩:=C;unfold IH at h;split at h
  .grind
  .rename_i ti N I i' Q O v D l H;rw[g]at l;cases l;unfold DU at h;split at h
   .rename_i hn;rw[hn]at f;cases f
   .rename_i et L k J xs j hn;split at h
    .rename_i m E hi;split at h
     .rename_i c;obtain⟨rfl,rfl,s⟩:=c;subst s;unfold MU at h;split at h
      .rename_i c;obtain⟨F,rfl,rfl⟩:=c;unfold MS at h;split at h
       .rename_i M p ys B;split at h
        .rename_i c;obtain⟨rfl,z,A⟩:=c;cases d:Bh (.slice E) ⟨.slice p,ys⟩ with
         | none=>rw[d]at h;simp[Ky]at h
         | some R =>
          obtain⟨q,r⟩:=B3 d;subst q;cases r;rw[d]at h;simp only[Ky]at h;cases h;exact A0Q hs t u hT D F g H hn B A z G
        cases h
       cases h
      cases h
     cases h
    cases h
   cases h
  cases h
 grind [w4,C7,lk]
end
end
end Go.Proofs.YtddbnflakbngaaaGreatDoor.Fw
