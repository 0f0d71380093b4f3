/- Calls by contract; stores; appends. -/
import Derived.Test.YtglkoagnnnpimaaGreatDoorDZC
import Derived.CallsIn
import Derived.TacticsIn
import Derived.OrdersIn
import Derived.RangeFuncCalls
set_option linter.unusedVariables false
set_option linter.unusedSimpArgs false
namespace Go.Proofs.YtglkoagnnnpimaaGreatDoor.Fw
variable {t E B R p:TypeId} {x:AV} {g y:Operand} {e k:Ty} {v:Value} {Z:List Nat} {Y:List Value} {X:TI} {w W:World} {o:Oper} {a:Act} {K c:Nat->Prop} {n:Nat} {l:List AV} {V:Bool}
section
open Go Go.RowKit
abbrev ACr:=@Go.Oper.uponIn_enter
def PQ (w:World) (O:Nat->Prop):(ts:List Ty)->List Value->IT ts->Prop
 | [],a,_=>a=[]
 | t :: ts,a,ds=>∃(v:Value) (r:List Value),a=v :: r/\BX w O t v ds.1/\PQ w O ts r ds.2
def FR (r:Option Nat):Fence:={ fn:=λ_=>True,depth:=none,alive:=false,round:=r }
theorem Hp {r:Option Nat} {P:Program} {f:FuncId} {args:Array Value} {R:Ending->World->Prop} (h:Calls P f args w R):CallsIn (FR r) n P f args w R:=by
 cases r with
 | none=>exact callsIn_wide.2 h
 | some l=>exact((callsIn_wide.2 h:CallsIn Fence.wide n P f args w R).inRound l:CallsIn _ n P f args w R)
theorem EY (r:Option Nat) (ρ:Operand->Value) (o:Oper) (h:∀c,o.op≠.defer c):o.semAt r ρ=execOp ρ o:=by
 cases r with
 | none=>exact Oper.semAt_none ρ o
 | some l=>exact Oper.semAt_some l ρ o h
def xL (w:World) (O:Nat->Prop) (outs:List RV) (u:Value) (w':World):Prop :=
 ∀nm:Nat,∃ρ',QS w O ⟨[],[]⟩ (λ_=>undef) (Hk nm outs) (DA nm outs) u ρ' w'
def gls:List (Nat×PV):=[(0,⟨.slice (.agg (.prod .str .str)),([(⟨#[104]⟩,⟨#[104,97,110,100,108,101]⟩),(⟨#[101]⟩,⟨#[101,118,101,110,116]⟩),(⟨#[120]⟩,⟨#[101,110,116,105,116,121]⟩),(⟨#[105]⟩,⟨#[105,110,100,101,120]⟩)]:List (ByteArray×ByteArray))⟩)]
def GW (w:World) (K O:Nat->Prop):Prop:=∀x∈gls,K x.1/\¬O x.1/\∃cs:List Value,(∀(j:Nat) (u:Value),cs[j]?=some u->w.cell? ⟨x.1,j,none⟩=some u)/\B1 w (λb=>¬K b\/O b) x.2.t cs x.2.d
theorem GW.mono {w':World} {O O':Nat->Prop} (h:GW w K O) (d:∀b,K b->¬O b->c b/\¬O' b) (e:∀b,K b->w'.heap[b]?=w.heap[b]?):GW w' c O':=λx q=>by
 obtain⟨h1,f,cs,g,i⟩:=h x q;obtain⟨k,l⟩:=d _ h1 f;refine⟨k,l,cs,λj u o=>?_,i.mono (λb _ hn p=>?_) λb _ hn=>e b (DO λhk=>hn (.inl hk))⟩
 .rw[AC8 (w:=w) (w':=w')]
  .exact g j u o
  exact e _ h1
 have hk:K b:=DO λhk=>hn (.inl hk);have a:¬O b:=λa=>hn (.inr a);obtain⟨m,n⟩:=d b hk a;rcases p with h|h
 .exact h m
 exact n h
def A6M (P:Program) (f:FuncId) (sp:AZ):Prop :=
 ∀(w:World) (O:Nat->Prop) (a:List Value) (ds:IT sp.ins),(∀b,O b->b<w.heap.size)->GW w (λb=>b<w.heap.size) O->PQ w O sp.ins a ds->sp.pre ds ->
  Calls P f a.toArray w λe w'=>∃u,e=.returned u/\xL w O (sp.out ds) u w'
def Ac (P:Program) (f:FuncId) (sp:AZ):Prop :=
 (∃ fn : Func, P.funcs[f]? = some fn /\ (fn.name == "runtime.NumGoroutine") = false /\ fn.body.isNone = false) /\ A6M P f sp
def Ic (P:Program) (tb:Tb):Prop:=∀f sp,lk f tb.fns=some sp->Ac P f sp
theorem PR {w w':World} {O O':Nat->Prop}:∀ {t:Ty} {cs:List Value} {d:t.den},t.flat=true->B1 w O t cs d->B1 w' O' t cs d
 | .int _,_,_,_,h=>h
 | .bool,_,_,_,h=>h
 | .str,_,_,_,h=>h
 | .ref _,_,_,_,h=>h
 | .slice _,_,_,hf,_=>by simp[Ty.flat]at hf
 | .prod a b,_,_,hf,h=>by
  simp only[Ty.flat,AT]at hf;obtain⟨c1,c2,rfl,h1,c⟩:=h;exact⟨c1,c2,rfl,PR hf.1 h1,PR hf.2 c⟩
 | .agg t,cs,d,hf,h=>by
  simp only[Ty.flat]at hf;have h:B1 w O t cs d:=h;exact(PR hf h:B1 w' O' t cs d)
theorem Xc {w':World} {O O':Nat->Prop} {t:Ty} {d:t.den} (hf:t.flat=true) (h:BX w O t v d):BX w' O' t v d :=
 let ⟨cs,h1,a⟩:=h
 ⟨cs,PR hf h1,a⟩
theorem SJ:∀ {l:List RV} (nm:Nat),l.all RV.flat=true->DA nm l=[]
 | [],_,_=>rfl
 | .p t d :: l,nm,h=>by
  simp only[ABA,AT]at h;simp[DA,UK,SJ (nm+10000) h.2]
 | .own _ _ _ :: l,nm,h=>by simp[RV.flat]at h
theorem xM {r:RV} (h:r.flat=true) (nm:Nat):∃t d,jH nm r=.p t d/\t.flat=true:=by
 cases r with
 | p t d=>exact⟨t,d,rfl,h⟩
 | own _ _ _=>simp[RV.flat]at h
theorem xN {V V':Vw}:∀ {l:List RV} {nm:Nat} {a:List Value},l.all RV.flat=true->Hm V (Ia nm l) a->Hm V' (Ia nm l) a
 | [],_,_,_,h=>h
 | r :: l,nm,a,hf,h=>by
  simp only[ABA,AT]at hf;obtain⟨v,c,rfl,h1,b⟩:=h;obtain⟨t,d,e,ht⟩:=xM hf.1 nm;refine⟨v,c,rfl,?_,xN hf.2 b⟩;rw[e]at h1 ⊢;exact Xc ht h1
theorem xO {V V':Vw} {l:List RV} {nm:Nat} {u:Value} (hf:l.all RV.flat=true) (h:B8 V (Hk nm l) u):B8 V' (Hk nm l) u:=by
 match l,hf,h with
 | [],_,h=>exact h
 | [r],hf,h =>
  simp only[ABA,List.all_nil,Bool.and_true]at hf;obtain⟨t,d,e,ht⟩:=xM hf nm;simp only[Hk]at h ⊢;rw[e]at h ⊢;exact Xc ht h
 | b :: c :: l,hf,h =>
  obtain⟨a,rfl,h1⟩:=h;exact⟨a,rfl,xN hf h1⟩
section
variable {P:Program} {tb:Tb} {w:World} {O0:Nat->Prop} {σ:St} {ρ:Nat->Value} {vc:Prop} {v:AV} {obs:List (Nat×Obj)}
theorem QS.call {outs:List RV} {nm:Nat} {u:Value} {ρ':Nat->Value} {w':World} (hf:Bl (DA nm outs) σ=true)
  (h:QS w (own O0 σ ρ) ⟨[],[]⟩ (λ_=>undef) (Hk nm outs) (DA nm outs) u ρ' w') :
  QS w O0 σ ρ (Hk nm outs) (DA nm outs) u (λn=>if (lk n (DA nm outs)).isSome then ρ' n else ρ n) w':=by
 have e:∀n,Gz (Dr ⟨[],[]⟩ (DA nm outs)) n↔∃o,lk n (DA nm outs)=some o:=λn=>by simp[Gz,Dr]
 have hk:Cv (vw w' (own O0 σ ρ) (Dr ⟨[],[]⟩ (DA nm outs)) ρ') (vw w' O0 (Dr σ (DA nm outs)) (λn=>if (lk n (DA nm outs)).isSome then ρ' n else ρ n)):=by
  refine⟨?_,?_,?_,λ_ _ _=>rfl⟩
  .intro b _ c d;rcases d with h0|⟨n,g,hn⟩
   .exact c (.inl (.inl h0))
   rcases Lg g with ⟨o,a⟩|⟨j,i⟩
   .refine c (.inr ⟨n,(e n).2 ⟨o,a⟩,?_⟩);simpa[a] using hn
   refine c (.inl (.inr ⟨n,i,?_⟩));simpa[j] using hn
  .intro n hn;obtain⟨o,a⟩:=(e n).1 hn;exact⟨o,by simp[Dr,BC,a]⟩
  intro n hn;obtain⟨o,a⟩:=(e n).1 hn;simp[vw,a]
 refine⟨h.below,λn hn=>by simp[hn],h.av.keeps hk,λn o a=>?_,λn o b a c=>?_,λn m o k b a f c d=>?_⟩
 .simp only[a,ACH,AB1];exact(h.obj n o a).keeps hk (λ_ _=>rfl)
 .simp only[a,ACH,AB1]at c;exact h.new n o b a c
 simp only[a,f,ACH,AB1]at c d;exact h.dist n m o k b a f c d
theorem ZT {V:Vw} {O':Nat->Prop} {l:Bool} (c:∀b,¬V.O b->¬O' b) (f:l=true->∀b,¬O' b) (e:∀n o,lk n σ.objs=some o->BB V o (V.ρ n)) {ev:Operand->Value} (d:EX V σ ev) :
  ∀ {ts:List Ty} {xs:List Operand} {ds:IT ts},Gc l σ ts xs=some ds->PQ V.w O' ts (xs.map ev) ds
 | [],[],ds,h=>rfl
 | [],_ :: _,ds,h=>by simp[Gc]at h
 | _ :: _,[],ds,h=>by simp[Gc]at h
 | t :: ts,x :: xs,ds,h=>by
  simp only[Gc]at h;cases a:Ai σ x with
  | none=>rw[a]at h;cases h
  | some av =>
   rw[a]at h;simp only at h;split at h
   .rename_i y ys g i;cases h;exact⟨ev x,xs.map ev,rfl,FX c f e g (d x av a),ZT c f e d i⟩
   cases h
theorem A6N (J:Ic P tb) (y:GW w (λb=>b<w.heap.size) (own O0 σ ρ)) (A:∀n o,lk n σ.objs=some o->BB (vw w O0 σ ρ) o (ρ n)) (O:∀b,own O0 σ ρ b->b<w.heap.size) (m:EX (vw w O0 σ ρ) σ a.eval) {d:Nat} {xs:List Operand} 
  {ts:Array TypeId} (z:o.op=.call { callee:=.value g,args:=xs.toArray,argTypes:=ts })
  (h:NX tb σ d xs (Ai σ g)=some (vc,v,obs)) (C:vc) (hf:Bl obs σ=true) {next:Act->World->Prop} {Q:Exit->Act->World->Prop} {r:Option Nat}
  (hn:∀u ρ' w',QS w O0 σ ρ v obs u ρ' w'->next (a.put o.dst u) w'):o.wpIn (FR r) 0 P a w next Q:=by
 cases p:Ai σ g with
 | none=>rw[p]at h;simp[NX]at h
 | some D =>
  rw[p]at h;have L:=m g D p;unfold NX at h;split at h
  .rename_i f H;cases H;have K:a.eval g=.func (.func f) #[] #[]:=L;cases t:lk f tb.fns with
   | none=>rw[t]at h;simp[J9]at h
   | some sp =>
    rw[t]at h;simp only[J9]at h;cases i:Gc sp.lend σ sp.ins xs with
    | none=>rw[i]at h;simp[LV]at h
    | some ds =>
     rw[i]at h;simp only[LV]at h;split at h
     .rename_i j;cases h;obtain⟨⟨fn,I,N,G⟩,B⟩:=J f sp t;have R:(execOp a.eval o).run P w=.ok (.enter f (xs.map a.eval).toArray) w:=by
       have h1 : ¬ fn.name = "runtime.NumGoroutine" := by simpa using N
       have E:¬fn.body=none:=by intro e;simp[e]at G
       simp[execOp,z,resolve,Deferred.ofValue,K,invoke,callFunc,I,h1,E]
      refine⟨λ_ _=>trivial,?_⟩;rw[EY _ _ _ (λc e=>by rw[z]at e;cases e),R,ACr];refine⟨λh=>(by simp[FR]at h),Hp ?_⟩;by_cases q:sp.lend=true
      .rw[q]at i;have x:(sp.out ds).all RV.flat=true:=by
        rcases j with j|j
        .rw[q]at j;cases j
        exact j
       have l:=ZT (V:=vw w O0 σ ρ) (O':=λ_=>False) (λ_ _ h=>h) (λ_ _ h=>h) A m i;refine(B w (λ_=>False) _ ds (λ_ h=>h.elim) (y.mono (λb F _=>⟨F,id⟩) λ_ _=>rfl) l C).mono λe w' hh=>?_;obtain⟨u,rfl,s⟩:=hh;obtain⟨ρ',k⟩:=s d;refine hn u ρ w' ?_;rw[SJ d x]at k ⊢;exact⟨k.below,λ_ _=>rfl,xO x k.av,(λ_ _ h=>by cases h),(λ_ _ _ h=>by cases h),(λ_ _ _ _ _ h=>by cases h)⟩
      have M:sp.lend=false:=by simpa using q
      rw[M]at i;have l:=ZT (V:=vw w O0 σ ρ) (O':=own O0 σ ρ) (λ_ h=>h) (λh=>by cases h) A m i;refine(B w (own O0 σ ρ) _ ds O y l C).mono λe w' hh=>?_;obtain⟨u,rfl,s⟩:=hh;obtain⟨ρ',k⟩:=s d;exact hn u _ w' (QS.call hf k)
     cases h
  cases h
end
end
section
open Go Go.RowKit
section
variable {P:Program} {tb:Tb} {w:World} {O0:Nat->Prop} {σ:St} {ρ:Nat->Value} {vc:Prop} {v:AV} {obs:List (Nat×Obj)}
theorem Ag {u:Value} {w':World} {next:Act->World->Prop} {Q:Exit->Act->World->Prop} {r:Option Nat} (h:(execOp a.eval o).run P w=.ok (.value u) w') (hn:next (a.put o.dst u) w') (b:∀c,o.op≠.defer c:=by intro c e;cases e):o.wpIn (FR r) 0 P a w next Q:=by
 refine⟨λ_ _=>trivial,?_⟩;rw[EY _ _ _ b,h];exact hn
theorem xP {V:Vw} (x:Value):B8 V (IZ x) x:=by
 unfold IZ;split
 .rename_i k n;split
  .rename_i h;exact BW h
  exact(rfl:(Value.int k n)=_)
 .exact Bq _
 .rename_i s;split
  .rename_i h;exact UU h
  exact(rfl:(Value.string s)=_)
 exact(rfl:x=x)
theorem Ci {V:Vw} (h:∀s v,lk s σ.env=some v->B8 V v (a.tmps.getD s undef)):EX V σ a.eval:=by
 intro x v b;cases x with
 | tmp t=>exact h t v b
 | const c=>simp only[Ai]at b;cases b;exact xP c
 | global g=>simp[Ai]at b
 | func f=>simp only[Ai]at b;cases b;rfl
structure A92 (P:Program) (tb:Tb) (w:World) (O0:Nat->Prop) (σ:St) (ρ:Nat->Value) (a:Act):Prop where
 hT:DB P tb
 hF:Ic P tb
 hG:GW w (λb=>b<w.heap.size) (own O0 σ ρ)
 obj:∀n o,lk n σ.objs=some o->BB (vw w O0 σ ρ) o (ρ n)
 own:∀b,own O0 σ ρ b->b<w.heap.size
 ev:EX (vw w O0 σ ρ) σ a.eval
theorem QS.toP {d n:Nat} {xs:List e.den} {u:Value} {ρ':Nat->Value} {w':World} (hown:∀b,own O0 σ ρ b->b<w.heap.size) (hf:Bl [(d,.arr t e xs)] σ=true)
  (hq:QS w O0 σ ρ (.sr d e 0 n) [(d,.arr t e xs)] u ρ' w') (hn:n=xs.length):QS w O0 σ ρ (.p (.slice e) xs) [] u ρ w' where
 below:=hq.below
 rho:=λ_ _=>rfl
 av:=by
  have hO:∀b,¬own O0 (Dr σ [(d,.arr t e xs)]) ρ' b->¬own O0 (Dr σ []) ρ b:=by
   intro b hb hb';rcases hb' with h0|⟨m,⟨o,hm⟩,hmb⟩
   .exact hb (.inl h0)
   have hm:lk m σ.objs=some o:=hm;have hne:lk m [(d,Obj.arr t e xs)]=none:=by grind [lk,N6]
   refine hb (.inr ⟨m,⟨o,by simp only[Dr,BC,hne];simpa using hm⟩,?_⟩);rw[hq.rho m hne];exact hmb
  have hd:lk d [(d,Obj.arr t e xs)]=some (.arr t e xs):=by simp[lk]
  have hb:∀b,bk (ρ' d) b->¬own O0 (Dr σ []) ρ b:=λb hb hb'=>by
   have h1:=hq.new d _ b hd hb;have h2:=hown b hb';omega
  have hr:=ZK (V:=vw w' O0 (Dr σ [(d,.arr t e xs)]) ρ') hO (λb hb'=>hb b (.inl hb')) (hq.obj d _ hd) hq.av.2;rw[hn,Jz]at hr;obtain⟨_,_,_,_,_,_,a',c',hve,_⟩:=hq.av.2;exact⟨[u],hr,by rw[hve];rfl⟩
 obj:=λ_ _ h=>by cases h
 new:=λ_ _ _ h=>by cases h
 dist:=λ_ _ _ _ _ h=>by cases h
theorem XE {id:TypeId} (hT:D2 P tb id X) (g:DB P tb) (r:∀n o,lk n σ.objs=some o->BB (vw w O0 σ ρ) o (ρ n)) (A:∀b,own O0 σ ρ b->b<w.heap.size) {ev:Operand->Value} (i:EX (vw w O0 σ ρ) σ ev) {t:Bool} {d n:Nat} {parts:List (Nat×Operand)}
  (h:B2 t σ d n parts (some X)=some (vc,v,obs)) (f:vc) (hf:Bl obs σ=true) :
  ∃u ρ' w',(Instr.buildSlice id n (parts.map λp=>(p.1,ev p.2)).toArray).run P w=.ok u w'/\QS w O0 σ ρ v obs u ρ' w':=by
 cases t with
 | false=>exact PO hT g r i h f hf
 | true =>
  unfold B2 at h;split at h
  .rename_i e offs el b D;cases s:FI σ e 0 parts with
   | none=>rw[s]at h;simp[CA]at h
   | some xs =>
    rw[s]at h;simp only[CA,AB1]at h;cases h;obtain⟨a,z⟩:∃a,lk a σ.objs=none:=by
     have:∀l:List (Nat×Obj),∃m,∀k,m<=k->lk k l=none:=by
      intro l;induction l with
      | nil=>exact⟨0,λ_ _=>rfl⟩
      | cons x l C =>
       obtain⟨m,c⟩:=C;refine⟨max m (x.1+1),λk hk=>?_⟩;have:¬k=x.1:=by omega
       obtain⟨j,o⟩:=x;simp only[lk,this,ABi];exact c k O1
     obtain⟨m,c⟩:=this σ.objs;exact⟨m,c m (On m)⟩
    have q:Bl [(a,.arr el e xs)] σ=true:=by simp[Bl,z]
    have B:B2 false σ a n parts (some X)=some (xs.length=n/\n*e.size<=16777216,.sr a e 0 n,[(a,.arr el e xs)]):=by grind [B2,CA]
    obtain⟨u,ρ',w',h1,y⟩:=PO hT g r i B f q;exact⟨u,ρ,w',h1,y.toP A q f.1.symm⟩
  cases h
theorem cN {V:Vw} {ev:Operand->Value} (f:EX V σ ev) (w':World) {k:IntKind}:∀(r:List Operand) (a m:Int),Fl σ k (some a) r=some m->IR k a->((r.map ev).foldlM Builtin.min2 (.int k a)).run P w'=.ok (.int k m) w'/\IR k m
 | [],a,m,h,ha=>by
  simp only[Fl,ABa]at h;subst h;exact⟨rfl,ha⟩
 | x :: r,a,m,h,ha=>by
  simp only[Fl]at h;cases d:Ai σ x with
  | none=>rw[d]at h;cases r<;>simp[PC,Fl]at h
  | some xv =>
   rw[d]at h;cases c:PC k a (some xv) with
   | none=>rw[c]at h;cases r<;>simp[Fl]at h
   | some j =>
    rw[c]at h;unfold PC at c;split at c
    .rename_i l b e;cases e;split at c
     .rename_i hk;subst hk;cases c;obtain⟨g,i⟩:=BT (f x _ d);have:=cN f w' r _ m h (by split;exact i;exact ha);rw[sQ,List.foldlM_cons,g];simpa[Builtin.min2] using this
     cases c
    cases c
theorem oE (G:A92 P tb w O0 σ ρ a) (h:aq tb σ (o.dst.getD 0) o.op=some (vc,v,obs)) (B:vc) (hf:Bl obs σ=true)
  {next:Act->World->Prop} {Q:Exit->Act->World->Prop} {r:Option Nat} (hn:∀u ρ' w',QS w O0 σ ρ v obs u ρ' w'->next (a.put o.dst u) w'):o.wpIn (FR r) 0 P a w next Q:=by
 obtain⟨hT,hF,hG,D,U,j⟩:=G;have O:∀n,(vw w O0 σ ρ).L n->∃o,BB (vw w O0 σ ρ) o ((vw w O0 σ ρ).ρ n):=λn ⟨o,ab⟩=>⟨o,D n o ab⟩;obtain⟨dst,op,type,pos,after,guard⟩:=o;simp only at h hn;cases op<;>simp only[aq]at h<;>try(cases h;done)
 case move x =>
  cases d:Ai σ x with
  | none=>rw[d]at h;cases h
  | some xv =>
   rw[d]at h;simp only[G1]at h;cases h;exact Ag (u:=a.eval x) (by simp[execOp]) (hn _ _ _ (QS.still (j x _ d)))
 case assign x =>
  cases d:Ai σ x with
  | none=>rw[d]at h;cases h
  | some xv =>
   rw[d]at h;simp only[G1]at h;cases h;exact Ag (u:=a.eval x) (by simp[execOp]) (hn _ _ _ (QS.still (j x _ d)))
 case pick c x y =>
  cases G:Ai σ c with
  | none=>rw[G]at h;simp[LR]at h
  | some N =>
   rw[G]at h;have S:=j c N G;unfold LR at h;split at h
   .rename_i E;cases E;have C:=EB S;cases d:Ai σ x with
    | none=>rw[d]at h;simp[G1]at h
    | some xv =>
     rw[d]at h;simp only[G1]at h;cases h;exact Ag (u:=a.eval x) (by simp[execOp,C,asBool]) (hn _ _ _ (QS.still (j x _ d)))
   .rename_i E;cases E;have C:=EB S;cases q:Ai σ y with
    | none=>rw[q]at h;simp[G1]at h
    | some H =>
     rw[q]at h;simp only[G1]at h;cases h;exact Ag (u:=a.eval y) (by simp[execOp,C,asBool]) (hn _ _ _ (QS.still (j y _ q)))
   cases h
 case alloc t =>
  cases ht:lk t tb.ty with
  | none=>rw[ht]at h;simp[LS]at h
  | some ti =>
   rw[ht]at h;obtain⟨u,ρ',w',h1,e⟩:=A3k (w:=w) (O0:=O0) (ρ:=ρ) (hT _ _ ht) h hf;exact Ag (u:=u) (w':=w') (by simp[execOp,h1]) (hn _ _ _ e)
 case box t x =>
  cases ht:lk t tb.ty with
  | none=>rw[ht]at h;simp[UL]at h
  | some ti =>
   cases d:Ai σ x with
   | none=>rw[ht,d]at h;simp[UL]at h
   | some xv =>
    rw[ht,d]at h;obtain⟨u,ρ',w',h1,e⟩:=A90 (hT _ _ ht) h (j x _ d) hf;exact Ag (u:=u) (w':=w') (by simp[execOp,h1]) (hn _ _ _ e)
 case build t parts =>
  cases ht:lk t tb.ty with
  | none=>rw[ht]at h;simp[J1]at h
  | some ti =>
   rw[ht]at h;obtain⟨rfl,u,h1,e⟩:=A3m (hT _ _ ht) D j h;have h1:(Instr.build t (parts.map λp=>(p.1,a.eval p.2))).run P w=.ok u w:=by
    rw[<-h1]
    congr 2
    apply Array.ext';simp
   exact Ag (u:=u) (w':=w) (by simp[execOp,h1]) (hn _ _ _ (QS.still e))
 case buildSlice t n parts =>
  cases T:lk (dst.getD 0) tb.nests with
  | some al =>
   rw[T]at h;simp only[HG]at h;cases ht:lk t tb.ty with
   | none=>rw[ht]at h;simp[J3]at h
   | some ti =>
    rw[ht]at h;obtain⟨u,ρ',w',h1,e⟩:=A6H (hT _ _ ht) hT D j h B hf;have h1:(Instr.buildSlice t n (parts.map λp=>(p.1,a.eval p.2))).run P w=.ok u w':=by
     rw[<-h1]
     congr 2
     grind
    exact Ag (u:=u) (w':=w') (by simp[execOp,h1]) (hn _ _ _ e)
  | none =>
  rw[T]at h;simp only[HG]at h;cases ht:lk t tb.ty with
  | none=>rw[ht]at h;simp[B2]at h
  | some ti =>
   rw[ht]at h;obtain⟨u,ρ',w',h1,e⟩:=XE (hT _ _ ht) hT D U j h B hf;have h1:(Instr.buildSlice t n (parts.map λp=>(p.1,a.eval p.2))).run P w=.ok u w':=by
    rw[<-h1]
    congr 2
    apply Array.ext';simp
   exact Ag (u:=u) (w':=w') (by simp[execOp,h1]) (hn _ _ _ e)
 case load t x =>
  cases ht:lk t tb.ty with
  | none=>rw[ht]at h;simp[Kw]at h
  | some ti =>
   cases d:Ai σ x with
   | none=>rw[ht,d]at h;simp[Kw]at h
   | some xv =>
    rw[ht,d]at h;obtain⟨rfl,u,h1,e⟩:=xD (hT _ _ ht) D h (j x _ d);exact Ag (u:=u) (w':=w) (by simp[execOp,h1]) (hn _ _ _ (QS.still e))
 case nilCheck x =>
  cases d:Ai σ x with
  | none=>rw[d]at h;simp[W9]at h
  | some xv =>
   rw[d]at h;obtain⟨rfl,⟨ad,E⟩,e⟩:=A8Z h (j x _ d);exact Ag (u:=a.eval x) (w':=w) (by simp[execOp,E]) (hn _ _ _ (QS.still e))
 case binOp op t x y ar =>
  cases d:Ai σ x with
  | none=>rw[d]at h;simp[S1]at h
  | some xv =>
   cases q:Ai σ y with
   | none=>rw[d,q]at h;cases xv<;>simp[S1]at h
   | some H =>
    rw[d,q]at h;obtain⟨rfl,h1,u,e,A⟩:=A8V (P:=P) (t:=t) (λC=>by
     cases ht:lk t tb.ty with
     | none=>rw[ht]at C;cases C
     | some ti =>
      have h0:=(hT _ _ ht).2;rw[ht]at C;unfold UM at C;split at C
      .grind
      cases C) w h B (j x _ d) (j y _ q)
    exact Ag (u:=u) (w':=w) (by simp[execOp,h1,e]) (hn _ _ _ (QS.still A))
 case unOp op t x =>
  cases d:Ai σ x with
  | none=>rw[d]at h;cases op<;>simp[qUn]at h
  | some xv =>
   rw[d]at h;obtain⟨rfl,u,e,A⟩:=AAj (P:=P) w h B (j x _ d);exact Ag (u:=u) (w':=w) (by simp[execOp,e]) (hn _ _ _ (QS.still A))
 case convert s t x =>
  cases hs:lk s tb.ty with
  | none=>rw[hs]at h;simp[Kx]at h
  | some ap =>
   cases ht:lk t tb.ty with
   | none=>rw[hs,ht]at h;simp[Kx]at h
   | some ti =>
    cases d:Ai σ x with
    | none=>rw[hs,ht,d]at h;simp[Kx]at h
    | some xv =>
     rw[hs,ht,d]at h;obtain⟨rfl,u,e,A⟩:=A6D (P:=P) hT rfl (hT _ _ hs) (hT _ _ ht) h B (j x _ d);have e:(convert s t (a.eval x)).run P w=.ok u w:=e;exact Ag (u:=u) (w':=w) (by simp[execOp,e]) (hn _ _ _ (QS.still A))
 case makeSlice t l c =>
  cases ht:lk t tb.ty with
  | none=>rw[ht]at h;simp[JM]at h
  | some ti =>
   cases d:Ai σ l with
   | none=>rw[ht,d]at h;simp[JM]at h
   | some an =>
    cases q:Ai σ c with
    | none=>rw[ht,d,q]at h;simp[JM]at h
    | some N =>
     rw[ht,d,q]at h;obtain⟨u,ρ',w',h1,e⟩:=A6I (hT _ _ ht) hT h B (j l _ d) (j c _ q) hf;exact Ag (u:=u) (w':=w') (by simp[execOp,h1]) (hn _ _ _ e)
 case slice t x lo hi ah =>
  cases ah with
  | some m =>
   cases lo with
   | some _=>cases hi<;>simp[aq]at h
   | none =>
    cases hi with
    | none=>simp[aq]at h
    | some h1 =>
     simp only[aq]at h;cases ht:lk t tb.ty with
     | none=>rw[ht]at h;simp[EK]at h
     | some ti =>
      cases d:Ai σ x with
      | none=>rw[ht,d]at h;simp[EK]at h
      | some xv =>
       cases hh:Ai σ h1 with
       | none=>rw[ht,d,hh]at h;simp[EK]at h
       | some ak =>
        cases F:Ai σ m with
        | none=>rw[ht,d,hh,F]at h;simp[EK]at h
        | some ao =>
         rw[ht,d,hh,F]at h;obtain⟨rfl,u,e,A⟩:=xI (P:=P) (V:=vw w O0 σ ρ) (hT _ _ ht) hT h B (j x _ d) (j h1 _ hh) (j m _ F);have e:(Instr.sliceAt t (a.eval x) none (some (a.eval h1)) (some (a.eval m))).run P w=.ok u w:=e;exact Ag (u:=u) (w':=w) (by simp[execOp,e]) (hn _ _ _ (QS.still A))
  | none =>
   simp only[aq]at h;cases ht:lk t tb.ty with
   | none=>rw[ht]at h;simp[Fj]at h
   | some ti =>
    cases d:Ai σ x with
    | none=>rw[ht,d]at h;simp[Fj]at h
    | some xv =>
     have R:∀ {y:Option Operand} {M:Option AV},G8 σ y=some M->cE (V:=vw w O0 σ ρ) M (y.map a.eval):=by
      intro y M q;cases y with
      | none=>simp only[G8]at q;cases q;trivial
      | some z =>
       simp only[G8,OF]at q;obtain⟨Y,ag,rfl⟩:=q;exact j z Y ag
     cases I:G8 σ lo with
     | none=>rw[ht,d,I]at h;simp[Fj]at h
     | some am =>
      cases J:G8 σ hi with
      | none=>rw[ht,d,I,J]at h;simp[Fj]at h
      | some aj =>
       rw[ht,d,I,J]at h;obtain⟨rfl,u,e,A⟩:=A3j (P:=P) (V:=vw w O0 σ ρ) (hT _ _ ht) hT h B (j x _ d) (R I) (R J);have e:(Instr.sliceAt t (a.eval x) (lo.map a.eval) (hi.map a.eval) none).run P w=.ok u w:=e;exact Ag (u:=u) (w':=w) (by simp[execOp,e]) (hn _ _ _ (QS.still A))
 case fieldAddr s x f =>
  cases hs:lk s tb.ty with
  | none=>rw[hs]at h;simp[Hl]at h
  | some ti =>
   cases d:Ai σ x with
   | none=>rw[hs,d]at h;simp[Hl]at h
   | some xv =>
    rw[hs,d]at h;obtain⟨rfl,u,e,A⟩:=A3f (P:=P) (hT _ _ hs) w h (j x _ d);exact Ag (u:=u) (w':=w) (by simp[execOp,e]) (hn _ _ _ (QS.still A))
 case indexAddr t x i =>
  cases ht:lk t tb.ty with
  | none=>rw[ht]at h;simp[GB]at h
  | some ti =>
   cases d:Ai σ x with
   | none=>rw[ht,d]at h;simp[GB]at h
   | some xv =>
    cases hi:Ai σ i with
    | none=>rw[ht,d,hi]at h;simp[GB]at h
    | some W =>
     rw[ht,d,hi]at h;obtain⟨rfl,u,e,A⟩:=A3g (P:=P) (V:=vw w O0 σ ρ) (hT _ _ ht) hT h B (j x _ d) (j i _ hi) O;have e:(Instr.indexAt t (a.eval x) (a.eval i)).run P w=.ok u w:=e;exact Ag (u:=u) (w':=w) (by simp[execOp,e]) (hn _ _ _ (QS.still A))
 case index t x i =>
  cases ht:lk t tb.ty with
  | none=>rw[ht]at h;simp[Ek]at h
  | some ti =>
   cases d:Ai σ x with
   | none=>rw[ht,d]at h;simp[Ek]at h
   | some xv =>
    cases hi:Ai σ i with
    | none=>rw[ht,d,hi]at h;simp[Ek]at h
    | some W =>
     rw[ht,d,hi]at h;obtain⟨rfl,u,e,A⟩:=xF (P:=P) (hT _ _ ht) w h B (j x _ d) (j i _ hi);exact Ag (u:=u) (w':=w) (by simp[execOp,e]) (hn _ _ _ (QS.still A))
 case extract x i =>
  cases d:Ai σ x with
  | none=>rw[d]at h;simp[E3]at h
  | some xv =>
   rw[d]at h;obtain⟨rfl,u,e,A⟩:=sY (P:=P) w h (j x _ d);exact Ag (u:=u) (w':=w) (by simp[execOp,e]) (hn _ _ _ (QS.still A))
 case makeFunc fn first aa =>
  obtain⟨rfl,u,e,A⟩:=A91 (P:=P) j h;have e:(Instr.makeFunc fn (first.map a.eval) (aa.map a.eval)).run P w=.ok u w:=by
   rw[<-e]
   congr 2<;>(apply Array.ext';simp)
  exact Ag (u:=u) (w':=w) (by simp[execOp,e]) (hn _ _ _ (QS.still A))
 case makeMap t res =>
  cases res with
  | some z=>simp[aq]at h
  | none =>
   simp only[aq]at h;cases ht:lk t tb.ty with
   | none=>rw[ht]at h;simp[Gd]at h
   | some ti =>
    rw[ht]at h;obtain⟨u,ρ',w',h1,e⟩:=s7 (w:=w) (O0:=O0) (ρ:=ρ) (hT _ _ ht) h hf;exact Ag (u:=u) (w':=w') (by simp[execOp,h1]) (hn _ _ _ e)
 case lookup t x i ok =>
  cases ht:lk t tb.ty with
  | none=>rw[ht]at h;simp[JO]at h
  | some ti =>
   cases d:Ai σ x with
   | none=>rw[ht,d]at h;simp[JO]at h
   | some xv =>
    cases hi:Ai σ i with
    | none=>rw[ht,d,hi]at h;simp[JO]at h
    | some W =>
     rw[ht,d,hi]at h;obtain⟨rfl,u,e,A⟩:=A6L (P:=P) (hT _ _ ht) hT D h (j x _ d) (j i _ hi);exact Ag (u:=u) (w':=w) (by simp[execOp,e]) (hn _ _ _ (QS.still A))
 case call c =>
  obtain⟨callee,args,argTypes⟩:=c;cases callee with
  | invoke r m=>simp[DJ]at h
  | value g =>
   simp only[DJ]at h;exact A6N hF hG D U j (xs:=args.toList) (ts:=argTypes) (o:=⟨dst,.call ⟨.value g,args,argTypes⟩,type,pos,after,guard⟩) sc h B hf hn
  | builtin b =>
   simp only[DJ]at h;obtain⟨args⟩:=args;obtain⟨argTypes⟩:=argTypes;simp only at h;unfold Df at h;split at h
   .rename_i x t;cases ht:lk t tb.ty with
    | none=>rw[ht]at h;simp[UN]at h
    | some ti =>
     cases d:Ai σ x with
     | none=>rw[ht,d]at h;simp[UN]at h
     | some xv =>
      rw[ht,d]at h;obtain⟨rfl,u,e,A⟩:=A8W (P:=P) (ty:=type) (V:=vw w O0 σ ρ) O (hT _ _ ht) w h (j x _ d);exact Ag (u:=u) (w':=w) (by simp[execOp,resolve,invoke,builtin,e]) (hn _ _ _ (QS.still A))
   .rename_i x y t u;cases d:Ai σ x with
    | none=>rw[d]at h;simp[C6]at h
    | some xv =>
     cases q:Ai σ y with
     | none=>rw[d,q]at h;simp[C6]at h
     | some H =>
      rw[d,q]at h;obtain⟨z,ρ',w',h1,e⟩:=xK (ty:=type) hT D h B (j x _ d) (j y _ q) hf;exact Ag (u:=z) (w':=w') (by simp[execOp,resolve,invoke,builtin,h1]) (hn _ _ _ e)
   .rename_i x y t u;cases d:Ai σ x with
    | none=>rw[d]at h;simp[S2]at h
    | some xv =>
     cases q:Ai σ y with
     | none=>rw[d,q]at h;simp[S2]at h
     | some H =>
      rw[d,q]at h;obtain⟨rfl,z,h1,e⟩:=A8X (P:=P) (ts:=#[t,u]) (ty:=type) w h (j x _ d) (j y _ q);exact Ag (u:=z) (w':=w) (by simp[execOp,resolve,invoke,builtin,h1]) (hn _ _ _ (QS.still e))
   .rename_i x y t u;cases d:Ai σ x with
    | none=>rw[d]at h;simp[S3]at h
    | some xv =>
     cases q:Ai σ y with
     | none=>rw[d,q]at h;simp[S3]at h
     | some H =>
      rw[d,q]at h;obtain⟨rfl,z,h1,e⟩:=A8Y (P:=P) (ts:=#[t,u]) (ty:=type) w h (j x _ d) (j y _ q);exact Ag (u:=z) (w':=w) (by simp[execOp,resolve,invoke,builtin,h1]) (hn _ _ _ (QS.still e))
   .rename_i x y X t u ai;cases d:Ai σ x with
    | none=>rw[d]at h;simp[JN]at h
    | some xv =>
     cases q:Ai σ y with
     | none=>rw[d,q]at h;simp[JN]at h
     | some H =>
      cases K:Ai σ X with
      | none=>rw[d,q,K]at h;simp[JN]at h
      | some Y =>
       rw[d,q,K]at h;obtain⟨rfl,z,h1,e⟩:=A6E (P:=P) (ts:=#[t,u,ai]) (ty:=type) w h (j x _ d) (j y _ q) (j X _ K);exact Ag (u:=z) (w':=w) (by simp[execOp,resolve,invoke,builtin,h1]) (hn _ _ _ (QS.still e))
   .rename_i ts x y z u r;cases d:Ai σ x with
    | none=>rw[d]at h;simp[PD]at h
    | some xv =>
     rw[d]at h;unfold PD at h;split at h
     .rename_i k Z E;cases E;cases F:Fl σ k (some Z) (y :: z :: u :: r) with
      | none=>rw[F]at h;simp[R6]at h
      | some m =>
       rw[F]at h;simp only[R6,ABa,ACB]at h;obtain⟨rfl,rfl,rfl⟩:=h;obtain⟨ae,af⟩:=BT (j x _ d);obtain⟨h1,e⟩:=cN (P:=P) j w _ _ _ F af;have A:(Builtin.min_ ⟨argTypes⟩ type (a.eval x :: a.eval y :: a.eval z :: a.eval u :: r.map a.eval).toArray).run P w=.ok (.int k m) w:=by
        rw[ae];exact h1
       exact Ag (u:=.int _ m) (w':=w) (by simp[execOp,resolve,invoke,builtin,A]) (hn _ _ _ (QS.still (BW e)))
     cases h
   cases h
end
end
section
open Go Go.RowKit
section
variable {w0:World} {K O0:Nat->Prop} {nt:Nat} {ds:Fp} {σ:St} {ρ:Nat->Value} {a:Act} {w:World}
theorem A3o {n:Nat} {o:Obj} {env:List (Nat×AV)} (m:Nat):Gz ⟨env,upd n o σ.objs⟩ m↔Gz σ m:=by
 constructor
 .rintro⟨x,a⟩;rw[GD]at a;split at a
  .rename_i e;subst e;simp only[OF]at a;obtain⟨y,b,_⟩:=a;exact⟨y,b⟩
  exact⟨x,a⟩
 rintro⟨x,a⟩;by_cases e:m=n
 .subst e;exact⟨o,by simp[GD,a]⟩
 exact⟨x,by simp[GD,e,a]⟩
theorem CB.upd (h:CB w0 K O0 nt ds σ ρ a w) (A:∀b,K b->b<w0.heap.size) {n:Nat} {o j:Obj} (hn:lk n σ.objs=some o) {g:Nat} (r:blk (ρ n)=some g) {w':World} (c:w.grownBy w' (some g))
  (H:BB (vw w' O0 σ ρ) j (ρ n)):CB w0 K O0 nt ds ⟨σ.env,Fw.upd n j σ.objs⟩ ρ a w':=by
 have f:Gz ⟨σ.env,Fw.upd n j σ.objs⟩=Gz σ:=funext λm=>propext (A3o m);have y:vw w' O0 ⟨σ.env,Fw.upd n j σ.objs⟩ ρ=vw w' O0 σ ρ:=by
  have E:own O0 ⟨σ.env,Fw.upd n j σ.objs⟩ ρ=own O0 σ ρ:=by
   funext b;simp only[own,f]
  simp only[vw,f,E]
 have C:own O0 σ ρ g:=.inr ⟨n,⟨o,hn⟩,.inl r⟩;have hk:Cv (vw w O0 σ ρ) (vw w' O0 σ ρ):=⟨λ_ _ h=>h,λ_ h=>h,λ_ _=>rfl,λb D B=>c.block b D (λe=>by injection e with e;subst e;exact B C)⟩;refine⟨⟨c.os.trans h.frm.os,c.tape.trans h.frm.tape,c.output.trans h.frm.output,gO h.frm.size c.size,λk t=>?_⟩,h.nt,h.defers,λp F=>by rw[f];exact h.pin p F,?_,?_,?_,?_⟩
 .refine(c.block k (AAS (A k t) h.frm.size) (λe=>?_)).trans (h.frm.block k t);injection e with e
  subst e;exact(h.free n k ⟨o,hn⟩ (.inl r)).1 t
 .intro m x i;rw[y];rw[GD]at i;split at i
  .grind
  rename_i e;refine(h.objs m x i).keeps hk λb l=>?_;refine c.block b ((h.objs m x i).block_lt l) (λq=>?_);injection q with q
  subst q;exact e (h.dist m n b ⟨x,i⟩ ⟨o,hn⟩ l (.inl r))
 .intro m b d l;rw[f]at d;exact h.free m b d l
 .intro m G b d u h1 z;rw[f]at d u;exact h.dist m G b d u h1 z
 intro s v hs;rw[y];exact(h.env s v hs).keeps hk
theorem JQ (n s:Nat):∀l:List (Nat×AV),lk s (F9 n l)=(lk s l).map (AV.drp n)
 | []=>rfl
 | (j,v) :: l=>by
  simp only[F9,lk];split
  .rfl
  exact JQ n s l
def Obj.drp (n:Nat):Obj->Obj
 | .arr et e xs=>.arr et e xs
 | .box et st fs=>.box et st (AV.drps n fs)
 | .mapo k v l=>.mapo k v l
 | .nest et b k e xs h=>.nest et b k e xs h
 | .frame i fs=>.frame i (F9 n fs)
 | .loop L=>.loop L
 | .itr c g d f a=>.itr c g d f a
 | .dfr=>.dfr
 | .sit sb sp=>.sit sb sp
theorem Bm (n s:Nat):∀l:List (Nat×Obj),lk s (Bg n l)=(lk s l).map (Obj.drp n)
 | []=>rfl
 | (j,.arr et e xs) :: l=>by
  simp only[Bg,lk];split
  .rfl
  exact Bm n s l
 | (j,.box et st fs) :: l=>by
  simp only[Bg,lk];split
  .rfl
  exact Bm n s l
 | (j,.mapo k v x) :: l=>by
  simp only[Bg,lk];split
  .rfl
  exact Bm n s l
 | (j,.nest et b k e xs h) :: l=>by
  simp only[Bg,lk];split
  .rfl
  exact Bm n s l
 | (j,.frame i fs) :: l=>by
  simp only[Bg,lk];split
  .rfl
  exact Bm n s l
 | (j,.loop L) :: l=>by
  simp only[Bg,lk];split
  .rfl
  exact Bm n s l
 | (j,.itr c g d f a) :: l=>by
  simp only[Bg,lk];split
  .rfl
  exact Bm n s l
 | (j,.dfr) :: l=>by
  simp only[Bg,lk];split
  .rfl
  exact Bm n s l
 | (j,.sit sb sp) :: l=>by
  simp only[Bg,lk];split
  .rfl
  exact Bm n s l
def Vw.but (V:Vw) (n:Nat):Vw:=⟨V.w,V.O,λm=>V.L m/\m≠n,V.ρ⟩
def seat (v:Value):Prop:=(∃a m c,v=.slice a m c)\/∃b,v=.tuple b
theorem Id {V:Vw} {n:Nat} (hn:seat (V.ρ n)) {v:Value} (h:Lf V x v):Lf (V.but n) (x.drp n) v:=by
 cases x;case sr m e lo hi =>
  simp only[AV.drp];split
  .trivial
  rename_i g;exact⟨⟨h.1,g⟩,h.2⟩
 case ep m e i p off =>
  simp only[AV.drp];split
  .trivial
  rename_i g;exact⟨⟨h.1,g⟩,h.2⟩
 case nin m e i len =>
  simp only[AV.drp];split
  .trivial
  rename_i g;exact⟨⟨h.1,g⟩,h.2⟩
 case bp m p off =>
  simp only[AV.drp];refine⟨⟨h.1,λe=>?_⟩,h.2⟩;subst e;obtain⟨_,b,d,_⟩:=h;rcases hn with ⟨a,j,c,hs⟩|⟨k,hs⟩<;>(rw[hs]at d;cases d)
 case clo f ns =>
  simp only[AV.drp];refine⟨h.1,λm o=>?_⟩;obtain⟨h1,b,d⟩:=h.2 m o;refine⟨⟨h1,λe=>?_⟩,b,d⟩;subst e;rcases hn with ⟨a,j,c,hs⟩|⟨k,hs⟩<;>(rw[hs]at d;cases d)
 case mp m =>
  simp only[AV.drp];refine⟨⟨h.1,λe=>?_⟩,h.2⟩;subst e;obtain⟨_,b,d,_⟩:=h;rcases hn with ⟨a,j,c,hs⟩|⟨k,hs⟩<;>(rw[hs]at d;cases d)
 case yl m =>
  simp only[AV.drp];refine⟨⟨h.1,λe=>?_⟩,h.2⟩;subst e;obtain⟨_,b,d,_⟩:=h;rcases hn with ⟨a,j,c,hs⟩|⟨k,hs⟩<;>(rw[hs]at d;cases d)
 case ag l=>exact h.elim
 case tup l=>exact h.elim
 all_goals simp only[AV.drp];exact h
theorem xQ {V:Vw} {n:Nat} (hn:seat (V.ρ n)) {cs:List Value} (h0:XB x=false) (h:F4 V x cs):F4 (V.but n) (x.drp n) cs:=by
 cases x;case p t d=>simp only[AV.drp];exact h
 case ag l=>cases h0
 case tup l=>obtain⟨v,_,_,hf⟩:=h;exact hf.elim
 all_goals
  obtain⟨v,rfl,h1,c⟩:=h;have a:=Id hn c;simp only[AV.drp]at a ⊢;first
   | exact⟨v,rfl,h1,a⟩
   | (split at a<;>rename_i b<;>first|(rw[At b];exact⟨v,rfl,h1,a⟩)|(rw[An b];exact⟨v,rfl,h1,a⟩))
theorem xR {V:Vw} {n:Nat} (hn:seat (V.ρ n)):(∀(x:AV) (cs:List Value),F4 V x cs->F4 (V.but n) (x.drp n) cs)/\∀(l:List AV) (cs:List Value),AVCs V l cs->AVCs (V.but n) (AV.drps n l) cs :=
 PI (λ_=>by simp only[AV.drp]) (by simp only[AV.drps]) (λ_ _=>by simp only[AV.drps]) (xQ hn)
theorem Uc {V:Vw} {n:Nat} (hn:seat (V.ρ n)) {cs:List Value} (h:AVCs V l cs):AVCs (V.but n) (AV.drps n l) cs:=(xR hn).2 l cs h
theorem A3p {V:Vw} {n:Nat} (hn:seat (V.ρ n)) {v:Value} (a:SD V x v):SD (V.but n) (x.drp n) v:=by
 cases x;case ag l=>obtain⟨cs,h1,b⟩:=a;simp only[AV.drp];exact⟨cs,h1,Uc hn b⟩
 all_goals exact SD.of1 (Id hn a)
theorem cO {V:Vw} {n:Nat} (hn:seat (V.ρ n)):∀ {l:List AV} {a:List Value},Hm V l a->Hm (V.but n) (AV.drps n l) a
 | [],a,h=>(h:a=[])
 | x :: r,a,h=>by
  obtain⟨v,c,rfl,h1,b⟩:=h;simp only[AV.drps];exact⟨v,c,rfl,A3p hn h1,cO hn b⟩
theorem A3q {V:Vw} {v:Value} (h:Lf V x v):B8 V x v:=by
 cases x;case ag l=>exact h.elim
 case tup l=>exact h.elim
 all_goals exact h
theorem oG {V:Vw} {n:Nat} (hn:seat (V.ρ n)) {v:Value} (h:B8 V x v):B8 (V.but n) (x.drp n) v:=by
 cases x;case ag l=>obtain⟨cs,h1,a⟩:=h;simp only[AV.drp];exact⟨cs,h1,Uc hn a⟩
 case tup l=>obtain⟨b,h1,a⟩:=h;simp only[AV.drp];exact⟨b,h1,cO hn a⟩
 all_goals exact A3q (Id hn h)
theorem SK (n:Nat):∀l:List AV,(AV.drps n l).length=l.length
 | []=>rfl
 | _ :: r=>by simp[AV.drps,SK n r]
theorem A3r {n:Nat} {c:Obj} {env:List (Nat×AV)} (m:Nat):Gz ⟨env,upd n c (Bg n σ.objs)⟩ m↔Gz σ m:=by
 constructor
 .rintro⟨x,a⟩;rw[GD,Bm,Bm]at a;split at a
  .rename_i e;subst e;simp only[Option.map_map,OF]at a;obtain⟨y,b,_⟩:=a;exact⟨y,b⟩
  simp only[OF]at a;obtain⟨y,b,_⟩:=a;exact⟨y,b⟩
 rintro⟨x,a⟩;by_cases e:m=n
 .subst e;exact⟨c,by simp[GD,Bm,a]⟩
 exact⟨x.drp n,by simp[GD,Bm,e,a]⟩
theorem CB.app (h:CB w0 K O0 nt ds σ ρ a w) (ad:∀b,K b->b<w0.heap.size) (ar:∀b,O0 b->b<w0.heap.size) {n:Nat} (ah:G0 n=false) {et:TypeId} {xs ys:List e.den} (hn:lk n σ.objs=some (.arr et e xs)) {loc:Value} {w':World} {cells:List Value}
  (E:w.grownBy w' (blk (ρ n))) (T:blk loc=blk (ρ n)\/∀b,blk loc=some b->w.heap.size<=b) (I:ys.length<=AP)
  (Q:w'.ownsRow 0 et e.size loc ys.length cells) (ag:Dp w (own O0 σ ρ) e cells ys) {d:Nat} (af:d<nt) {hi:Nat} (ai:hi=ys.length) :
  CB w0 K O0 nt ds ⟨(d,.sr n e 0 hi) :: F9 n σ.env,Fw.upd n (.arr et e ys) (Bg n σ.objs)⟩ (Eh ρ n loc) (a.put (some d) loc) w':=by
 subst ai;have J:∃a m c,(vw w O0 σ ρ).ρ n=.slice a m c:=by
  obtain⟨_,cells',al,_⟩:=h.objs n _ hn;rcases al.2 with ⟨D,_⟩|⟨g,cap,W,D,_⟩
  .exact⟨_,_,_,D⟩
  exact⟨_,_,_,D⟩
 let σ':St:=⟨(d,.sr n e 0 ys.length) :: F9 n σ.env,Fw.upd n (.arr et e ys) (Bg n σ.objs)⟩
 have F:∀m,Gz σ' m↔Gz σ m:=λm=>A3r m;have H:∀b,bk loc b↔blk loc=some b:=λb=>by
  rcases Q.2 with ⟨D,_⟩|⟨g,cap,W,D,_⟩
  .rw[D];exact Le
  rw[D];exact Le
 have au:∀b,bk (ρ n) b↔blk (ρ n)=some b:=λb=>by
  obtain⟨Z,ap,c2,u⟩:=J;have u:ρ n=_:=u;rw[u];exact Le
 have aj:∀b,bk loc b->own O0 σ ρ b\/w.heap.size<=b:=by
  intro b f;replace f:=(H b).1 f;rcases T with h1|h1
  .exact .inl (.inr ⟨n,⟨_,hn⟩,.inl (by rw[<-h1];exact f)⟩)
  exact .inr (h1 b f)
 have hk:Cv ((vw w O0 σ ρ).but n) (vw w' O0 σ' (Eh ρ n loc)):=by
  refine⟨?_,λm I=>(F m).2 I.1,λm I=>?_,?_⟩
  .intro b O f C;rcases C with h0|⟨m,i,N⟩
   .exact f (.inl h0)
   by_cases P:m=n
   .subst P;rw[Br]at N;rcases aj b N with h1|h1
    .exact f h1
    have O:b<w.heap.size:=O;omega
   have:Eh ρ n loc m=ρ m:=by simp[Eh,P]
   rw[this]at N;exact f (.inr ⟨m,(F m).1 i,N⟩)
  .have:m≠n:=I.2;show Eh ρ n loc m=ρ m;simp[Eh,this]
  intro b O f;exact E.block b O (λj=>f (.inr ⟨n,⟨_,hn⟩,.inl j.symm⟩))
 refine⟨⟨E.os.trans h.frm.os,E.tape.trans h.frm.tape,E.output.trans h.frm.output,gO h.frm.size E.size,λk R=>?_⟩,by rw[PJ];exact h.nt,by rw[KA];exact h.defers,λp am=>?_,?_,?_,?_,?_⟩
 .refine(E.block k (AAS (ad k R) h.frm.size) (λj=>?_)).trans (h.frm.block k R);exact(h.free n k ⟨_,hn⟩ (.inl j.symm)).1 R
 .obtain⟨h1,G,B⟩:=h.pin p am;have aw:p.1≠n:=by
   intro t;obtain⟨Z,ap,c2,u⟩:=J;have u:ρ n=_:=u;rw[<-t,G]at u;rw[u]at B;rcases B with B|B
   .cases B
   rw[t,ah]at B;cases B
  grind [Eh]
 .intro m x A;show BB (vw w' O0 σ' (Eh ρ n loc)) x (Eh ρ n loc m);rw[GD]at A;split at A
  .rename_i j;subst j;rw[Bm,hn]at A;simp only[ABS]at A;cases A;rw[Br];exact⟨I,cells,Q,ag.keeps (V:=(vw w O0 σ ρ).but m) hk⟩
  rename_i j;rw[Bm]at A;simp only[OF]at A;obtain⟨y,r,rfl⟩:=A;have:Eh ρ n loc m=ρ m:=by simp[Eh,j]
  rw[this];have f:∀b,bk (ρ m) b->w'.heap[b]?=w.heap[b]?:=λb C=>by
   refine E.block b ((h.objs m y r).block_lt C) (λt=>?_);exact j (h.dist m n b ⟨y,r⟩ ⟨_,hn⟩ C (.inl t.symm))
  have q:=h.objs m y r;cases y with
  | arr Y t bc=>exact BB.keeps (V:=(vw w O0 σ ρ).but n) hk f q
  | box Y st fs =>
   obtain⟨h0,b,cs,i,hh,ae⟩:=q;exact BB.keeps (V:=(vw w O0 σ ρ).but n) (o:=.box Y st (AV.drps n fs)) hk f ⟨λan=>by rw[SK];exact h0 an,b,cs,i,hh,Uc (.inl J) ae⟩
  | mapo k v l=>exact BB.keeps (V:=(vw w O0 σ ρ).but n) hk f q
  | nest et ao k e xs i=>exact BB.keeps (V:=(vw w O0 σ ρ).but n) (o:=.nest et ao k e xs i) hk f (Mp (V:=vw w O0 σ ρ) (V':=(vw w O0 σ ρ).but n) rfl rfl q)
  | frame aq fs =>
   obtain⟨h0,h1⟩:=q;refine BB.keeps (V:=(vw w O0 σ ρ).but n) (o:=.frame aq (F9 n fs)) hk f ⟨h0,λs z U=>?_⟩;rw[JQ]at U;simp only[OF]at U;obtain⟨y,r,rfl⟩:=U;exact oG (.inl J) (h1 s y r)
  | loop L=>exact BB.keeps (V:=(vw w O0 σ ρ).but n) hk f q
  | itr ay bb az ba ax=>exact BB.keeps (V:=(vw w O0 σ ρ).but n) hk f q
  | dfr=>exact BB.keeps (V:=(vw w O0 σ ρ).but n) hk f q
  | sit sb sp=>exact BB.keeps (V:=(vw w O0 σ ρ).but n) hk f q
 .intro m b i f;replace i:=(F m).1 i;by_cases j:m=n
  .subst j;rw[Br]at f;rcases T with h1|h1
   .exact h.free m b i (.inl (by rw[<-h1];exact(H b).1 f))
   have:=h1 b ((H b).1 f);have:=h.frm.size;grind
  have:Eh ρ n loc m=ρ m:=by simp[Eh,j]
  rw[this]at f;exact h.free m b i f
 .have key:∀m b,Gz σ m->m≠n->bk (ρ m) b->bk loc b->False:=by
   intro m b i P f C;rcases T with h1|h1
   .exact P (h.dist m n b i ⟨_,hn⟩ f (.inl (by rw[<-h1];exact(H b).1 C)))
   have G:=h1 b ((H b).1 C);obtain⟨y,r⟩:=i;have:=(h.objs m y r).block_lt f;have:b<w.heap.size:=this;omega
  intro m M b i S h1 G;replace i:=(F m).1 i;replace S:=(F M).1 S;by_cases X:m=n<;>by_cases t:M=n
  .rw[X,t]
  .grind [Eh,Br]
  .grind [Eh,Br]
  have aa:Eh ρ n loc m=ρ m:=by simp[Eh,X]
  have ab:Eh ρ n loc M=ρ M:=by simp[Eh,t]
  rw[aa]at h1;rw[ab]at G;exact h.dist m M b i S h1 G
 intro s v hs;show B8 (vw w' O0 σ' (Eh ρ n loc)) v _;rw[Mo a d loc s (by rw[h.nt];exact af)];simp only[lk]at hs;split at hs
 .rename_i es;cases hs;rw[At es];refine⟨(F n).2 ⟨_,hn⟩,?_⟩;show DS (plc (Eh ρ n loc n)) e.size 0 ys.length loc;rw[Br,HI Q];rcases Q.2 with ⟨rfl,ak⟩|⟨g,cap,W,rfl,_,_,av,_⟩
  .exact⟨none,0,0,rfl,O1,O1,none,0,by rw[ak],O1,λ_=>⟨rfl,rfl⟩,λh=>by omega⟩
  exact⟨some ⟨g,0,none⟩,ys.length,cap,rfl,O1,O1,some ⟨g,0,none⟩,cap,sc,O1,λ_=>⟨rfl,rfl⟩,λ_=>by simp[Mm]⟩
 rename_i es;rw[An es];rw[JQ]at hs;simp only[OF]at hs;obtain⟨y,r,rfl⟩:=hs;exact(oG (.inl J) (h.env s y r)).keeps hk
end
end
section
open Go Go.RowKit
def Vw.buts (V:Vw) (hs:List Nat):Vw:=⟨V.w,V.O,λm=>V.L m/\Af m hs=false,V.ρ⟩
theorem ZU {V:Vw} {hs:List Nat} (h:Lf V x v):Lf (V.buts hs) (x.fgt hs) v:=by
 cases x;case clo f ns =>
  simp only[AV.fgt];split
  .trivial
  rename_i a;refine⟨h.1,λn hn=>⟨⟨(h.2 n hn).1,?_⟩,(h.2 n hn).2⟩⟩;grind
 case ag l=>exact h.elim
 case tup l=>exact h.elim
 case p t d=>simp only[AV.fgt];exact h
 case pc e d=>simp only[AV.fgt];exact h
 case raw u=>simp only[AV.fgt];exact h
 case ip t d=>simp only[AV.fgt];exact h
 case fn f=>simp only[AV.fgt];exact h
 case top=>trivial
 all_goals
  simp only[AV.fgt];split
  .trivial
  rename_i a;exact⟨⟨h.1,by simpa using a⟩,h.2⟩
theorem xS {V:Vw} {hs:List Nat} {cs:List Value} (h0:XB x=false) (h:F4 V x cs):F4 (V.buts hs) (x.fgt hs) cs:=by
 cases x;case p t d=>simp only[AV.fgt];exact h
 case ag l=>cases h0
 case tup l=>obtain⟨v,_,_,hf⟩:=h;exact hf.elim
 all_goals
  obtain⟨v,rfl,h1,c⟩:=h;have a:=ZU (hs:=hs) c;simp only[AV.fgt]at a ⊢;first
   | exact⟨v,rfl,h1,a⟩
   | (split at a<;>rename_i b<;>first|(rw[At b];exact⟨v,rfl,h1,a⟩)|(rw[An b];exact⟨v,rfl,h1,a⟩))
theorem xT {V:Vw} {hs:List Nat}:(∀(x:AV) (cs:List Value),F4 V x cs->F4 (V.buts hs) (x.fgt hs) cs)/\∀(l:List AV) (cs:List Value),AVCs V l cs->AVCs (V.buts hs) (AV.fgts hs l) cs :=
 PI (λ_=>by simp only[AV.fgt]) (by simp only[AV.fgts]) (λ_ _=>by simp only[AV.fgts]) xS
theorem Ud {V:Vw} {hs:List Nat} {cs:List Value} (h:AVCs V l cs):AVCs (V.buts hs) (AV.fgts hs l) cs:=xT.2 l cs h
theorem A3s {V:Vw} {hs:List Nat} (a:SD V x v):SD (V.buts hs) (x.fgt hs) v:=by
 cases x;case ag l=>obtain⟨cs,h1,b⟩:=a;simp only[AV.fgt];exact⟨cs,h1,Ud b⟩
 all_goals exact SD.of1 (ZU a)
theorem cQ {V:Vw} {hs:List Nat}:∀ {l:List AV} {a:List Value},Hm V l a->Hm (V.buts hs) (AV.fgts hs l) a
 | [],a,h=>(h:a=[])
 | x :: r,a,h=>by
  obtain⟨v,c,rfl,h1,b⟩:=h;simp only[AV.fgts];exact⟨v,c,rfl,A3s h1,cQ b⟩
theorem TP {V:Vw} {hs:List Nat} (h:B8 V x v):B8 (V.buts hs) (x.fgt hs) v:=by
 cases x;case ag l=>obtain⟨cs,h1,a⟩:=h;simp only[AV.fgt];exact⟨cs,h1,Ud a⟩
 case tup l=>obtain⟨b,h1,a⟩:=h;simp only[AV.fgt];exact⟨b,h1,cQ a⟩
 all_goals exact A3q (ZU h)
theorem GH (hs:List Nat) (s:Nat):∀l:List (Nat×AV),lk s (C2 hs l)=(lk s l).map (AV.fgt hs)
 | []=>rfl
 | (j,v) :: l=>by
  simp only[C2,lk];split
  .rfl
  exact GH hs s l
theorem SL (hs:List Nat):∀l:List AV,(AV.fgts hs l).length=l.length
 | []=>rfl
 | _ :: r=>by simp[AV.fgts,SL hs r]
theorem CY (a hs:List Nat) (n:Nat):∀l:List (Nat×Obj),lk n (A4 a hs l)=if Af n a=true then none else (lk n l).map (Obj.fgt hs)
 | []=>by simp[A4,lk]
 | (j,o) :: l=>by
  simp only[A4];by_cases b:Af j a=true
  .rw[At b,CY a hs n l];grind [lk]
  rw[An b];simp only[lk];by_cases hn:n=j
  .subst hn;simp[b]
  simp[hn,CY a hs n l]
theorem ZV {V V':Vw} {hs:List Nat} (hk:Cv (V.buts hs) V') {o:Obj} {loc:Value} (a:∀b,bk loc b->V'.w.heap[b]?=V.w.heap[b]?) (h:BB V o loc):BB V' (o.fgt hs) loc:=by
 cases o with
 | arr et e xs=>exact BB.keeps (V:=V.buts hs) hk a h
 | box et st fs =>
  obtain⟨h0,b,cs,c,hh,f⟩:=h;exact BB.keeps (V:=V.buts hs) (o:=.box et st (AV.fgts hs fs)) hk a ⟨λg=>by rw[SL];exact h0 g,b,cs,c,hh,Ud f⟩
 | mapo k v l=>exact BB.keeps (V:=V.buts hs) hk a h
 | nest et j k e xs c=>exact BB.keeps (V:=V.buts hs) (o:=.nest et j k e xs c) hk a (Mp (V:=V) (V':=V.buts hs) rfl rfl h)
 | frame m fs =>
  obtain⟨h0,h1⟩:=h;refine BB.keeps (V:=V.buts hs) (o:=.frame m (C2 hs fs)) hk a ⟨h0,λs z d=>?_⟩;rw[GH]at d;simp only[OF]at d;obtain⟨y,i,rfl⟩:=d;exact TP (h1 s y i)
 | loop L=>exact BB.keeps (V:=V.buts hs) hk a h
 | itr p t q r n=>exact BB.keeps (V:=V.buts hs) hk a h
 | dfr=>exact BB.keeps (V:=V.buts hs) hk a h
 | sit sb sp=>exact BB.keeps (V:=V.buts hs) hk a h
section
variable {w0:World} {K O0:Nat->Prop} {nt:Nat} {ds:Fp} {σ:St} {ρ:Nat->Value} {a:Act} {w:World}
theorem CB.swap (h:CB w0 K O0 nt ds σ ρ a w) (H:∀b,K b->b<w0.heap.size) (ab:∀b,O0 b->b<w0.heap.size) {T:Nat->Prop} (hT:∀n,T n->G0 n=false/\∃o,lk n σ.objs=some o/\seat (ρ n))
  {new:List (Nat×Obj)} {σ':St} {ρ':Nat->Value} {w':World} {dst:Option Nat} {u:Value}
  (V:w'.os=w.os) (Z:w'.tape=w.tape) (W:w'.output=w.output) (Y:w.heap.size<=w'.heap.size)
  (M:∀b,b<w.heap.size->(∀n,T n->¬bk (ρ n) b)->w'.heap[b]?=w.heap[b]?)
  (r:∀n o,lk n σ'.objs=some o->lk n new=none->¬T n/\∃d,lk n σ.objs=some d)
  (N:∀n o,lk n σ.objs=some o->¬T n->lk n new=none/\∃d,lk n σ'.objs=some d)
  (l:∀n,lk n new=none->ρ' n=ρ n)
  (D:∀n o b,lk n new=some o->bk (ρ' n) b->(∃m,T m/\bk (ρ m) b)\/w.heap.size<=b)
  (I:∀n m o t b,lk n new=some o->lk m new=some t->bk (ρ' n) b->bk (ρ' m) b->n=m)
  (U:∀n o,lk n σ'.objs=some o->BB (vw w' O0 σ' ρ') o (ρ' n))
  (J:∀s v,lk s σ'.env=some v->B8 (vw w' O0 σ' ρ') v ((a.put dst u).tmps.getD s undef)) :
  CB w0 K O0 nt ds σ' ρ' (a.put dst u) w':=by
 have ad:∀m,T m->∀b,bk (ρ m) b->b<w.heap.size:=λm c b i=>by
  obtain⟨_,o,g,_⟩:=hT m c;exact(h.objs m o g).block_lt i
 have A:∀m,T m->∀b,bk (ρ m) b->¬K b/\¬O0 b:=λm c b i=>by
  obtain⟨_,o,g,_⟩:=hT m c;exact h.free m b ⟨o,g⟩ i
 refine⟨⟨V.trans h.frm.os,Z.trans h.frm.tape,W.trans h.frm.output,gO h.frm.size Y,λk hk=>?_⟩,by rw[PJ];exact h.nt,by rw[KA];exact h.defers,λp X=>?_,U,?_,?_,J⟩
 .exact(M k (AAS (H k hk) h.frm.size) λn hn i=>(A n hn k i).1 hk).trans (h.frm.block k hk)
 .obtain⟨⟨o,h1⟩,f,j⟩:=h.pin p X;have P:¬T p.1:=λht=>by
   obtain⟨hf,_,_,hs⟩:=hT _ ht;rw[f]at hs;rcases j with j|j
   .rcases hs with ⟨_,_,_,z⟩|⟨_,z⟩<;>rw[z]at j<;>cases j
   rw[hf]at j;cases j
  obtain⟨F,G⟩:=N p.1 o h1 P;exact⟨G,(l _ F).trans f,j⟩
 .intro n b y i;obtain⟨o,g⟩:=y;cases hn:lk n new with
  | none =>
   obtain⟨_,d,h1⟩:=r n o g hn;rw[l n hn]at i;exact h.free n b ⟨d,h1⟩ i
  | some e =>
   rcases D n e b hn i with ⟨m,c,x⟩|L
   .exact A m c b x
   have:=h.frm.size;grind
 have key:∀n m o e b,lk n σ'.objs=some o->lk n new=none->lk m new=some e->bk (ρ' n) b->bk (ρ' m) b->False:=by
  intro n m o e b g hn c h1 f;obtain⟨Q,d,q⟩:=r n o g hn;rw[l n hn]at h1;rcases D m e b c f with ⟨E,B,x⟩|L
  .obtain⟨_,aa,S,_⟩:=hT E B;have:=h.dist n E b ⟨d,q⟩ ⟨aa,S⟩ h1 x;exact Q (this▸B)
  have ae:b<w.heap.size:=(h.objs n d q).block_lt h1;omega
 intro n m b y O h1 f;obtain⟨o,g⟩:=y;obtain⟨t,C⟩:=O;cases hn:lk n new with
 | none =>
  cases c:lk m new with
  | none =>
   obtain⟨_,d,q⟩:=r n o g hn;obtain⟨_,e,R⟩:=r m t C c;rw[l n hn]at h1;rw[l m c]at f;exact h.dist n m b ⟨d,q⟩ ⟨e,R⟩ h1 f
  | some e=>exact(key n m o e b g hn c h1 f).elim
 | some d =>
  cases c:lk m new with
  | none=>exact(key m n t d b C c hn f h1).elim
  | some e=>exact I n m d e b hn c h1 f
end
end
section
open Go Go.RowKit
structure PS (V V':Vw) (n:Nat) (hs:List Nat):Prop where
 O:∀b,b<V.w.heap.size->¬V.O b->¬V'.O b
 L:∀m,V.L m->Af m hs=false->V'.L m
 ρ:∀m,V.L m->Af m hs=false->m≠n->V'.ρ m=V.ρ m
 tup:∃vs,V.ρ n=.tuple vs
 plc:plc (V'.ρ n)=plc (V.ρ n)
 heap:∀b,b<V.w.heap.size->¬V.O b->V'.w.heap[b]?=V.w.heap[b]?
section
variable {V V':Vw} {n:Nat} {hs:List Nat}
theorem PS.pl (h:PS V V' n hs) {m:Nat} (a:V.L m) (b:Af m hs=false):Fw.plc (V'.ρ m)=Fw.plc (V.ρ m):=by
 by_cases e:m=n
 .subst e;exact h.plc
 rw[h.ρ m a b e]
theorem PS.ptr (h:PS V V' n hs) {m:Nat} (b:V.L m) (c:Af m hs=false) (d:V.ρ m=v) (f:∀a,v≠.tuple a):V'.ρ m=v:=by
 have e:m≠n:=λe=>by
  obtain⟨a,h1⟩:=h.tup;grind
 rw[h.ρ m b c e,d]
theorem ZW (h:PS V V' n hs) (c:Lf V x v):Lf V' (x.trn n hs) v:=by
 cases x;case ag l=>exact c.elim
 case tup l=>exact c.elim
 case p t d=>simp only[AV.trn];exact BX.mono h.O h.heap c
 case pc e d=>simp only[AV.trn];exact⟨BX.mono h.O h.heap c.1,c.2⟩
 case raw u=>simp only[AV.trn];exact c
 case fn f=>simp only[AV.trn];exact c
 case top=>trivial
 case ip t d =>
  simp only[AV.trn];obtain⟨ad,cs,o,q,r,B⟩:=c;have s:ad.block<V.w.heap.size:=by
   have H:=t.size_pos;have F:=B.length;have:=block_lt_of_cell (r 0 (cs[0]'(by omega)) (As O1))
   rwa [B9]at this
  refine⟨ad,cs,o,h.O _ s q,λj u C=>?_,B1.mono h.O h.heap B⟩;rw[AC8 (w:=V.w) (w':=V'.w)]
  .exact r j u C
  rw[B9];exact h.heap _ s q
 case sr m e lo hi =>
  simp only[AV.trn];split
  .trivial
  rename_i a;have a:Af m hs=false:=by simpa using a
  exact⟨h.L m c.1 a,by rw[h.pl c.1 a];exact c.2⟩
 case ep m e i E off =>
  simp only[AV.trn];split
  .trivial
  rename_i a;have a:Af m hs=false:=by simpa using a
  exact⟨h.L m c.1 a,by rw[h.pl c.1 a];exact c.2⟩
 case nin m e i len =>
  simp only[AV.trn];split
  .trivial
  rename_i a;have D:m≠n:=λe=>a (.inl e);have y:Af m hs=false:=by grind
  exact⟨h.L m c.1 y,by rw[h.ρ m c.1 y D];exact c.2⟩
 case bp m E off =>
  simp only[AV.trn];split
  .trivial
  rename_i a;have a:Af m hs=false:=by simpa using a
  obtain⟨g,b,k,o⟩:=c;exact⟨h.L m g a,b,h.ptr g a k (λ_ e=>by cases e),o⟩
 case mp m =>
  simp only[AV.trn];split
  .trivial
  rename_i a;have a:Af m hs=false:=by simpa using a
  obtain⟨g,b,k,o⟩:=c;exact⟨h.L m g a,b,h.ptr g a k (λ_ e=>by cases e),o⟩
 case yl m =>
  simp only[AV.trn];split
  .trivial
  rename_i a;have a:Af m hs=false:=by simpa using a
  obtain⟨g,b,k,o⟩:=c;exact⟨h.L m g a,b,h.ptr g a k (λ_ e=>by cases e),o⟩
 case clo f ns =>
  simp only[AV.trn];split
  .trivial
  rename_i G;have z:∀m∈ns,Af m hs=false:=λm a=>by grind
  have A:∀m∈ns,V'.ρ m=V.ρ m:=λm a=>by
   obtain⟨g,b,k⟩:=c.2 m a;rw[h.ptr g (z m a) k (λ_ e=>by cases e),k]
  refine⟨?_,λm a=>⟨h.L m (c.2 m a).1 (z m a),by rw[A m a];exact(c.2 m a).2⟩⟩;rw[c.1]
  congr 1
  exact AAe λm a=>(A m a).symm
theorem xU (h:PS V V' n hs) {cs:List Value} (h0:XB x=false) (b:F4 V x cs):F4 V' (x.trn n hs) cs:=by
 cases x;case p t d=>simp only[AV.trn];exact(B1.mono h.O h.heap b:B1 V'.w V'.O t cs d)
 case ag l=>cases h0
 case tup l=>obtain⟨v,_,_,hf⟩:=b;exact hf.elim
 all_goals
  obtain⟨v,rfl,h1,e⟩:=b;have a:=ZW h e;simp only[AV.trn]at a ⊢;first
   | exact⟨v,rfl,h1,a⟩
   | (split at a<;>rename_i c<;>first|(rw[At c];exact⟨v,rfl,h1,a⟩)|(rw[An c];exact⟨v,rfl,h1,a⟩))
theorem xV (h:PS V V' n hs):(∀(x:AV) (cs:List Value),F4 V x cs->F4 V' (x.trn n hs) cs)/\∀(l:List AV) (cs:List Value),AVCs V l cs->AVCs V' (AV.trns n hs l) cs :=
 PI (λ_=>by simp only[AV.trn]) (by simp only[AV.trns]) (λ_ _=>by simp only[AV.trns]) (xU h)
theorem Ue (h:PS V V' n hs) {l:List AV} {cs:List Value} (a:AVCs V l cs):AVCs V' (AV.trns n hs l) cs:=(xV h).2 l cs a
theorem A3t (h:PS V V' n hs) (a:SD V x v):SD V' (x.trn n hs) v:=by
 cases x;case ag l=>obtain⟨cs,h1,b⟩:=a;simp only[AV.trn];exact⟨cs,h1,Ue h b⟩
 all_goals exact SD.of1 (ZW h a)
theorem cR (h:PS V V' n hs):∀ {l:List AV} {a:List Value},Hm V l a->Hm V' (AV.trns n hs l) a
 | [],a,b=>(b:a=[])
 | x :: r,a,b=>by
  obtain⟨v,d,rfl,h1,c⟩:=b;simp only[AV.trns];exact⟨v,d,rfl,A3t h h1,cR h c⟩
theorem ZX (h:PS V V' n hs) (b:B8 V x v):B8 V' (x.trn n hs) v:=by
 cases x;case ag l=>obtain⟨cs,h1,a⟩:=b;simp only[AV.trn];exact⟨cs,h1,Ue h a⟩
 case tup l=>obtain⟨c,h1,a⟩:=b;simp only[AV.trn];exact⟨c,h1,cR h a⟩
 all_goals exact A3q (ZW h b)
theorem FY (n:Nat) (hs:List Nat) (s:Nat):∀l:List (Nat×AV),lk s (ET n hs l)=(lk s l).map (AV.trn n hs)
 | []=>rfl
 | (j,v) :: l=>by
  simp only[ET,lk];split
  .rfl
  exact FY n hs s l
theorem SM (n:Nat) (hs:List Nat):∀l:List AV,(AV.trns n hs l).length=l.length
 | []=>rfl
 | _ :: r=>by simp[AV.trns,SM n hs r]
theorem DT (n:Nat) (hs:List Nat) (m:Nat):∀l:List (Nat×Obj),lk m (C5 n hs l)=if Af m (n :: hs)=true then none else (lk m l).map (Obj.trn n hs)
 | []=>by simp[C5,lk]
 | (j,o) :: l=>by
  simp only[C5];by_cases a:Af j (n :: hs)=true
  .rw[At a,DT n hs m l];grind [lk]
  rw[An a];simp only[lk];by_cases b:m=j
  .subst b;simp[a]
  simp[b,DT n hs m l]
theorem oH (h:PS V V' n hs) {o:Obj} {loc:Value} (c:∀b,bk loc b->V'.w.heap[b]?=V.w.heap[b]?) (a:BB V o loc):BB V' (o.trn n hs) loc:=by
 have hk:Cv ⟨V.w,V.O,λ_=>False,V.ρ⟩ V':=⟨h.O,λ_ h=>h.elim,λ_ h=>h.elim,h.heap⟩;cases o with
 | arr et e xs=>exact BB.keeps (V:=⟨V.w,V.O,λ_=>False,V.ρ⟩) (o:=.arr et e xs) hk c a
 | box et st fs =>
  obtain⟨h0,b,cs,rfl,h1,f⟩:=a;exact⟨λi=>by rw[SM];exact h0 i,b,cs,rfl,(c b (.inl rfl)).trans h1,Ue h f⟩
 | mapo k v l=>exact BB.keeps (V:=⟨V.w,V.O,λ_=>False,V.ρ⟩) (o:=.mapo k v l) hk c a
 | nest et p k e xs g=>exact BB.keeps (V:=⟨V.w,V.O,λ_=>False,V.ρ⟩) (o:=.nest et p k e xs g) hk c (Mp (V:=V) (V':=⟨V.w,V.O,λ_=>False,V.ρ⟩) rfl rfl a)
 | frame x fs =>
  obtain⟨h0,h1⟩:=a;refine⟨h0,λs z d=>?_⟩;rw[FY]at d;simp only[OF]at d;obtain⟨y,j,rfl⟩:=d;exact ZX h (h1 s y j)
 | loop L=>exact BB.keeps (V:=⟨V.w,V.O,λ_=>False,V.ρ⟩) (o:=.loop L) hk c a
 | itr q u r t m=>exact BB.keeps (V:=⟨V.w,V.O,λ_=>False,V.ρ⟩) (o:=.itr q u r t m) hk c a
 | dfr=>exact BB.keeps (V:=⟨V.w,V.O,λ_=>False,V.ρ⟩) (o:=.dfr) hk c a
 | sit sb sp=>exact BB.keeps (V:=⟨V.w,V.O,λ_=>False,V.ρ⟩) (o:=.sit sb sp) hk c a
end
end
section
open Go Go.RowKit
theorem jM {t:Ty} (h:t.cell1=true):t.size=1:=by cases t<;>simp[Ty.cell1]at h<;>rfl
theorem Xd {V:Vw} {ty:Ty} {es:List Value} (a:F4 V x es) (hf:PB ty x=true):es.length=ty.size:=by
 by_cases ht:x=.top
 .subst ht;obtain⟨v,rfl,_⟩:=a;grind [PB,jM]
 have hf:CX ty x=true:=by cases x<;>first|exact hf|exact absurd rfl ht
 exact(jI a hf).1
theorem Xe {V:Vw} {ty:Ty} {u v:AV} {j:List Value} (hu:PB ty u=true) (M:CX ty v=true)
  (H:∀l,v=.ag l->AVCs V l j) (n:(∀l,v≠.ag l)->F4 V v j) (K:j.length=ty.size):∀ {E:List Nat} {st:Bool} {fs m:List AV} {off:Nat} {cs:List Value},AVCs V fs cs->(st=false->fs.length=1) ->
  GC st fs v E=some m->JL fs E=some off->E2 st fs E=some u->off+j.length<=cs.length/\AVCs V m (A5 cs off j)/\(st=false->m.length=1)
 | [],st,fs,m,off,cs,c,C,h,f,b=>by
  simp only[JL]at f;cases f;cases st with
  | true =>
   simp only[GC,E2,AB1]at h b;cases b;have R:cs.length=ty.size:=by
    have:=c.length;cases ty<;>simp only[PB,CX]at hu<;>try(cases hu;done)
    grind [Ty.size]
   rw[Ds O1];split at h
   .cases h;exact⟨O1,xJ _ _ _ _ (n sc),sc⟩
   .cases h;exact⟨O1,H _ rfl,sc⟩
   cases h
  | false =>
   simp only[GC,E2,ABc,ABi]at h b;split at h
   .rename_i i;have i:∀l,v≠.ag l:=λl e=>by subst e;simp[R8]at i
    cases h;obtain⟨x,rfl⟩:=AB5.1 (C rfl);simp at b;subst b;obtain⟨c1,c2,rfl,h1,a⟩:=c;have a:c2=[]:=a;subst a;have I:=Xd h1 hu;rw[AAu,Ds O1];exact⟨O1,⟨j,[],sc,n i,rfl⟩,sc⟩
   cases h
 | [k],st,fs,m,off,cs,c,C,h,f,b=>by
  simp only[GC]at h;split at h
  .rename_i F;simp only[AT]at F;obtain⟨rfl,i⟩:=F;have i:∀l,v≠.ag l:=λl e=>by subst e;simp[R8]at i
   cases h;simp only[E2,AB1]at b;obtain⟨h1,a⟩:=c.get b;have I:=Xd a hu;have Q:=a.length;have L:off=CW fs k:=by grind [JL,NL]
   subst L;have z:=n i;have g:=z.length;exact⟨O1,c.set b z O1,sc⟩
  cases h
 | k :: S :: r,st,fs,m,off,cs,c,C,h,f,b=>by
  cases st with
  | false=>simp[GC]at h
  | true =>
   simp only[GC,AB1]at h;split at h
   .rename_i t d P x hk;simp only[OF]at h;obtain⟨y,D,rfl⟩:=h;simp only[JL,hk,OF]at f;obtain⟨N,B,rfl⟩:=f;obtain⟨h1,a⟩:=c.get hk;have A:B1 V.w V.O t _ d:=a;have z:B1 V.w V.O P j x:=n sc;obtain⟨g,q⟩:=UT D B A z;have s:=a.length;simp only[AV.cells]at h1 s q g;have o:=c.set (y:=.p t y) hk (g:B1 V.w V.O t _ y) rfl;rw[I2 _ _ _ _ _ O1 h1]at o;exact⟨O1,o,sc⟩
   .rename_i l hk;simp only[OF]at h;obtain⟨l',D,rfl⟩:=h;simp only[JL,hk,OF]at f;obtain⟨N,B,rfl⟩:=f;simp only[E2,AB1,hk]at b;obtain⟨h1,a⟩:=c.get hk;have A:AVCs V l _:=a;have s:=a.length;obtain⟨g,q,_⟩:=Xe hu M H n K A sc D (by simpa only[JL] using B) b;have J:(AV.ag l').cells=(AV.ag l).cells:=by
     have G:=F4.length (V:=V) (x:=.ag l') q;rw[EA g]at G;rw[<-G,s]
    have o:=c.set (y:=.ag l') hk (show F4 V (.ag l') _ from q) J;rw[s]at g;rw[I2 _ _ _ _ _ g h1]at o;exact⟨O1,o,sc⟩
   cases h
section
variable {P:Program} {tb:Tb} {w0:World} {K O0:Nat->Prop} {nt:Nat} {ds:Fp} {σ σ':St} {ρ:Nat->Value} {a:Act} {w:World} {vc:Prop}
theorem SN {n:Nat} {o:Obj} (hn:lk n σ.objs=some o) {g:Nat} (c:blk (ρ n)=some g) {w':World} (d:w.grownBy w' (some g)):Cv (vw w O0 σ ρ) (vw w' O0 σ ρ) :=
 ⟨λ_ _ h=>h,λ_ h=>h,λ_ _=>rfl,λb f a=>d.block b f (λe=>by injection e with e;subst e;exact a (.inr ⟨n,⟨o,hn⟩,.inl c⟩))⟩
theorem Fu (w:World) (g:Nat) (cs:Array Value):w.grownBy (w.setRow g cs) (some g) :=
 ⟨rfl,rfl,rfl,sc,λk _ hk=>setRow_other w g k cs (λe=>hk (by rw[e]))⟩
theorem Lk (hT:D2 P tb t X) {g off:Nat} {cs:List Value} {et:TypeId} {xv:Value} (hh:w.heap[g]?=some (.cells cs.toArray et (0,0))) (hs:xv.cells.size=X.ty.size)
  (b:off+xv.cells.toList.length<=cs.length) (h1:∀u∈xv.cells.toList,u.oneCell'=true) :
  (Instr.storeAt t (.pointer (some ⟨g,off,none⟩)) xv).run P w=.ok () (w.setRow g (A5 cs off xv.cells.toList).toArray):=by
 have a:=run_storeCells_at P g off et xv.cells.toList 0 cs.toArray w hh (by simpa using b) h1;simp only[Nat.add_zero]at a;have c:¬xv.cells.size≠X.ty.size:=by omega
 simp only[Instr.storeAt,Instr.sureAddr,storeVar,AAU,ABo,AAk,Ho w hT,An c,a];rfl
theorem oI {w':World} {next:Act->World->Prop} {Q:Exit->Act->World->Prop} {r:Option Nat} (h:(execOp a.eval o).run P w=.ok .skip w') (hn:next (a.put o.dst undef) w') (b:∀c,o.op≠.defer c:=by intro c e;cases e):o.wpIn (FR r) 0 P a w next Q:=by
 refine⟨λ_ _=>trivial,?_⟩;rw[EY _ _ _ b,h];exact hn
theorem s8 (hs:CB w0 K O0 nt ds σ ρ a w) (aj:∀b,K b->b<w0.heap.size) (hT:DB P tb) {x:Operand} (bs:∀n e i s off,Ai σ x=some (.ep n e i s off)->C9 (lk n σ.objs)=false) (h:I0 σ (lk t tb.ty) (Ai σ x) (Ai σ y)=some (vc,σ')) (cx:vc) :
  ∃w',(Instr.storeAt t (a.eval x) (a.eval y)).run P w=.ok () w'/\CB w0 K O0 nt ds σ' ρ a w':=by
 have G:EX (vw w O0 σ ρ) σ a.eval:=Ci hs.env;unfold I0 at h;split at h
 .rename_i ti n s off v ht Q af;have ae:=G x _ Q;have D:=G y _ af;cases hn:lk n σ.objs with
  | none=>rw[hn]at h;simp[DZ]at h
  | some o =>
   rw[hn]at h;cases o with
   | arr et e xs=>simp[DZ]at h
   | mapo k v l=>simp[DZ]at h
   | frame cl fs=>simp[DZ]at h
   | loop L=>simp[DZ]at h
   | itr cg cj ch ci ce=>simp[DZ]at h
   | dfr=>simp[DZ]at h
   | sit sb sp=>simp[DZ]at h
   | nest et cf k e xs bo=>simp[DZ]at h
   | box et st fs =>
    simp only[DZ]at h;cases I:E2 st fs s with
    | none=>rw[I]at h;simp[Fm]at h
    | some u =>
     cases Z:GC st fs v s with
     | none=>rw[I,Z]at h;simp[Fm]at h
     | some cp =>
      rw[I,Z]at h;simp only[Fm]at h;split at h
      .rename_i aw;obtain⟨hu,ab,bt,_⟩:=aw;cases h;obtain⟨bz,b,cs,W,C,bg⟩:=hs.objs n _ hn;obtain⟨be,cn,f,ad⟩:=ae;have f:ρ n=_:=f;rw[W]at f;injection f with f
       injection f with f
       injection f with f
       subst f;have H:=xC D ab (NZ D ab);have ak:∀l,v=.ag l->AVCs (vw w O0 σ ρ) l (a.eval y).cells.toList:=by
        intro l e;subst e;obtain⟨co,A,bh⟩:=D;rw[A];simpa[Value.cells] using bh
       obtain⟨h1,R,bb⟩:=Xe hu ab ak (λJ=>H.2 J) (by simpa using H.1) bg bz Z bt I;have bv:∀z∈(a.eval y).cells.toList,z.oneCell'=true:=by
        by_cases J:∃l,v=.ag l
        .obtain⟨l,e⟩:=J;exact(ak l e).one
        exact(H.2 (λl e=>J ⟨l,e⟩)).one
       have Y:=Lk (hT _ _ ht) C H.1 h1 bv;rw[ad];refine⟨_,Y,?_⟩;have id:blk (ρ n)=some b:=by rw[W];rfl
       refine hs.upd aj hn id (Fu w b _) ⟨bb,b,_,W,setRow_heap w b _ _ et _ C,?_⟩;exact R.keeps (SN hn id (Fu w b _))
      cases h
 .rename_i ti n e i s off v ht Q af;have ae:=G x _ Q;have D:=G y _ af;cases hn:lk n σ.objs with
  | none=>rw[hn]at h;simp[Da]at h
  | some o =>
   rw[hn]at h;cases o with
   | box et st fs=>simp[Da]at h
   | mapo k v l=>simp[Da]at h
   | frame cl fs=>simp[Da]at h
   | loop L=>simp[Da]at h
   | itr cg cj ch ci ce=>simp[Da]at h
   | dfr=>simp[Da]at h
   | sit sb sp=>simp[Da]at h
   | nest et cf k e xs bo=>have:=bs _ _ _ _ _ Q;rw[hn]at this;cases this
   | arr et d xs =>
    simp only[Da]at h;cases T:BZ (.slice e) ⟨.slice d,xs⟩ with
    | none=>rw[T]at h;simp[E5]at h
    | some ys =>
     obtain⟨rfl,R⟩:=Bw T;cases R;rw[T]at h;cases S:Ix false σ ti.ty v with
     | none=>rw[S]at h;simp[E5]at h
     | some cm =>
      rw[S]at h;simp only[E5]at h;cases aa:W7 s d (xs.getD i d.dflt) ⟨ti.ty,cm⟩ with
      | none=>rw[aa]at h;simp[Ge]at h
      | some z =>
       rw[aa]at h;simp only[Ge]at h;split at h
       .rename_i bu;cases h;obtain⟨bq,cells,M,F⟩:=hs.objs n _ hn;obtain⟨be,g,m,c,f,X,ad⟩:=ae;have f:plc (ρ n)=_:=f;have M:w.ownsRow 0 et d.size (ρ n) xs.length cells:=M;rw[HI M]at f;have F:Dp w (own O0 σ ρ) d cells xs:=F;have cc:=FX (V:=vw w O0 σ ρ) (O':=own O0 σ ρ) (λ_ h=>h) (λh=>by cases h) hs.objs S D;obtain⟨av,au⟩:=XX cc;obtain⟨ar,bw⟩:=M;rcases bw with ⟨A,_⟩|⟨cq,cap,r,A,ct,C,am,bf,U,ca⟩
        .grind
        rw[f]at A;injection A with B bi bj
        injection B with B
        injection B with B
        subst B;subst bi;have cd:xs[i]?=some (xs.getD i d.dflt):=by
         rw[As X,AS,As X];rfl
        obtain⟨es,bl,ao,bk⟩:=F i _ cd;obtain⟨bc,bd⟩:=UT aa bu bk au;have cr:cells.length=xs.length*d.size:=ar;have bn:(i+1)*d.size<=xs.length*d.size:=AA6 _ X;have cu:xs.length*d.size<=cap*d.size:=AA6 _ am;rw[ABg]at bn;have al:i*d.size+off+(a.eval y).cells.toList.length<=r.toList.length:=by
         have bp:r.toList.length=cap*d.size:=by rw[<-U];simp
         have cw:(a.eval y).cells.toList.length=ti.ty.size:=by rw[<-av];simp
         omega
        have bm:w.heap[g]?=some (.cells r.toList.toArray et (0,0)):=by simpa using C
        have Y:=Lk (hT _ _ ht) bm av al au.one;rw[ad];refine⟨_,Y,?_⟩;have id:blk (ρ n)=some g:=by rw[f];rfl
        have bx:(A5 r.toList (i*d.size+off) (a.eval y).cells.toList).length=r.size:=by rw[EA al];simp
        have cb:(A5 r.toList (i*d.size+off) (a.eval y).cells.toList).take (xs.length*d.size)=A5 cells (i*d.size+off) (a.eval y).cells.toList:=by
         rw[<-ca];apply ACq;intro j;simp only[A5,AA8,AAg,AAW,ON,AAX,ACT];have ah:min (i*d.size+off) r.toList.length=i*d.size+off:=by omega
         have E:min (i*d.size+off) (xs.length*d.size)=i*d.size+off:=by omega
         have ck:min (xs.length*d.size) r.toList.length=xs.length*d.size:=by
          have bp:r.toList.length=cap*d.size:=by rw[<-U];simp
          omega
         simp only[ah,E,ck];by_cases c1:j<i*d.size+off
         .simp[c1,show j<xs.length*d.size by omega]
         by_cases c2:j-(i*d.size+off)<(a.eval y).cells.toList.length
         .simp only[c1,c2,ABi,AB1,show j<xs.length*d.size by omega]
         simp only[c1,c2,ABi];by_cases ai:j<xs.length*d.size
         .rw[At ai,At O1]
         rw[An ai,An O1]
        refine hs.upd aj hn id (Fu w g _) ⟨by simpa using bq,A5 cells (i*d.size+off) (a.eval y).cells.toList,⟨?_,.inr ⟨g,cap,_,by rw[f,bj];simp,Do _,setRow_heap w g _ _ et _ C,by simpa using am,bf,by simp[bx,U],?_⟩⟩,?_⟩
        .rw[EA O1];simpa using ar
        .simpa using cb
        have hk:=SN (O0:=O0) hn id (Fu w g (A5 r.toList (i*d.size+off) (a.eval y).cells.toList).toArray);have br:Dp (vw w O0 σ ρ).w (vw w O0 σ ρ).O d (A5 cells (i*d.size+off) (a.eval y).cells.toList) (xs.set i z):=by
         intro k q N;rw[AB4]at N;split at N
         .rename_i ap;subst ap;cases N;refine⟨A5 es off (a.eval y).cells.toList,by rw[EA bd];exact bl,λj u p=>?_,bc⟩;simp only[A5,AA8,AAW,ON,AAg,AAX]at p ⊢;have ah:min off es.length=off:=by omega
          have E:min (i*d.size+off) cells.length=i*d.size+off:=by omega
          simp only[ah]at p;simp only[E];by_cases c1:j<off
          .simp only[c1,AB1]at p;simp only[show i*d.size+j<i*d.size+off by omega,AB1];exact ao _ _ p
          simp only[c1,ABi]at p;simp only[show ¬i*d.size+j<i*d.size+off by omega,ABi];rw[show i*d.size+j-(i*d.size+off)=j-off by omega];by_cases c2:j-off<(a.eval y).cells.toList.length
          .simp only[c2,AB1]at p ⊢;exact p
          simp only[c2,ABi]at p ⊢;have:=ao _ _ p;rw[<-this]
          congr 1
          omega
         rename_i ap;obtain⟨ax,ay,az,ba⟩:=F k q N;refine⟨ax,ay,λj u p=>?_,ba⟩;have cv:=(TO.1 p).1;have an:=az j u p;simp only[A5,AA8,AAW,ON,AAg,AAX];have E:min (i*d.size+off) cells.length=i*d.size+off:=by omega
         simp only[E];rcases Nat.lt_or_ge k i with aq|aq
         .have:(k+1)*d.size<=i*d.size:=AA6 _ aq;rw[ABg]at this;simp only[show k*d.size+j<i*d.size+off by omega,AB1];exact an
         have:(i+1)*d.size<=k*d.size:=AA6 _ O1;rw[ABg]at this;simp only[show ¬k*d.size+j<i*d.size+off by omega,ABi,show ¬k*d.size+j-(i*d.size+off)<(a.eval y).cells.toList.length by omega];rw[<-an]
         congr 1
         omega
        exact br.keeps hk
       cases h
 cases h
theorem s9 (hs:CB w0 K O0 nt ds σ ρ a w) (B:∀b,K b->b<w0.heap.size) (s:DB P tb) {m x y:Operand} (h:La tb σ (lk t tb.ty) (Ai σ m) (Ai σ x) (Ai σ y)=some (vc,σ')) :
  ∃w',(Instr.mapUpdate t (a.eval m) (a.eval x) (a.eval y)).run P w=.ok () w'/\CB w0 K O0 nt ds σ' ρ a w':=by
 have g:EX (vw w O0 σ ρ) σ a.eval:=Ci hs.env;unfold La at h;split at h
 .rename_i k e _ _ n xv U ht J N Q;have O:=g x _ N;have R:=g y _ Q;obtain⟨X,b,d,L⟩:=g m _ J;have d:ρ n=_:=d;cases hn:lk n σ.objs with
  | none=>rw[hn]at h;simp[GV]at h
  | some o =>
   rw[hn]at h;cases o with
   | mapo Y T l =>
    cases j:lk k tb.ty with
    | none=>simp[GV,j]at h
    | some S =>
     simp only[GV,j,ABS,ABa]at h;split at h
     .rename_i E;obtain⟨rfl,F⟩:=E;cases f:Ix false σ S.ty xv with
      | none=>rw[f]at h;simp[HH]at h
      | some kd =>
       cases p:Ix false σ T U with
       | none=>rw[f,p]at h;simp[HH]at h
       | some aa =>
        rw[f,p]at h;simp only[HH]at h;split at h
        .rename_i H;cases h;have h1:=FX (V:=vw w O0 σ ρ) (O':=own O0 σ ρ) (λ_ h=>h) (λh=>by cases h) hs.objs f O;have A:=FX (V:=vw w O0 σ ρ) (O':=own O0 σ ρ) (λ_ h=>h) (λh=>by cases h) hs.objs p R;obtain⟨W,r,q,c,M,⟨Z,z⟩,G,D⟩:=A6K (w:=w) (V:=vw w O0 σ ρ) s (s _ _ ht) (n:=n) rfl rfl j rfl (hs.objs n _ hn) F H h1 A;have c:ρ n=_:=c;rw[d]at c;injection c with c
         injection c with c
         subst c;rw[L];refine⟨_,M,?_⟩;have u:blk (ρ n)=some b:=by rw[d];rfl
         have v:w.grownBy { w with heap:=w.heap.setIfInBounds b (.map r q) } (some b) :=
          ⟨rfl,rfl,rfl,sc,λi _ hi=>(MapKept.heap_set z).2 i (λe=>hi (by rw[e]))⟩
         refine hs.upd B hn u v ⟨b,r,q,d,(MapKept.heap_set z).1,?_⟩;refine⟨?_,D⟩;exact G.mono (λ_ _ h=>h) (λb2 I C=>v.block b2 I (λe=>by injection e with e;subst e;exact C (.inr ⟨n,⟨_,hn⟩,.inl u⟩)))
        cases h
     cases h
   | _=>simp[GV]at h
 cases h
end
end
section
open Go Go.RowKit
section
variable {P:Program} {tb:Tb} {w0:World} {K O0:Nat->Prop} {nt:Nat} {ds:Fp} {σ σ':St} {ρ:Nat->Value} {a:Act} {w:World} {vc:Prop} {id:TypeId}
theorem TQ {w:World} {base:Nat} {et:TypeId} {sz n:Nat} {s:Value} {xs:List Value} (h:w.ownsRow base et sz s n xs):s.ownBlock=blk s:=by
 rcases h.2 with ⟨rfl,_⟩|⟨g,cap,a,rfl,_⟩<;>rfl
theorem HJ (v:DB P tb) {el:TypeId} (hu:P.underlying id=some (.slice el)) {te:TI} (A:lk el tb.ty=some te) (J:te.ty=e) {base ty:Nat} {s xv:Value} {n:Nat} {xs C:List Value}
  (q:w.ownsRow base el e.size s n xs) {O:Nat->Prop} {ys:List e.den} (T:Src w O e xv ys C) (U:(n+ys.length)*te.bytes<=AP) {f:Value} {w':World}
  (h:(Builtin.append_ #[id,id] ty #[s,xv]).run P w=.ok f w'):blk f=blk s\/∀b,blk f=some b->w.heap.size<=b:=by
 subst J;obtain⟨⟨⟨_,H,_⟩,i,z,hi,o,x,B,ai⟩,_⟩:=v _ _ A;have R:n+ys.length<=AP:=by
  have:(n+ys.length)*1<=(n+ys.length)*te.bytes:=ABD _ H;omega
 have ae:AP=140737488355328:=rfl;obtain⟨⟨a,c,rfl,F⟩,M,Z,ag,ab⟩:=T;have hs:(sizeOf el).run P w=.ok te.ty.size w:=Ho w (v _ _ A);have aj:∀ {l D:Nat} {W:World},Result.ok (Value.slice (some ⟨w.heap.size,0,none⟩) l D) W=Result.ok f w'->blk f=blk s\/∀b,blk f=some b->w.heap.size<=b:=by grind [blk]
 have V:∀(ad:Addr) (m:Nat) (d:List Value),d.length=m*te.ty.size->(∀(j:Nat) (u:Value),d[j]?=some u->w.cell? (ad.add j)=some u)->(∀u∈d,u.oneCell'=true)->n+m<=AP->(n+m)*te.bytes<=AP ->
   (Builtin.append_ #[id,id] ty #[s,.slice (some ad) m c]).run P w=.ok f w'->blk f=blk s\/∀b,blk f=some b->w.heap.size<=b:=by
  intro ad m d k p h1 aa G h;rcases q.2 with ⟨rfl,rfl⟩|⟨g,cap,t,rfl,X,L,af,Y,I,ah⟩
  .by_cases N:m=0
   .subst N;have:d=[]:=AA4 (by simpa using k);simp[Builtin.append_,iF hu,hs,Builtin.lenOf,Builtin.firstCells,loadCells,loadCellsFrom]at h;grind
   have:=run_append_nil (P:=P) w id ty el i z hu hi B ad m c d (by rw[o];exact k) p O1 O1 (by rw[x];simp at G;omega);grind
  by_cases y:n+m<=cap
  .have K:n*i.size+d.length<=t.size:=by
    rw[k,o,I,<-ACp];exact AA6 _ y
   have:=run_append_room (P:=P) w id ty el i hu hi g n cap t L ad m c d (by rw[o];exact k) p h1 y K;rw[this]at h;injection h with r E
   subst r;exact .inl rfl
  have S:∀j u,xs[j]?=some u->w.cell? ((⟨g,0,none⟩:Addr).add j)=some u:=q.cells (g:=g) rfl;have:=run_append_grow (P:=P) w id ty el i z hu hi B ⟨g,0,none⟩ n cap xs (by rw[o];exact q.1) S ad m c d (by rw[o];exact k) p O1 O1 (by rw[x];exact growslice_fits O1 O1);grind
 rcases F with rfl|⟨ad,rfl,p⟩
 .have Q:C=[]:=AA4 (by simpa using M);subst Q;cases a with
  | none =>
   have:=SG (P:=P) (ty:=ty) hu hs q c;rw[show ([]:List te.ty.den).length=0 from rfl,this]at h;injection h with r E
   subst r;exact .inl rfl
  | some ad=>exact V ad 0 [] sc sc sc (by simpa using R) (by simpa using U) h
 grind
theorem jN {w:World} {O:Nat->Prop} {c:List Value} {xs:List e.den} (h:Dp w O e c xs) (n:Nat):Dp w O e (c.take (n*e.size)) (xs.take n):=by
 intro i x hi;rw[AAg]at hi;split at hi
 .rename_i f;obtain⟨es,a,g,b⟩:=h i x hi;refine⟨es,a,λj u d=>?_,b⟩;have k:=(TO.1 d).1;have:(i+1)*e.size<=n*e.size:=AA6 _ f;grind
 cases hi
theorem jO (hs:CB w0 K O0 nt ds σ ρ a w) (af:∀b,K b->b<w0.heap.size) (ag:∀b,O0 b->b<w0.heap.size) (hT:DB P tb) {d:Option Nat} (ai:∀k,d=some k->k<nt) {t u ty:TypeId} {x:Operand}
  (h:Db tb σ d t u (Ai σ x) (Ai σ y)=some (vc,σ')) (ar:vc) (ah:∃n e hi,Ai σ x=some (.sr n e 0 hi)/\C9 (lk n σ.objs)=false) :
  ∃z w' ρ',(Builtin.append_ #[t,u] ty #[a.eval x,a.eval y]).run P w=.ok z w'/\CB w0 K O0 nt ds σ' ρ' (a.put d z) w':=by
 have O:EX (vw w O0 σ ρ) σ a.eval:=Ci hs.env;obtain⟨n0,ad,am,Y,S⟩:=ah;unfold Db at h;split at h
 .rename_i n e hi v X au;obtain⟨rfl,rfl,rfl⟩:n=n0/\e=ad/\hi=am:=by rw[X]at Y;cases Y;exact⟨rfl,rfl,rfl⟩
  split at h
  .rename_i d;split at h
   .rename_i I;obtain⟨I,al⟩:=I;subst I;cases H:lk t tb.ty with
    | none=>rw[H]at h;simp[E6]at h
    | some ti =>
     rw[H]at h;unfold E6 at h;split at h
     .rename_i p offs el b i;cases i;split at h
      .rename_i aj;subst aj;obtain⟨hu,bi,te,G,U⟩:=Cf (hT _ _ H) hT;rw[G]at h;cases hn:lk n σ.objs with
       | none=>rw[hn]at h;cases f:PA σ p v<;>rw[f]at h<;>simp[Cl]at h
       | some o =>
        rw[hn]at h;cases o with
        | box et st fs=>cases f:PA σ p v<;>rw[f]at h<;>simp[Cl]at h
        | mapo av v1 l=>cases f:PA σ p v<;>rw[f]at h<;>simp[Cl]at h
        | frame br fs=>cases f:PA σ p v<;>rw[f]at h<;>simp[Cl]at h
        | loop L=>cases f:PA σ p v<;>rw[f]at h<;>simp[Cl]at h
        | itr bl bo bm bn bj=>cases f:PA σ p v<;>rw[f]at h<;>simp[Cl]at h
        | nest et bk av s xs be=>rw[hn]at S;cases S
        | dfr=>cases f:PA σ p v<;>rw[f]at h<;>simp[Cl]at h
        | sit sb sp=>cases f:PA σ p v<;>rw[f]at h<;>simp[Cl]at h
        | arr et j xs =>
         simp only[Cl]at h;split at h
         .rename_i ak;subst ak;cases B:BZ (.slice p) ⟨.slice j,xs⟩ with
          | none=>rw[B]at h;simp[Fq]at h
          | some bs =>
           obtain⟨rfl,ae⟩:=Bw B;cases ae;rw[B]at h;cases f:PA σ j v with
           | none=>rw[f]at h;simp[Fq]at h
           | some ys =>
            rw[f]at h;simp only[Fq]at h;cases h;obtain⟨bp,F⟩:=TN hs.objs f (O y _ au);obtain⟨bh,cells,r,C⟩:=hs.objs n _ hn;have r:w.ownsRow 0 et j.size (ρ n) xs.length cells:=r;have C:Dp w (own O0 σ ρ) j cells xs:=C;obtain⟨bb,aa,m,c,q,bg,bd,Z,ab,J,bc,h0,h1⟩:=O x _ X;have q:plc (ρ n)=.slice aa m c:=q;rw[HI r]at q;obtain⟨rfl,rfl⟩:=h0 rfl;simp only[Nat.sub_zero]at J;have bf:=r.1;have R:hi<=xs.length:=by
             rcases r.2 with ⟨i,ap⟩|⟨g,cap,M,i,_⟩
             .rw[q]at i;injection i;omega
             rw[q]at i;injection i;omega
            have ao:hi*j.size<=xs.length*j.size:=AA6 _ R;have E:w.ownsRow 0 et j.size (a.eval x) hi (cells.take (hi*j.size)):=by
             rw[J];refine⟨by rw[ON];omega,?_⟩;rcases r.2 with ⟨i,ap⟩|⟨g,cap,M,i,aw,ax,bq,ay,az,ba⟩
             .rw[q]at i;injection i with s j A
              subst s;subst A;have:hi=0:=by omega
              subst this;exact .inl ⟨rfl,rfl⟩
             rw[q]at i;injection i with s j A
             subst s;subst A;refine .inr ⟨g,ab,M,rfl,aw,ax,O1,ay,az,?_⟩;rw[<-ba,ACT,ABE ao]
            have V:(hi+ys.length)*te.bytes<=AP:=ar;obtain⟨z,w',T,aq,Q,an⟩:=GG (ty:=ty) hT hu G U E F V (Do _);have W:=HJ (ty:=ty) hT hu G U E F V T;have N:blk (a.eval x)=blk (ρ n):=by
             rw[J,q];cases Z<;>rfl
            rw[N]at W;rw[TQ E,N]at Q;refine⟨z,w',Eh ρ n z,T,?_⟩;have D:(xs.take hi++ys).length=hi+ys.length:=by simp;omega
            exact hs.app af ag al hn Q W (by rw[D];exact an) (by rw[D];exact aq) (KE (jN C hi) F.elems (by rw[ON,ON];rw[ABE R];omega)) (ai d rfl) D.symm
         cases h
      cases h
     cases h
   cases h
  cases h
 .grind
 .grind
 cases h
theorem Ms (n:Nat) (e:Ty) (xs:List e.den) (s:Nat):∀l:List (Nat×AV),lk s (De n e xs l)=(lk s l).map (AV.frz n e xs)
 | []=>rfl
 | (j,v) :: l=>by
  simp only[De,lk];split
  .rfl
  exact Ms n e xs s l
def Obj.frz (n:Nat) (e:Ty) (xs:List e.den):Obj->Obj
 | .arr et a ys=>.arr et a ys
 | .box et st fs=>.box et st (AV.frzs n e xs fs)
 | .mapo k v l=>.mapo k v l
 | .nest et c k e ys h=>.nest et c k e ys h
 | .frame j fs=>.frame j (De n e xs fs)
 | .loop L=>.loop L
 | .itr d i f g b=>.itr d i f g b
 | .dfr=>.dfr
 | .sit sb sp=>.sit sb sp
theorem CO (n:Nat) (e:Ty) (xs:List e.den) (s:Nat):∀l:List (Nat×Obj),lk s (BD n e xs l)=(lk s l).map (Obj.frz n e xs)
 | []=>rfl
 | (j,.arr et a ys) :: l=>by
  simp only[BD,lk];split
  .rfl
  exact CO n e xs s l
 | (j,.box et st fs) :: l=>by
  simp only[BD,lk];split
  .rfl
  exact CO n e xs s l
 | (j,.mapo k v x) :: l=>by
  simp only[BD,lk];split
  .rfl
  exact CO n e xs s l
 | (j,.nest _ _ _ _ _ _) :: l=>by
  simp only[BD,lk];split
  .rfl
  exact CO n e xs s l
 | (j,.frame h fs) :: l=>by
  simp only[BD,lk];split
  .rfl
  exact CO n e xs s l
 | (j,.loop L) :: l=>by
  simp only[BD,lk];split
  .rfl
  exact CO n e xs s l
 | (j,.itr c g d f b) :: l=>by
  simp only[BD,lk];split
  .rfl
  exact CO n e xs s l
 | (j,.dfr) :: l=>by
  simp only[BD,lk];split
  .rfl
  exact CO n e xs s l
 | (j,.sit sb sp) :: l=>by
  simp only[BD,lk];split
  .rfl
  exact CO n e xs s l
theorem SP (n:Nat) (e:Ty) (xs:List e.den):∀l:List AV,(AV.frzs n e xs l).length=l.length
 | []=>rfl
 | _ :: r=>by simp[AV.frzs,SP n e xs r]
section
variable {V V':Vw} {n:Nat} {et:TypeId} {e:Ty} {xs:List e.den}
structure jP (V V':Vw) (n:Nat):Prop where
 w:V'.w=V.w
 ρ:V'.ρ=V.ρ
 L:∀m,V.L m->m≠n->V'.L m
 O:∀b,¬V.O b->¬V'.O b
 n:∀b,bk (V.ρ n) b->¬V'.O b
theorem jP.keeps (h:jP V V' n):Cv (V.but n) V':=⟨λb _ c=>h.O b c,λm a=>h.L m a.1 a.2,λm _=>by rw[h.ρ];rfl,λb _ _=>by rw[h.w];rfl⟩
structure Na (V V':Vw) (n:Nat) (e:Ty) (xs:List e.den):Prop where
 seat:seat (V.ρ n)
 read:∀lo hi v,DS (plc (V.ρ n)) e.size lo hi v->B1 V'.w V'.O (.slice e) [v] (sub xs lo hi)
theorem cS {V:Vw} {et:TypeId} {e:Ty} {xs:List e.den} {loc:Value} (b:BB V (.arr et e xs) loc):seat loc:=by
 obtain⟨_,cells',c,_⟩:=b;rcases c.2 with ⟨a,_⟩|⟨g,cap,d,a,_⟩
 .exact .inl ⟨_,_,_,a⟩
 exact .inl ⟨_,_,_,a⟩
theorem jP.arr (h:jP V V' n) (a:BB V (.arr et e xs) (V.ρ n)):Na V V' n e xs:=⟨cS a,λlo hi v f=>by
 have d:=ZK (V:=V) (O':=V'.O) h.O (λb c=>h.n b (.inl c)) a f
 rwa [<-h.w]at d⟩
theorem jP.nest (h:jP V V' n) {f:TypeId} {k e:Ty} {xs:List (k.den×List e.den)} (a:BB V (.nest et f k e xs none) (V.ρ n)):Na V V' n (.agg (.prod k (.slice e))) xs:=⟨by
 obtain⟨o,ins,cells,b,_⟩:=a;exact b.elim (λh=>.inr ⟨_,h⟩) (λh=>.inl ⟨_,_,_,h.1⟩),λlo hi v d=>by
 have c:=b7 (V:=V) (O':=V'.O) h.O h.n a d
 rwa [<-h.w]at c⟩
theorem ZY (h:jP V V' n) (g:Na V V' n e xs) {v:Value} (b:Lf V x v):Lf V' (x.frz n e xs) v/\((∀t d,x≠.p t d)->∀t d,x.frz n e xs=.p t d->t.wrap [v]=v/\B1 V'.w V'.O t [v] d):=by
 have hk:=h.keeps;have c:=g.seat;cases x;case sr m f lo hi =>
  simp only[AV.frz];split
  .rename_i a;subst a;split
   .rename_i q;subst q;obtain⟨y,k⟩:=b;have j:=g.read lo hi v k;obtain⟨_,_,_,_,_,_,s,u,l,_⟩:=k;refine⟨⟨[v],j,by rw[l];rfl⟩,λ_ t d h=>?_⟩;injection h with h1 o
    subst h1;cases o;exact⟨by rw[l];rfl,j⟩
   exact⟨trivial,λ_ t d h=>by cases h⟩
  rename_i a;have:=Id c b;simp only[AV.drp,An a]at this;exact⟨this.keeps hk,λ_ t d h=>by cases h⟩
 case ep m f i z off =>
  have:=Id c b;simp only[AV.drp]at this;simp only[AV.frz];split
  .exact⟨trivial,λ_ t d h=>by cases h⟩
  rename_i a;rw[An a]at this;exact⟨this.keeps hk,λ_ t d h=>by cases h⟩
 case nin m f i len =>
  have:=Id c b;simp only[AV.drp]at this;simp only[AV.frz];split
  .exact⟨trivial,λ_ t d h=>by cases h⟩
  rename_i a;rw[An a]at this;exact⟨this.keeps hk,λ_ t d h=>by cases h⟩
 case p t d=>exact⟨(Id c b).keeps hk,λr=>absurd rfl (r t d)⟩
 all_goals
  have:=Id c b;simp only[AV.drp]at this;simp only[AV.frz];exact⟨this.keeps hk,λ_ t d h=>by cases h⟩
theorem xW (h:jP V V' n) (k:Na V V' n e xs) {cs:List Value} (h0:XB x=false) (c:F4 V x cs):F4 V' (x.frz n e xs) cs:=by
 by_cases g:∃t d,x=.p t d
 .obtain⟨t,d,rfl⟩:=g;simp only[AV.frz];have c:B1 V.w V.O t cs d:=c;have:B1 V'.w V'.O t cs d:=c.mono (λb _ j=>h.O b j) (λb _ _=>by rw[h.w]);exact this
 have m:∃v,cs=[v]/\v.oneCell'=true/\Lf V x v:=by
  cases x;case p t d=>exact absurd ⟨t,d,rfl⟩ g
  case ag l=>cases h0
  all_goals exact c
 obtain⟨v,rfl,h1,i⟩:=m;obtain⟨f,a⟩:=ZY h k i;have a:=a (λt d e=>g ⟨t,d,e⟩);generalize o:x.frz n e xs=y at f a;cases y;case p t d=>exact(a t d rfl).2
 case ag l=>exact f.elim
 all_goals exact⟨v,rfl,h1,f⟩
theorem xX (h:jP V V' n) (a:Na V V' n e xs):(∀(x:AV) (cs:List Value),F4 V x cs->F4 V' (x.frz n e xs) cs)/\∀(l:List AV) (cs:List Value),AVCs V l cs->AVCs V' (AV.frzs n e xs l) cs :=
 PI (λ_=>by simp only[AV.frz]) (by simp only[AV.frzs]) (λ_ _=>by simp only[AV.frzs]) (xW h a)
theorem Uf (h:jP V V' n) (a:Na V V' n e xs) {l:List AV} {cs:List Value} (b:AVCs V l cs):AVCs V' (AV.frzs n e xs l) cs:=(xX h a).2 l cs b
theorem A3u (h:jP V V' n) (b:Na V V' n e xs) {v:Value} (a:SD V x v):SD V' (x.frz n e xs) v:=by
 cases x;case ag l=>obtain⟨cs,h1,c⟩:=a;simp only[AV.frz];exact⟨cs,h1,Uf h b c⟩
 all_goals
  simp only[SD]at a;exact SD.of1 (ZY h b a).1
theorem cU (h:jP V V' n) (c:Na V V' n e xs):∀ {l:List AV} {a:List Value},Hm V l a->Hm V' (AV.frzs n e xs l) a
 | [],a,b=>(b:a=[])
 | x :: r,a,b=>by
  obtain⟨v,f,rfl,h1,d⟩:=b;simp only[AV.frzs];exact⟨v,f,rfl,A3u h c h1,cU h c d⟩
theorem oJ (h:jP V V' n) (c:Na V V' n e xs) {v:Value} (a:B8 V x v):B8 V' (x.frz n e xs) v:=by
 cases x;case ag l=>obtain⟨cs,h1,b⟩:=a;simp only[AV.frz];exact⟨cs,h1,Uf h c b⟩
 case tup l=>obtain⟨d,h1,b⟩:=a;simp only[AV.frz];exact⟨d,h1,cU h c b⟩
 all_goals
  simp only[B8]at a;exact A3q (ZY h c a).1
end
theorem cV (hs:CB w0 K O0 nt ds σ ρ a w) (n:Nat) (N:¬G0 n=true) {W:Obj} (hn:lk n σ.objs=some W) {xs:List e.den}
  (R:jP (vw w O0 σ ρ) (vw w O0 ⟨De n e xs σ.env,BD n e xs (del n σ.objs)⟩ ρ) n->Na (vw w O0 σ ρ) (vw w O0 ⟨De n e xs σ.env,BD n e xs (del n σ.objs)⟩ ρ) n e xs) :
  CB w0 K O0 nt ds ⟨De n e xs σ.env,BD n e xs (del n σ.objs)⟩ ρ a w:=by
 have F:∀m x,lk m (BD n e xs (del n σ.objs))=some x->m≠n/\∃y,lk m σ.objs=some y/\x=y.frz n e xs:=by
  intro m x d;rw[CO,Q1]at d;split at d
  .simp at d
  rename_i B;simp only[OF]at d;grind
 have i:∀m,Gz ⟨De n e xs σ.env,BD n e xs (del n σ.objs)⟩ m↔(Gz σ m/\m≠n):=by
  intro m;constructor
  .rintro⟨x,C⟩;obtain⟨h1,y,h,_⟩:=F m x C;exact⟨⟨y,h⟩,h1⟩
  rintro⟨⟨x,C⟩,B⟩;exact⟨x.frz n e xs,by simp[CO,Q1,B,C]⟩
 have hF:jP (vw w O0 σ ρ) (vw w O0 ⟨De n e xs σ.env,BD n e xs (del n σ.objs)⟩ ρ) n:=by
  refine⟨rfl,rfl,λm h1 h=>(i m).2 ⟨h1,h⟩,λb f A=>?_,λb f A=>?_⟩
  .rcases A with h0|⟨m,c,d⟩
   .exact f (.inl h0)
   exact f (.inr ⟨m,((i m).1 c).1,d⟩)
  have f:bk (ρ n) b:=f;rcases A with h0|⟨m,c,d⟩
  .exact(hs.free n b ⟨_,hn⟩ f).2 h0
  exact((i m).1 c).2 (hs.dist m n b ((i m).1 c).1 ⟨_,hn⟩ d f)
 have t:=R hF;have Q:∀p∈ds.pin,Gz ⟨De n e xs σ.env,BD n e xs (del n σ.objs)⟩ p.1/\ρ p.1=p.2/\(A6z p.2=true\/G0 p.1=true):=by
  intro p P;obtain⟨h1,h,q⟩:=hs.pin p P;refine⟨(i p.1).2 ⟨h1,λj=>?_⟩,h,q⟩;have q:A6z p.2=true:=q.resolve_right (by rw[j];exact N);have D:seat (ρ n):=t.seat;rw[<-j,h]at D;rcases D with ⟨_,_,_,E⟩|⟨_,E⟩<;>rw[E]at q<;>cases q
 refine⟨hs.frm,hs.nt,hs.defers,Q,?_,?_,?_,?_⟩
 .intro m x d;obtain⟨B,y,r,rfl⟩:=F m x d;have g:=hs.objs m y r;cases y with
  | arr u j J=>exact BB.keeps (V:=(vw w O0 σ ρ).but n) hF.keeps (λ_ _=>rfl) g
  | box u st fs =>
   obtain⟨h0,b,cs,c,hh,M⟩:=g;exact⟨λS=>by rw[SP];exact h0 S,b,cs,c,hh,Uf hF t M⟩
  | nest u T U j J c=>exact BB.keeps (V:=(vw w O0 σ ρ).but n) (o:=.nest u T U j J c) hF.keeps (λ_ _=>rfl) (Mp (V:=vw w O0 σ ρ) (V':=(vw w O0 σ ρ).but n) rfl rfl g)
  | mapo k v l=>exact BB.keeps (V:=(vw w O0 σ ρ).but n) hF.keeps (λ_ _=>rfl) g
  | frame ad fs =>
   obtain⟨h0,h1⟩:=g;refine⟨h0,λs z H=>?_⟩;simp only[Ms,OF]at H;obtain⟨y,r,rfl⟩:=H;exact oJ hF t (h1 s y r)
  | loop L=>exact BB.keeps (V:=(vw w O0 σ ρ).but n) hF.keeps (λ_ _=>rfl) g
  | itr Y ab Z aa X=>exact BB.keeps (V:=(vw w O0 σ ρ).but n) hF.keeps (λ_ _=>rfl) g
  | dfr=>exact BB.keeps (V:=(vw w O0 σ ρ).but n) hF.keeps (λ_ _=>rfl) g
  | sit sb sp=>exact BB.keeps (V:=(vw w O0 σ ρ).but n) hF.keeps (λ_ _=>rfl) g
 .intro m b c f;exact hs.free m b ((i m).1 c).1 f
 .intro m I b c O h1 h;exact hs.dist m I b ((i m).1 c).1 ((i I).1 O).1 h1 h
 intro s v G;simp only[Ms,OF]at G;obtain⟨y,r,rfl⟩:=G;exact oJ hF t (hs.env s y r)
theorem A3v (hs:CB w0 K O0 nt ds σ ρ a w) (n:Nat):CB w0 K O0 nt ds (frz n σ) ρ a w:=by
 unfold frz;split
 .exact hs
 rename_i b;cases hn:lk n σ.objs with
 | none=>exact hs
 | some d =>
 cases d with
 | box et st fs=>exact hs
 | mapo k v l=>exact hs
 | frame q fs=>exact hs
 | loop L=>exact hs
 | itr j p m o f=>exact hs
 | dfr=>exact hs
 | sit sb sp=>exact hs
 | arr et e xs=>exact cV hs n b hn λh=>h.arr (hs.objs n _ hn)
 | nest et g k e xs c =>
  cases c with
  | some i=>exact hs
  | none=>exact cV hs n b hn λh=>h.nest (hs.objs n _ hn)
theorem KF:∀ {l:List Nat} {σ:St},CB w0 K O0 nt ds σ ρ a w->CB w0 K O0 nt ds (C3 l σ) ρ a w
 | [],_,h=>h
 | n :: r,σ,h=>KF (l:=r) (σ:=frz n σ) (A3v h n)
end
end
section
open Go Go.RowKit
section
variable {P:Program} {tb:Tb} {w0:World} {K O0:Nat->Prop} {nt:Nat} {ds:Fp} {σ σ':St} {ρ:Nat->Value} {a:Act} {w:World} {vc:Prop}
theorem A3w (hs:CB w0 K O0 nt ds σ ρ a w) (bs:∀b,K b->b<w0.heap.size) (bt:∀b,O0 b->b<w0.heap.size) (hT:DB P tb) {d:Nat} (bx:d<nt) {ty:TypeId} {x:Operand} {n i len:Nat} {v:AV}
  (cm:Ai σ x=some (.nin n e i len)) (cn:Ai σ y=some v) {et:TypeId} {xs:List (k.den×List e.den)} (hn:lk n σ.objs=some (.nest et R k e xs none)) (ca:G0 n=false)
  (hu:P.underlying t=some (.slice R)) {te:TI} (an:lk R tb.ty=some te) (ao:te.ty=e) (h:NY σ d n et R k e xs i te.bytes (PA σ e v)=some (vc,σ')) (ab:vc) :
  ∃z w' ρ',(Builtin.append_ #[t,t] ty #[a.eval x,a.eval y]).run P w=.ok z w'/\CB w0 K O0 nt ds σ' ρ' (a.put (some d) z) w':=by
 have av:EX (vw w O0 σ ρ) σ a.eval:=Ci hs.env;cases ap:PA σ e v with
 | none=>rw[ap]at h;simp[NY]at h
 | some ys =>
  rw[ap]at h;simp only[NY]at h;split at h
  .rename_i aw;have al:lk d σ.objs=none:=by simpa using aw.1
   cases h;obtain⟨cs,W⟩:=TN hs.objs ap (av y _ cn);obtain⟨cw,ct,ad,c,U,J,E,cc,dc⟩:=av x _ cm;have J:ρ n=.tuple ct:=J;have be:=hs.objs n _ hn;have ax:=ZM (z:=(k.dflt,[])) be J E;obtain⟨o,ins,cells,ck,C⟩:=be;obtain rfl:=ck.tup J;have E:ins[i]?=some U:=by simpa using E
   obtain⟨c1,dd,bw,cj,s⟩:=C.row i _ _ ax E;rcases s with ⟨s,_⟩|⟨_,cy,p,bg,N,bz⟩
   .cases s
   generalize db:xs.getD i (k.dflt,[])=row at *;obtain⟨z,w',Q,D,B,am,bf⟩:∃z w',(Builtin.append_ #[t,t] ty #[a.eval x,a.eval y]).run P w=.ok z w'/\w'.ownsRow 0 R e.size z (row.2.length+ys.length) (bg++cs)/\w.grownBy w' (blk U)/\row.2.length+ys.length<=AP/\(blk z=blk U\/∀b,blk z=some b->w.heap.size<=b):=by
    rcases cc with G|⟨G,aq,cl⟩
    .rw[G];obtain⟨z,w',Q,D,B,am⟩:=GG (ty:=ty) hT hu an ao N W ab (Do _);have bf:=HJ (ty:=ty) hT hu an ao N W ab Q;rw[TQ N]at B;exact⟨z,w',Q,D,B,am,bf⟩
    subst G;have bc:=KB N;have ci:row.2=[]:=AA4 bc.symm;have cb:bg=[]:=AA4 (by rw[N.1,<-bc,AD7]);subst cb;have co:0<ys.length:=by
     cases ys with
     | nil=>simp at aw
     | cons _ _=>simp
    rw[cl];rw[ci]at ab ⊢;obtain⟨z,w',Q,D,B⟩:=SH (ty:=ty) hT hu an ao (xs:=([]:List e.den)) (a:=aq) (TM w (own O0 σ ρ) e aq 0) W co ab;refine⟨z,w',Q,⟨D.1,D.2.imp (λh=>h) λ⟨g,cap,ah,e,_,r⟩=>⟨g,cap,ah,e,Do _,r⟩⟩,B,by simpa using W.max,.inr λb f=>?_⟩;rcases D.2 with ⟨h1,_⟩|⟨g,cap,ah,h1,q,_⟩
    .rw[h1]at f;simp[blk]at f
    rw[h1]at f;simp[blk]at f;omega
   have Y:∀b,bk (ρ n) b↔blk o=some b\/∃(j:Nat) (u:Value),ins[j]?=some u/\blk u=some b:=λb=>by rw[J];exact BJ
   have cz:i<ins.length:=(TO.1 E).1;have bd:n≠d:=λl=>by rw[l,al]at hn;cases hn
   generalize az:(Value.tuple (o :: ins.set i (.slice none 0 0)).toArray)=loc;have af:Eh (Eh ρ n loc) d z n=loc:=by simp[Eh,bd]
   have ae:Eh (Eh ρ n loc) d z d=z:=Br _ _ _;have ag:∀m,m≠n->m≠d->Eh (Eh ρ n loc) d z m=ρ m:=λm h1 q=>by simp[Eh,h1,q]
   generalize Eh (Eh ρ n loc) d z=ρ' at af ae ag;have aa:∀(j:Nat) (u:Value),(ins.set i (.slice none 0 0))[j]?=some u->(j=i/\u=.slice none 0 0)\/(j≠i/\ins[j]?=some u):=by grind
   have au:∀b,bk loc b->blk o=some b\/∃(j:Nat) (u:Value),j≠i/\ins[j]?=some u/\blk u=some b:=by grind [BJ,blk]
   have bv:∀b,bk loc b->bk (ρ n) b:=λb f=>(Y b).2 ((au b f).imp id λ⟨j,u,_,h1,q⟩=>⟨j,u,h1,q⟩);have Z:∀b,blk U=some b->bk (ρ n) b:=λb f=>(Y b).2 (.inr ⟨i,_,E,f⟩);have cx:∀b,bk z b->blk z=some b:=λb f=>by
    rcases D.2 with ⟨G,_⟩|⟨g,cap,ah,G,_⟩<;>rw[G]at f ⊢<;>exact Le.1 f
   have cr:∀b,bk z b->blk U=some b\/w.heap.size<=b:=λb f=>by grind
   have ba:∀b,bk (ρ n) b->b<w.heap.size:=λb f=>(hs.objs n _ hn).block_lt f;have da:∀b,bk loc b->blk U≠some b:=by
    intro b f G;rcases au b f with h1|⟨j,u,h1,q,s⟩
    .exact C.out i b _ E G h1
    exact h1 (C.dist j i b u _ q E s G)
   have ay:(row.2++ys).length=row.2.length+ys.length:=by simp
   let S:St:=⟨(d,.sr d e 0 (row.2.length+ys.length)) :: ET n [] σ.env,(d,.arr R e (row.2++ys)) :: (n,.nest et R k e xs (some i)) :: C5 n [] σ.objs⟩
   have ar:∀m H,lk m S.objs=some H->(m=d/\H=.arr R e (row.2++ys))\/(m=n/\m≠d/\H=.nest et R k e xs (some i))\/(m≠d/\m≠n/\∃A,lk m σ.objs=some A/\H=A.trn n []):=by
    intro m H p;simp only[S,lk]at p;split at p
    .rename_i l;cases p;exact .inl ⟨l,rfl⟩
    rename_i l;split at p
    .rename_i ai;cases p;exact .inr (.inl ⟨ai,l,rfl⟩)
    rename_i ai;rw[DT]at p;split at p
    .cases p
    simp only[OF]at p;obtain⟨A,h1,rfl⟩:=p;exact .inr (.inr ⟨l,ai,A,h1,rfl⟩)
   have bu:∀m,m≠d->m≠n->∀A,lk m σ.objs=some A->lk m S.objs=some (A.trn n []):=by grind [lk,DT,Af]
   have cg:∀b,b<w.heap.size->¬own O0 σ ρ b->¬own O0 S ρ' b:=by
    intro b f I cq;rcases cq with h0|⟨m,⟨H,cf⟩,L⟩
    .exact I (.inl h0)
    rcases ar m H cf with ⟨rfl,_⟩|⟨rfl,_,_⟩|⟨h1,q,A,s,_⟩
    .rw[ae]at L;rcases cr b L with F|F
     .exact I (.inr ⟨n,⟨_,hn⟩,Z b F⟩)
     omega
    .rw[af]at L;exact I (.inr ⟨_,⟨_,hn⟩,bv b L⟩)
    rw[ag m q h1]at L;exact I (.inr ⟨m,⟨A,s⟩,L⟩)
   have ch:plc loc=o:=by rw[<-az];rfl
   have X:PS (vw w O0 σ ρ) (vw w' O0 S ρ') n []:=by
    refine⟨cg,λm p _=>?_,λm p _ ce=>?_,⟨_,J⟩,?_,λb f I=>B.block b f λl=>I (.inr ⟨n,⟨_,hn⟩,Z b l.symm⟩)⟩
    .obtain⟨A,h1⟩:=p;by_cases bb:m=n
     .subst bb;exact⟨.nest et R k e xs (some i),by simp[S,lk,bd]⟩
     have cd:m≠d:=λl=>by rw[l,al]at h1;cases h1
     exact⟨_,bu m cd bb A h1⟩
    .obtain⟨A,h1⟩:=p;exact ag m ce (λl=>by rw[l,al]at h1;cases h1)
    show plc (ρ' n)=plc (ρ n);rw[af,ch,J];rfl
   have M:Cv ⟨w,own O0 σ ρ,λ_=>False,ρ⟩ (vw w' O0 S ρ'):=⟨X.O,λ_ h=>h.elim,λ_ h=>h.elim,X.heap⟩;refine⟨z,w',ρ',Q,hs.swap bs bt (T:=λm=>m=n) (λm p=>by obtain rfl:m=n:=p;exact⟨ca,_,hn,by rw[J];exact .inr ⟨_,rfl⟩⟩) (new:=[(d,.arr R e (row.2++ys)),(n,.nest et R k e xs (some i))]) B.os B.tape B.output B.size ?_ ?_ ?_ ?_ ?_ ?_ ?_ ?_⟩
   .exact λb f I=>B.block b f λl=>I n rfl (Z b l.symm)
   .grind [lk]
   .grind [lk]
   .grind [lk]
   .grind [lk]
   .grind [bk,lk]
   .intro m H p;rcases ar m H p with ⟨rfl,rfl⟩|⟨rfl,_,rfl⟩|⟨h1,q,A,s,rfl⟩
    .rw[ae];refine⟨by rw[ay];exact am,_,by rw[ay];exact D,?_⟩;exact Dp.keeps M (KE bz W.elems N.1)
    .rw[af];refine⟨o,ins.set i (.slice none 0 0),cells,.inl az.symm,C.max,by rw[AAt];exact C.len,I1 (λb f=>B.block b (ba b ((Y b).2 (.inl f))) λl=>C.out i b _ E l.symm f) C.own,λj cu u h1 q=>?_,?_,?_⟩
     .rcases aa j u q with ⟨rfl,rfl⟩|⟨s,F⟩
      .rw[ax]at h1;cases h1;exact⟨c1,_,bw,B1.mono M.O M.heap cj,.inl ⟨sc,rfl⟩⟩
      obtain⟨c2,bm,bn,bo,aj⟩:=C.row j cu u h1 F;rcases aj with ⟨aj,_⟩|⟨_,bp,bq⟩
      .cases aj
      refine⟨c2,bm,bn,B1.mono M.O M.heap bo,.inr ⟨AB6.2 (λl=>s (by injection l with l;exact l.symm)),bp,?_⟩⟩;exact Q0.keeps (V:=⟨w,own O0 σ ρ,λ_=>False,ρ⟩) M (λb f=>B.block b (ba b ((Y b).2 (.inr ⟨j,u,F,f⟩))) λl=>s (C.dist j i b u _ F E f l.symm)) bq
     .intro bh bi b bj bl h1 q s F;rcases aa bh bj h1 with ⟨_,rfl⟩|⟨_,ak⟩
      .simp[blk]at s
      rcases aa bi bl q with ⟨_,rfl⟩|⟨_,br⟩
      .simp[blk]at F
      exact C.dist bh bi b bj bl ak br s F
     intro j b u h1 q;rcases aa j u h1 with ⟨_,rfl⟩|⟨_,ak⟩
     .simp[blk]at q
     exact C.out j b u ak q
    rw[ag m q h1];refine oH X (λb f=>B.block b ((hs.objs m A s).block_lt f) λl=>q (hs.dist m n b ⟨_,s⟩ ⟨_,hn⟩ f (Z b l.symm))) (hs.objs m A s)
   intro s2 bm el;rw[Mo a d z s2 (by rw[hs.nt];exact bx)];simp only[S,lk]at el;split at el
   .rename_i es;cases el;rw[At es];refine⟨⟨.arr R e (row.2++ys),by simp[S,lk]⟩,?_⟩;show DS (plc (ρ' d)) e.size 0 _ z;rw[ae,HI D];exact GE D
   rename_i es;rw[An es];rw[FY]at el;simp only[OF]at el;obtain⟨cv,cp,rfl⟩:=el;exact ZX X (hs.env s2 cv cp)
  cases h
end
end
section
open Go Go.RowKit
theorem ZZ {et:TypeId} {sz len g m c:Nat} {cells:List Value} (h:w.ownsRow 0 et sz (.slice (some ⟨g,0,none⟩) m c) len cells) {p:Nat} (C:p<len*sz) (v:Value) :
  ∃a:List Value,w.heap[g]?=some (.cells a.toArray et (0,0))/\p+1<=a.length/\(w.setRow g (A5 a p [v]).toArray).ownsRow 0 et sz (.slice (some ⟨g,0,none⟩) m c) len (cells.set p v):=by
 obtain⟨t,l⟩:=h;rcases l with ⟨d,_⟩|⟨y,cap,a,d,z,i,e,o,f,u⟩
 .cases d
 injection d with b q r
 injection b with b
 injection b with b
 subst b;have A:len*sz<=cap*sz:=AA6 _ e;have B:a.toList.length=cap*sz:=by rw[<-f];simp
 have n:p + [v].length<=a.toList.length:=by simp only[nO];omega
 have s:w.heap[g]?=some (.cells a.toList.toArray et (0,0)):=by simpa using i
 have k:A5 a.toList p [v]=a.toList.set p v:=by
  apply ACq;intro j;simp only[A5,AA8,AAW,ON,AAg,AAX,nO,AB4];have x:min p a.toList.length=p:=by omega
  simp only[x];by_cases c1:j<p
  .grind
  grind
 refine⟨a.toList,s,by simpa using n,?_,.inr ⟨g,cap,_,by rw[q,r],Do _,setRow_heap w g _ _ et _ i,e,o,?_,?_⟩⟩
 .rw[AAt];exact t
 .rw[k];simp[f]
 rw[k,<-u];simp[List.take_set]
section
variable {P:Program} {tb:Tb} {w0:World} {K O0:Nat->Prop} {nt:Nat} {ds:Fp} {σ σ':St} {ρ:Nat->Value} {a:Act} {w:World} {vc:Prop}
theorem xY (hs:CB w0 K O0 nt ds σ ρ a w) (bm:∀b,K b->b<w0.heap.size) (bn:∀b,O0 b->b<w0.heap.size) (hT:DB P tb) (ht:lk t tb.ty=some X) {x:Operand} {n m i hi:Nat} {k e:Ty} (ch:X.ty=.slice e) {cr:List Nat}
  (ci:Ai σ x=some (.ep n (.agg (.prod k (.slice e))) i cr k.size)) (cm:Ai σ y=some (.sr m e 0 hi)) {et:TypeId} {xs:List (k.den×List e.den)} {ys:List e.den} (hn:lk n σ.objs=some (.nest et B k e xs (some i))) (G:lk m σ.objs=some (.arr B e ys))
  (bu:G0 n=false) (cy:G0 m=false) (dc:hi=ys.length) :
  ∃w' ρ',(Instr.storeAt t (a.eval x) (a.eval y)).run P w=.ok () w'/\CB w0 K O0 nt ds ⟨ET n [m] σ.env,(n,.nest et B k e (xs.set i ((xs.getD i (k.dflt,[])).1,ys)) none) :: C5 n [m] σ.objs⟩ ρ' a w':=by
 have ar:EX (vw w O0 σ ρ) σ a.eval:=Ci hs.env;have cc:m≠n:=λd=>by rw[d,hn]at G;cases G
 obtain⟨cw,g,be,c,al,bz,ck⟩:=ar x _ ci;obtain⟨cx,bh,cq,bi,N,_,da,ct,cu,dd,_,h0,_⟩:=ar y _ cm;obtain⟨o,ins,cells,ba,id⟩:=hs.objs n _ hn;have ao:Q0 (vw w O0 σ ρ) B e ys (ρ m):=hs.objs m _ G;have aw:=hs.objs m _ G;have N:plc (ρ m)=.slice bh cq bi:=N;rw[TK aw]at N;have cp:a.eval y=ρ m:=by
  obtain⟨rfl,rfl⟩:=h0 rfl;obtain⟨_,de,db,_⟩:=ao;grind [KB]
 have al:plc (ρ n)=.slice (some ⟨g,0,none⟩) be c:=al;have cd:o=.slice (some ⟨g,0,none⟩) be c:=by rw[<-ba.plc];exact al
 subst cd;have cb:=KB id.own;subst cb;have M:i<xs.length:=bz;have aj:i<ins.length:=by rw[id.len];exact M
 have aa:ρ n=.tuple ((.slice (some ⟨g,0,none⟩) xs.length c) :: ins).toArray:=ba.resolve_right λh=>by rw[h.2.2]at aj;simp at aj
 have ax:i*(k.size+1)+k.size<xs.length*(k.size+1):=by
  have:(i+1)*(k.size+1)<=xs.length*(k.size+1):=AA6 _ M;rw[ABg]at this;omega
 obtain⟨Q,bv,br,Y⟩:=ZZ id.own ax (ρ m);have cf:(ρ m).oneCell'=true:=by rw[N];rfl
 have W:(a.eval y).cells=#[ρ m]:=by rw[cp,N];rfl
 have az:=Lk (P:=P) (xv:=a.eval y) (hT _ _ ht) bv (off:=i*(k.size+1)+k.size) (by rw[W,ch];rfl) (by rw[W];simpa using br) (by rw[W];intro u hu;simp at hu;subst hu;exact cf);rw[W]at az;refine⟨_,Eh ρ n (.tuple ((.slice (some ⟨g,0,none⟩) xs.length c) :: ins.set i (ρ m)).toArray),by rw[ck];exact az,?_⟩;have E:=Fu w g (A5 Q (i*(k.size+1)+k.size) [ρ m]).toArray;change CB w0 K O0 nt ds _ _ a (w.setRow g (A5 Q (i*(k.size+1)+k.size) [ρ m]).toArray);have Y:(w.setRow g (A5 Q (i*(k.size+1)+k.size) [ρ m]).toArray).ownsRow 0 et (k.size+1) (.slice (some ⟨g,0,none⟩) xs.length c) xs.length (cells.set (i*(k.size+1)+k.size) (ρ m)):=Y;generalize w.setRow g (A5 Q (i*(k.size+1)+k.size) [ρ m]).toArray=w' at E Y;generalize av:(Value.tuple ((.slice (some ⟨g,0,none⟩) xs.length c) :: ins.set i (ρ m)).toArray)=loc;have ab:Eh ρ n loc n=loc:=Br _ _ _;have ad:∀j,j≠n->Eh ρ n loc j=ρ j:=λj h1=>by simp[Eh,h1]
 generalize Eh ρ n loc=ρ' at ab ad;have aq:∀b,bk (ρ n) b↔blk (.slice (some ⟨g,0,none⟩) xs.length c)=some b\/∃(j:Nat) (u:Value),ins[j]?=some u/\blk u=some b:=λb=>by rw[aa];exact BJ
 have Z:∀(j:Nat) (u:Value),(ins.set i (ρ m))[j]?=some u->(j=i/\u=ρ m)\/(j≠i/\ins[j]?=some u):=by grind
 have ag:∀b,blk (ρ m)=some b->bk (ρ m) b:=λb f=>.inl f;have bp:∀b,bk loc b->bk (ρ n) b\/blk (ρ m)=some b:=by grind [BJ]
 have bs:∀b,bk (ρ n) b->blk (ρ m)=some b->False:=λb h1 s=>cc (hs.dist m n b ⟨_,G⟩ ⟨_,hn⟩ (ag b s) h1);have ah:bk (ρ n) g:=(aq g).2 (.inl rfl);have bx:∀b,bk (ρ n) b->b<w.heap.size:=λb f=>(hs.objs n _ hn).block_lt f;have ca:∀b,blk (ρ m)=some b->b<w.heap.size:=λb f=>aw.block_lt (ag b f)
 let S:St:=⟨ET n [m] σ.env,(n,.nest et B k e (xs.set i ((xs.getD i (k.dflt,[])).1,ys)) none) :: C5 n [m] σ.objs⟩
 have ap:∀j C,lk j S.objs=some C->(j=n/\C=.nest et B k e (xs.set i ((xs.getD i (k.dflt,[])).1,ys)) none)\/(j≠n/\j≠m/\∃r,lk j σ.objs=some r/\C=r.trn n [m]):=by
  intro j C p;simp only[S,lk]at p;split at p
  .grind
  rename_i d;rw[DT]at p;split at p
  .cases p
  rename_i cv;simp only[OF]at p;grind [Af]
 have bo:∀j,j≠n->j≠m->∀r,lk j σ.objs=some r->lk j S.objs=some (r.trn n [m]):=by grind [lk,DT,Af]
 have cg:∀b,b<w.heap.size->¬own O0 σ ρ b->¬own O0 S ρ' b:=by
  intro b f H co;rcases co with h0|⟨j,⟨C,ce⟩,U⟩
  .exact H (.inl h0)
  rcases ap j C ce with ⟨rfl,_⟩|⟨h1,s,r,l,_⟩
  .rw[ab]at U;rcases bp b U with v|v
   .exact H (.inr ⟨_,⟨_,hn⟩,v⟩)
   exact H (.inr ⟨m,⟨_,G⟩,ag b v⟩)
  rw[ad j h1]at U;exact H (.inr ⟨j,⟨r,l⟩,U⟩)
 have R:PS (vw w O0 σ ρ) (vw w' O0 S ρ') n [m]:=by
  refine⟨cg,λj p bw=>?_,λj _ _ ak=>ad j ak,⟨_,aa⟩,?_,λb f H=>E.block b f λd=>?_⟩
  .obtain⟨r,h1⟩:=p;by_cases au:j=n
   .exact⟨.nest et B k e (xs.set i ((xs.getD i (k.dflt,[])).1,ys)) none,by simp[S,lk,au]⟩
   exact⟨_,bo j au (λd=>by simp[Af,d]at bw) r h1⟩
  .show plc (ρ' n)=plc (ρ n);rw[ab,<-av,aa];rfl
  injection d with d
  subst d;exact H (.inr ⟨n,⟨_,hn⟩,ah⟩)
 have F:Cv ⟨w,own O0 σ ρ,λ_=>False,ρ⟩ (vw w' O0 S ρ'):=⟨R.O,λ_ h=>h.elim,λ_ h=>h.elim,R.heap⟩;have ai:∀b,b<w.heap.size->b≠g->w'.heap[b]?=w.heap[b]?:=λb h1 s=>E.block b h1 λd=>s (by injection d);refine hs.swap bm bn (T:=λj=>j=n\/j=m) (dst:=none) (u:=undef) (λj p=>?_) (new:=[(n,.nest et B k e (xs.set i ((xs.getD i (k.dflt,[])).1,ys)) none)]) E.os E.tape E.output E.size ?_ ?_ ?_ ?_ ?_ ?_ ?_ ?_
 .rcases p with rfl|rfl
  .exact⟨bu,_,hn,by rw[aa];exact .inr ⟨_,rfl⟩⟩
  grind [cS]
 .grind
 .grind [lk]
 .grind [lk]
 .grind [lk]
 .grind [lk]
 .grind [lk]
 .intro j C p;rcases ap j C p with ⟨rfl,rfl⟩|⟨h1,s,r,l,rfl⟩
  .rw[ab];have bq:cells.length=xs.length*(k.size+1):=id.own.1;refine⟨_,ins.set i (ρ m),cells.set (i*(k.size+1)+k.size) (ρ m),.inl av.symm,by rw[AAt];exact id.max,by rw[AAt,AAt];exact id.len,by rw[AAt];exact Y,λj an u h1 s=>?_,?_,?_⟩
   .have bt:∀(c2:List Value) (D:Value),j≠i->c2.length=k.size->(∀(q:Nat) (z:Value),(c2++[D])[q]?=some z->cells[j*(k.size+1)+q]?=some z)->∀(q:Nat) (z:Value),(c2++[D])[q]?=some z->(cells.set (i*(k.size+1)+k.size) (ρ m))[j*(k.size+1)+q]?=some z:=by
     intro c2 D cz ti I q z A;have am:=(TO.1 A).1;simp only[IS,nO,ti]at am;have ak:i*(k.size+1)+k.size≠j*(k.size+1)+q:=by
      intro d;rcases Nat.lt_or_ge i j with l|l
      .have:(i+1)*(k.size+1)<=j*(k.size+1):=AA6 _ l;rw[ABg]at this;omega
      have:(j+1)*(k.size+1)<=i*(k.size+1):=AA6 _ O1;rw[ABg]at this;omega
     rw[AB4,An ak];exact I q z A
    rcases Z j u s with ⟨rfl,rfl⟩|⟨l,v⟩
    .have cl:xs[j]?=some (xs.getD j (k.dflt,[])):=by
      rw[As M,AS,As M];rfl
     obtain⟨c2,D,I,J,_⟩:=id.row j _ ins[j] cl (As aj);have cj:an=((xs.getD j (k.dflt,[])).1,ys):=by
      rw[List.getElem?_set_self M]at h1;exact(Option.some.inj h1).symm
     subst cj;have ti:c2.length=k.size:=J.length;refine⟨c2,ρ m,λq z A=>?_,B1.mono F.O F.heap J,.inr ⟨rfl,.inl rfl,?_⟩⟩
     .have am:=(TO.1 A).1;simp only[IS,nO,ti]at am;rw[AB4];by_cases ay:q=k.size
      .rw[ay,At rfl,At (by rw[bq];exact ax)];rw[ay,<-ti,AAa (On _),ABt]at A;exact A
      rw[An O1];refine I q z ?_;rw[AAm O1]at A ⊢;exact A
     exact Q0.keeps (V:=⟨w,own O0 σ ρ,λ_=>False,ρ⟩) F (λb f=>ai b (ca b f) λd=>bs b (by rw[d];exact ah) f) ao
    have h1:xs[j]?=some an:=by
     rw[AB4,An (λd=>l d.symm)]at h1;exact h1
    obtain⟨c2,D,I,J,ae⟩:=id.row j an u h1 v;rcases ae with ⟨ae,_⟩|⟨_,bj,bl⟩
    .exact absurd (by simpa using ae) (λd:i=j=>l d.symm)
    refine⟨c2,D,bt c2 D l J.length I,B1.mono F.O F.heap J,.inr ⟨rfl,bj,?_⟩⟩;exact Q0.keeps (V:=⟨w,own O0 σ ρ,λ_=>False,ρ⟩) F (λb f=>ai b (bx b ((aq b).2 (.inr ⟨j,u,v,f⟩))) λd=>id.out j b u v f (by rw[d];rfl)) bl
   .intro bc bd b bf bg h1 s l v;rcases Z bc bf h1 with ⟨L,rfl⟩|⟨_,L⟩<;>rcases Z bd bg s with ⟨af,rfl⟩|⟨_,af⟩
    .rw[L,af]
    .grind
    .grind
    exact id.dist bc bd b bf bg L af l v
   intro j b u h1 s l;rcases Z j u h1 with ⟨_,rfl⟩|⟨_,L⟩
   .grind
   exact id.out j b u L s l
  rw[ad j h1];refine oH R (λb f=>ai b ((hs.objs j r l).block_lt f) λd=>h1 (hs.dist j n b ⟨_,l⟩ ⟨_,hn⟩ f (by rw[d];exact ah))) (hs.objs j r l)
 intro s2 D bb;simp only[FY,OF]at bb;obtain⟨cs,cn,rfl⟩:=bb;exact ZX R (hs.env s2 cs cn)
end
end
section
open Go Go.RowKit
section
variable {P:Program} {tb:Tb} {w0:World} {K O0:Nat->Prop} {nt:Nat} {ds:Fp} {σ σ':St} {ρ:Nat->Value} {a:Act} {w:World} {vc:Prop}
theorem CB.swap1 (h:CB w0 K O0 nt ds σ ρ a w) (H:∀b,K b->b<w0.heap.size) (I:∀b,O0 b->b<w0.heap.size) {tl:List Nat} (hT:∀n,n∈tl->G0 n=false/\∃o,lk n σ.objs=some o/\seat (ρ n))
  {e:Nat} (ad:e∈tl\/lk e σ.objs=none) {j:Obj} {loc:Value} {w':World}
  (U:w'.os=w.os) (X:w'.tape=w.tape) (V:w'.output=w.output) (W:w.heap.size<=w'.heap.size)
  (B:∀b,b<w.heap.size->(∀n,n∈tl->¬bk (ρ n) b)->w'.heap[b]?=w.heap[b]?)
  (P:∀b,bk loc b->(∃m,m∈tl/\bk (ρ m) b)\/w.heap.size<=b)
  (R:∀V':Vw,V'.w=w'->Cv ⟨w,own O0 σ ρ,λ_=>False,ρ⟩ V'->BB V' j loc)
  {d:Nat} (N:d<nt) {v:AV} {u:Value} (M:∀V':Vw,V'.L e->V'.ρ e=loc->B8 V' v u) :
  CB w0 K O0 nt ds ⟨(d,v) :: C2 tl σ.env,(e,j) :: A4 tl tl σ.objs⟩ (Eh ρ e loc) (a.put (some d) u) w':=by
 let S:St:=⟨(d,v) :: C2 tl σ.env,(e,j) :: A4 tl tl σ.objs⟩
 have D:∀m o,lk m S.objs=some o->(m=e/\o=j)\/(m≠e/\m∉tl/\∃c,lk m σ.objs=some c/\o=c.fgt tl):=by
  intro m o f;simp only[S,lk]at f;split at f
  .grind
  rename_i aa;rw[CY]at f;split at f
  .cases f
  rename_i ab;simp only[OF]at f;grind [Ak]
 have J:∀m,m≠e->m∉tl->∀c,lk m σ.objs=some c->lk m S.objs=some (c.fgt tl):=by grind [lk,CY,Ak]
 have F:∀m,m∉tl->(∃o,lk m σ.objs=some o)->m≠e:=by grind
 have r:Eh ρ e loc e=loc:=Br _ _ _;have z:∀m,m≠e->Eh ρ e loc m=ρ m:=λm h1=>by simp[Eh,h1]
 generalize Eh ρ e loc=ρ' at r z;have G:∀b,b<w.heap.size->¬own O0 σ ρ b->¬own O0 S ρ' b:=by
  intro b l p Z;rcases Z with h0|⟨m,⟨o,Q⟩,q⟩
  .exact p (.inl h0)
  rcases D m o Q with ⟨rfl,_⟩|⟨h1,i,c,g,_⟩
  .rw[r]at q;rcases P b q with ⟨t,ht,C⟩|C
   .obtain⟨_,c,k,_⟩:=hT t ht;exact p (.inr ⟨t,⟨c,k⟩,C⟩)
   omega
  rw[z m h1]at q;exact p (.inr ⟨m,⟨c,g⟩,q⟩)
 have E:∀b,b<w.heap.size->¬own O0 σ ρ b->w'.heap[b]?=w.heap[b]?:=λb l p=>B b l λn hn A=>by
  obtain⟨_,c,k,_⟩:=hT n hn;exact p (.inr ⟨n,⟨c,k⟩,A⟩)
 have O:Cv ⟨w,own O0 σ ρ,λ_=>False,ρ⟩ (vw w' O0 S ρ'):=⟨G,λ_ h=>h.elim,λ_ h=>h.elim,E⟩;have hk:Cv ((vw w O0 σ ρ).buts tl) (vw w' O0 S ρ'):=by
  refine⟨G,λm f=>?_,λm f=>?_,E⟩
  .obtain⟨⟨c,h1⟩,i⟩:=f;have g:m∉tl:=λh=>by rw[(Ak _ _).2 h]at i;cases i
   exact⟨_,J m (F m g ⟨c,h1⟩) g c h1⟩
  obtain⟨⟨c,h1⟩,i⟩:=f;have g:m∉tl:=λh=>by rw[(Ak _ _).2 h]at i;cases i
  exact z m (F m g ⟨c,h1⟩)
 refine h.swap H I (T:=λm=>m∈tl) hT (new:=[(e,j)]) U X V W B ?_ ?_ ?_ ?_ ?_ ?_ ?_
 .grind [lk]
 .grind [lk]
 .grind [lk]
 .grind [lk]
 .grind [lk]
 .intro m o f;rcases D m o f with ⟨rfl,rfl⟩|⟨h1,i,c,g,rfl⟩
  .rw[r];exact R _ rfl O
  rw[z m h1];refine ZV hk (λb l=>B b ((h.objs m c g).block_lt l) λn hn A=>?_) (h.objs m c g);obtain⟨_,ae,k,_⟩:=hT n hn;exact i ((h.dist m n b ⟨_,g⟩ ⟨_,k⟩ l A)▸hn)
 intro s x hs;rw[Mo a d u s (by rw[h.nt];exact N)];simp only[S,lk]at hs;split at hs
 .rename_i es;cases hs;rw[At es];exact M _ ⟨j,by simp[S,lk]⟩ r
 rename_i es;rw[An es];rw[GH]at hs;simp only[OF]at hs;obtain⟨y,Y,rfl⟩:=hs;exact(TP (h.env s y Y)).keeps hk
theorem ZH.move {V:Vw} {a:TypeId} {k e:Ty} {hole:Bool} {cells cells':List Value} {i i':Nat} {x:k.den×List e.den} {u:Value} (h:ZH V a k e hole cells i x u)
  (c:∀(j:Nat) (z:Value),cells[i*(k.size+1)+j]?=some z->cells'[i'*(k.size+1)+j]?=some z):ZH V a k e hole cells' i' x u :=
 let ⟨c1,v,h1,b⟩:=h
 ⟨c1,v,λj z d=>c j z (h1 j z d),b⟩
theorem Xf {V V':Vw} {et A:TypeId} {k e:Ty} {xs ys:List (k.den×List e.den)} {o D z:Value} {ins f cells m:List Value} (h1:Ky V et A k e xs none o ins cells) (p:Ky V E A k e ys none D f m)
  (r:∀b,bk (.tuple (o :: ins).toArray) b->bk (.tuple (D :: f).toArray) b->False)
  (K:V'.w.ownsRow 0 et (k.size+1) z (xs.length+ys.length) (cells++m)) (L:blk z=blk o\/∀b,blk z=some b->V.w.heap.size<=b)
  (B:∀b,b<V.w.heap.size->blk o≠some b->V'.w.heap[b]?=V.w.heap[b]?) (hk:Cv ⟨V.w,V.O,λ_=>False,V.ρ⟩ V') (I:xs.length+ys.length<=AP) :
  Ky V' et A k e (xs++ys) none z (ins++f) (cells++m):=by
 have F:cells.length=xs.length*(k.size+1):=h1.own.1;have G:∀(i b:Nat) (u:Value),ins[i]?=some u->blk u=some b->b<V.w.heap.size:=λi b u hi c=>h1.block_lt (BJ.2 (.inr ⟨i,u,hi,c⟩));have H:∀(i b:Nat) (u:Value),f[i]?=some u->blk u=some b->b<V.w.heap.size:=λi b u hi c=>p.block_lt (BJ.2 (.inr ⟨i,u,hi,c⟩));have C:∀(i b:Nat) (u:Value),f[i]?=some u->blk u=some b->blk o≠some b:=λi b u hi c J=>r b (BJ.2 (.inl J)) (BJ.2 (.inr ⟨i,u,hi,c⟩));have y:∀(i:Nat) (u:Value),(ins++f)[i]?=some u->(i<xs.length/\ins[i]?=some u)\/(xs.length<=i/\f[i-xs.length]?=some u):=by
  intro i u hi;rw[AAW]at hi;split at hi
  .rename_i h;rw[h1.len]at h;exact .inl ⟨h,hi⟩
  rename_i h;rw[h1.len]at h hi;exact .inr ⟨O1,hi⟩
 have M:∀b,blk z=some b->(∃(i:Nat) (u:Value),ins[i]?=some u/\blk u=some b)\/(∃(i:Nat) (u:Value),f[i]?=some u/\blk u=some b)->False:=by
  intro b c hi;rcases L with d|d
  .rw[d]at c;rcases hi with ⟨i,u,a,g⟩|⟨i,u,a,g⟩
   .exact h1.out i b u a g c
   exact C i b u a g c
  grind
 refine⟨by rw[IS];exact I,by rw[IS,IS,h1.len,p.len],by rw[IS];exact K,λi x u l hu=>?_,λi j b u v hi s hu q=>?_,λi b u hi c N=>?_⟩
 .rcases y i u hu with ⟨d,a⟩|⟨d,a⟩
  .have l:xs[i]?=some x:=by rwa [AAm d]at l
   have t:=(h1.row i x u l a).move (cells':=cells++m) (i':=i) λj z s=>by grind
   exact ZH.keeps (V:=⟨V.w,V.O,λ_=>False,V.ρ⟩) hk (λb c=>B b (G i b u a c) (h1.out i b u a c)) t
  have l:ys[i-xs.length]?=some x:=by rwa [AAa d]at l
  have t:=(p.row _ x u l a).move (cells':=cells++m) (i':=i) λj z s=>by
   have g:i*(k.size+1)=cells.length+(i-xs.length)*(k.size+1):=by
    rw[F,<-ACp];congr 1;omega
   grind
  exact ZH.keeps (V:=⟨V.w,V.O,λ_=>False,V.ρ⟩) hk (λb c=>B b (H _ b u a c) (C _ b u a c)) t
 .rcases y i u hi with ⟨d,a⟩|⟨d,a⟩<;>rcases y j v s with ⟨g,n⟩|⟨g,n⟩
  .exact h1.dist i j b u v a n hu q
  .exact(r b (BJ.2 (.inr ⟨i,u,a,hu⟩)) (BJ.2 (.inr ⟨_,v,n,q⟩))).elim
  .exact(r b (BJ.2 (.inr ⟨j,v,n,q⟩)) (BJ.2 (.inr ⟨_,u,a,hu⟩))).elim
  have:=p.dist _ _ b u v a n hu q;omega
 grind
theorem xZ (V:Vw) (et a:TypeId) (k e:Ty):Ky V et a k e [] none (.slice none 0 0) [] [] :=
 ⟨by simp[AP],rfl,ABV V.w 0 et _,λi x u h=>by simp at h,λi j b u v h=>by simp at h,λi b u h=>by simp at h⟩
theorem Ll {w:World} {base:Nat} {et:TypeId} {sz b n:Nat} {loc v:Value} {cells:List Value} (f:w.ownsRow base et sz loc n cells) (h:DS loc b 0 n v):v=loc:=by
 obtain⟨a,m,c,rfl,_,_,d,e,rfl,_,h0,_⟩:=h;grind [KB]
theorem A3x {w:World} {O:Nat->Prop} {et:TypeId} {xs:List e.den} {loc:Value} {cells:List Value} (d:xs.length<=AP) (a:w.ownsRow 0 et e.size loc xs.length cells) (c:Dp w O e cells xs):Src w O e loc xs cells:=by
 refine⟨?_,a.1,c,XZ (V:=⟨w,O,λ_=>False,λ_=>undef⟩) a c,d⟩;rcases a.2 with ⟨b,hn⟩|⟨g,cap,f,b,_⟩
 .grind
 subst b;exact⟨some ⟨g,0,none⟩,cap,rfl,.inr ⟨_,rfl,a.cells (g:=g) rfl⟩⟩
theorem PT {V:Vw} {et a:TypeId} {k e:Ty} {xs:List (k.den×List e.den)} {o:Value} {ins cells:List Value} (h:Ky V et a k e xs none o ins cells):Src V.w (λ_=>False) (.agg (.prod k (.slice e))) o xs cells :=
 A3x (e:=.agg (.prod k (.slice e))) (xs:=xs) h.max h.own (N8 (λ_ _ h=>h) h λ_ _ _ _ _ h=>h)
theorem Q4 {V:Vw} {et c:TypeId} {k e:Ty} {xs:List (k.den×List e.den)} {a:Option Nat} {loc:Value} (b:BB V (.nest et c k e xs a) loc):seat loc:=by
 obtain⟨o,ins,cells,a,_⟩:=b;exact a.elim (λh=>.inr ⟨_,h⟩) (λh=>.inl ⟨_,_,_,h.1⟩)
theorem x4 (hs:CB w0 K O0 nt ds σ ρ a w) (T:∀b,K b->b<w0.heap.size) (V:∀b,O0 b->b<w0.heap.size) (hT:DB P tb) {d:Nat} (W:d<nt) {ty:TypeId} {x:Operand} {n m hi C:Nat} {E A:Ty} {k e:Ty}
  (f:Ai σ x=some (.sr n E 0 hi)) (g:Ai σ y=some (.sr m A 0 C)) {et v:TypeId} {xs ys:List (k.den×List e.den)} (hn:lk n σ.objs=some (.nest et v k e xs none)) (D:lk m σ.objs=some (.nest R v k e ys none)) (Z:n≠m)
  (ah:G0 n=false) (ag:G0 m=false) (hu:P.underlying t=some (.slice et)) {te:TI} (J:lk et tb.ty=some te) (L:te.ty=.agg (.prod k (.slice e))) (ab:hi=xs.length) (ad:C=ys.length) (M:(xs.length+ys.length)*te.bytes<=AP) :
  ∃z w' ρ',(Builtin.append_ #[t,t] ty #[a.eval x,a.eval y]).run P w=.ok z w' /\
   CB w0 K O0 nt ds ⟨(d,.sr n (.agg (.prod k (.slice e))) 0 (xs.length+ys.length)) :: C2 [n,m] σ.env,(n,.nest et v k e (xs++ys) none) :: A4 [n,m] [n,m] σ.objs⟩ ρ' (a.put (some d) z) w':=by
 subst ab ad;have B:EX (vw w O0 σ ρ) σ a.eval:=Ci hs.env;have F:=hs.objs n _ hn;have G:=hs.objs m _ D;have aj:=Q4 F;have ak:=Q4 G;obtain⟨o,ins,cells,p,l⟩:=F;obtain⟨al,O,Q,s,q⟩:=G;obtain⟨_,f⟩:=B x _ f;obtain⟨_,g⟩:=B y _ g;have f:DS (plc (ρ n)) E.size 0 xs.length (a.eval x):=f;have g:DS (plc (ρ m)) A.size 0 ys.length (a.eval y):=g;rw[p.plc]at f;rw[s.plc]at g;have f:=Ll l.own f;have g:=Ll q.own g;rw[f,g];obtain⟨z,w',I,H,h,X⟩:=GG (ty:=ty) hT hu J L l.own (PT q) M (Do _);have N:=HJ (ty:=ty) hT hu J L l.own (PT q) M I;rw[TQ l.own]at h;refine⟨z,w',_,I,hs.swap1 (loc:=.tuple (z :: (ins++O)).toArray) T V (tl:=[n,m]) (λj ai=>?_) (.inl sc) h.os h.tape h.output h.size ?_ ?_ ?_ W ?_⟩
 .grind
 .exact λb c aa=>h.block b c λr=>aa n sc (p.bk.2 (BJ.2 (.inl r.symm)))
 .intro b c;rcases BJ.1 c with c|⟨i,u,hi,c⟩
  .rcases N with h1|h1
   .exact .inl ⟨n,sc,p.bk.2 (BJ.2 (.inl (by rw[<-h1];exact c)))⟩
   exact .inr (h1 b c)
  rw[AAW]at hi;split at hi
  .exact .inl ⟨n,sc,p.bk.2 (BJ.2 (.inr ⟨_,u,hi,c⟩))⟩
  exact .inl ⟨m,sc,s.bk.2 (BJ.2 (.inr ⟨_,u,hi,c⟩))⟩
 .intro V' ae hk;subst ae;refine⟨z,ins++O,cells++Q,.inl rfl,Xf l q (λb h1 S=>?_) H N (λb c Y=>h.block b c λr=>Y r.symm) hk X⟩;exact Z (hs.dist n m b ⟨_,hn⟩ ⟨_,D⟩ (p.bk.2 h1) (s.bk.2 S))
 intro V' U af;refine⟨U,?_⟩;show DS (plc (V'.ρ n)) _ 0 _ z;rw[af];exact GE H
theorem A3y (hs:CB w0 K O0 nt ds σ ρ a w) (M:∀b,K b->b<w0.heap.size) (O:∀b,O0 b->b<w0.heap.size) (hT:DB P tb) {d:Nat} (Q:d<nt) {ty:TypeId} {x:Operand} {m v:Nat} {q:Ty} {e:Ty}
  (o:Ai σ x=some (.raw (.slice none 0 0))) (f:Ai σ y=some (.sr m q 0 v)) {et L:TypeId} {ys:List (k.den×List e.den)} (S:lk m σ.objs=some (.nest L p k e ys none)) (R:lk d σ.objs=none)
  (Z:G0 m=false) (hu:P.underlying t=some (.slice et)) {te:TI} (E:lk et tb.ty=some te) (F:te.ty=.agg (.prod k (.slice e))) (V:v=ys.length) (G:ys.length*te.bytes<=AP) :
  ∃z w' ρ',(Builtin.append_ #[t,t] ty #[a.eval x,a.eval y]).run P w=.ok z w' /\
   CB w0 K O0 nt ds ⟨(d,.sr d (.agg (.prod k (.slice e))) 0 ys.length) :: C2 [m] σ.env,(d,.nest et p k e ys none) :: A4 [m] [m] σ.objs⟩ ρ' (a.put (some d) z) w':=by
 subst V;have s:EX (vw w O0 σ ρ) σ a.eval:=Ci hs.env;have A:=hs.objs m _ S;have ad:=Q4 A;obtain⟨ae,I,J,D,l⟩:=A;have o:a.eval x=.slice none 0 0:=s x _ o;obtain⟨_,f⟩:=s y _ f;have f:DS (plc (ρ m)) q.size 0 ys.length (a.eval y):=f;rw[D.plc]at f;have f:=Ll l.own f;rw[o,f];have h:=xZ (vw w O0 σ ρ) et p k e;obtain⟨z,w',C,B,g,T⟩:=GG (ty:=ty) hT hu E F h.own (PT l) (by simpa using G) (Do _);have H:=HJ (ty:=ty) hT hu E F h.own (PT l) (by simpa using G) C;rw[TQ h.own]at g;refine⟨z,w',_,C,hs.swap1 (loc:=.tuple (z :: ([]++I)).toArray) M O (tl:=[m]) (λj aa=>?_) (.inr R) g.os g.tape g.output g.size ?_ ?_ ?_ Q ?_⟩
 .grind
 .exact λb c ab=>g.block b c λn=>by simp[blk]at n
 .intro b c;rcases BJ.1 c with c|⟨i,u,hi,c⟩
  .rcases H with h1|h1
   .grind [blk]
   exact .inr (h1 b c)
  exact .inl ⟨m,sc,D.bk.2 (BJ.2 (.inr ⟨_,u,by simpa using hi,c⟩))⟩
 .intro V' W hk;subst W;refine⟨z,[]++I,[]++J,.inl rfl,?_⟩;have:=Xf h l (λb h1 Y=>?_) B H (λb c U=>g.block b c λn=>U n.symm) hk T
  .simpa using this
  grind [BJ,blk]
 intro V' N X;refine⟨N,?_⟩;show DS (plc (V'.ρ d)) _ 0 _ z;rw[X];have r:=GE B;simp only[AAl,AAY]at r;exact r
theorem jQ (hs:CB w0 K O0 nt ds σ ρ a w) (s:∀b,K b->b<w0.heap.size) (A:∀b,O0 b->b<w0.heap.size) (hT:DB P tb) {d:Option Nat} (B:∀k,d=some k->k<nt) {u ty:TypeId} {x:Operand}
  (h:Db tb σ d t u (Ai σ x) (Ai σ y)=some (vc,σ')) (q:vc) :
  ∃z w' ρ',(Builtin.append_ #[t,u] ty #[a.eval x,a.eval y]).run P w=.ok z w'/\CB w0 K O0 nt ds σ' ρ' (a.put d z) w':=by
 by_cases M:∃n e hi,Ai σ x=some (.sr n e 0 hi)/\C9 (lk n σ.objs)=false
 .exact jO hs s A hT B h q M
 unfold Db at h;split at h
 .rename_i n e hi v j r;split at h
  .rename_i d;split at h
   .rename_i p;obtain⟨rfl,I⟩:=p;cases f:lk t tb.ty with
    | none=>rw[f]at h;simp[E6]at h
    | some ti =>
     rw[f]at h;unfold E6 at h;split at h
     .rename_i Q offs el b F;cases F;split at h
      .rename_i G;subst G;obtain⟨hu,N,te,g,o⟩:=Cf (hT _ _ f) hT;rw[g]at h;unfold Cl at h;split at h
       .rename_i ti et L xs h1 hn;exact absurd ⟨n,_,hi,j,by rw[hn];rfl⟩ M
       .rename_i ti et O k L xs h1 hn;cases h1;split at h
        .rename_i c;obtain⟨rfl,rfl⟩:=c;unfold UO at h;split at h
         .rename_i m E V;unfold N3 at h;split at h
          .rename_i S ad aa R ys J;split at h
           .rename_i c;obtain⟨rfl,W,H⟩:=c;cases D:BZ (.slice (.agg (.prod k (.slice L)))) ⟨.slice (.agg (.prod aa (.slice R))),ys⟩ with
            | none=>rw[D]at h;simp[LZ]at h
            | some af =>
             obtain⟨l,T⟩:=Bw D;injection l with l
             injection l with l C
             injection C with C
             subst l C;cases T;rw[D]at h;simp only[LZ]at h;cases h;obtain⟨X,Y,Z⟩:=q;exact x4 hs s A hT (B _ rfl) j r hn J W I H hu g o X Y Z
           cases h
          cases h
         cases h
        cases h
       cases h
      cases h
     cases h
   cases h
  cases h
 .rename_i n e i len v j r;split at h
  .rename_i d;split at h
   .rename_i p;subst p;cases f:lk t tb.ty with
    | none=>rw[f]at h;simp[PE]at h
    | some ti =>
     rw[f]at h;unfold PE at h;split at h
     .rename_i Q offs el b F;cases F;split at h
      .rename_i G;subst G;obtain⟨hu,N,te,g,o⟩:=Cf (hT _ _ f) hT;rw[g]at h;unfold R9 at h;split at h
       .rename_i ti et O k ab xs h1 hn;cases h1;split at h
        .rename_i c;obtain⟨rfl,rfl,I⟩:=c;exact A3w hs s A hT (B _ rfl) j r hn I hu g o h q
        cases h
       cases h
      cases h
     cases h
   cases h
  cases h
 .rename_i v j r;split at h
  .rename_i d;split at h
   .rename_i p;subst p;unfold b5 at h;split at h
    .rename_i m E V ae offs el b f;obtain⟨hu,N,te,g,o⟩:=Cf (hT _ _ f) hT;rw[g]at h;unfold SB at h;split at h
     .rename_i ti S O k e ys h1 J;cases h1;split at h
      .rename_i c;subst c;unfold SA at h;split at h
       .rename_i c;obtain⟨U,H⟩:=c;cases h;exact A3y hs s A hT (B _ rfl) j r J (by simpa using U) H hu g o q.1 q.2
       cases h
      cases h
     cases h
    cases h
   cases h
  cases h
 cases h
theorem jR (hs:CB w0 K O0 nt ds σ ρ a w) (t:∀b,K b->b<w0.heap.size) (u:∀b,O0 b->b<w0.heap.size) (hT:DB P tb) {id:TypeId} {x:Operand} (h:I0 σ (lk id tb.ty) (Ai σ x) (Ai σ y)=some (vc,σ')) (F:vc) :
  ∃w' ρ',(Instr.storeAt id (a.eval x) (a.eval y)).run P w=.ok () w'/\CB w0 K O0 nt ds σ' ρ' a w':=by
 by_cases C:∃n e i o off,Ai σ x=some (.ep n e i o off)/\C9 (lk n σ.objs)=true
 .obtain⟨n,e,i,o,off,g,f⟩:=C;unfold I0 at h;split at h
  .grind
  .rename_i ti M H i' O N v ht l G;rw[g]at l;cases l;unfold Da at h;split at h
   .rename_i hn;rw[hn]at f;cases f
   .rename_i et J k I xs j hn;split at h
    .rename_i m E hi;split at h
     .rename_i c;obtain⟨rfl,rfl,s⟩:=c;subst s;unfold N4 at h;split at h
      .rename_i c;obtain⟨D,rfl,rfl⟩:=c;unfold N2 at h;split at h
       .rename_i L p ys B;split at h
        .rename_i c;obtain⟨rfl,z,A⟩:=c;cases d:BZ (.slice E) ⟨.slice p,ys⟩ with
         | none=>rw[d]at h;simp[LY]at h
         | some Q =>
          obtain⟨q,r⟩:=Bw d;subst q;cases r;rw[d]at h;simp only[LY]at h;cases h;exact xY hs t u hT ht D g G hn B A z F
        cases h
       cases h
      cases h
     cases h
    cases h
   cases h
  cases h
 grind [s8,C9,lk]
end
end
end Go.Proofs.YtglkoagnnnpimaaGreatDoor.Fw
