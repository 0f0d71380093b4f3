/- Calls by contract; stores; appends. -/
import Derived.Test.YtglkoagnnnpimaaGreatDoorEZC
import Derived.CallsIn
import Derived.TacticsIn
import Derived.OrdersIn
import Derived.RangeFuncCalls
set_option linter.unusedVariables false
set_option linter.unusedSimpArgs false
namespace Go.Proofs.YtglkoagnnnpimaaGreatDoor.Fw
variable {t E B R p:TypeId} {x:AV} {g y:Operand} {e k:Ty} {v:Value} {Z:List Nat} {Y:List Value} {X:TI} {w W:World} {o:Oper} {a:Act} {K c:Nat->Prop} {n:Nat} {l:List AV} {V:Bool}
section
open Go Go.RowKit
abbrev ACw:=@Go.Oper.uponIn_enter
def PC (w:World) (O:Nat->Prop):(ts:List Ty)->List Value->IV ts->Prop
 | [],a,_=>a=[]
 | t :: ts,a,ds=>∃(v:Value) (r:List Value),a=v :: r/\BX w O t v ds.1/\PC w O ts r ds.2
def FR (r:Option Nat):Fence:={ fn:=λ_=>True,depth:=none,alive:=false,round:=r }
theorem Hr {r:Option Nat} {P:Program} {f:FuncId} {args:Array Value} {R:Ending->World->Prop} (h:Calls P f args w R):CallsIn (FR r) n P f args w R:=by
 cases r with
 | none=>exact callsIn_wide.2 h
 | some l=>exact((callsIn_wide.2 h:CallsIn Fence.wide n P f args w R).inRound l:CallsIn _ n P f args w R)
theorem EZ (r:Option Nat) (ρ:Operand->Value) (o:Oper) (h:∀c,o.op≠.defer c):o.semAt r ρ=execOp ρ o:=by
 cases r with
 | none=>exact Oper.semAt_none ρ o
 | some l=>exact Oper.semAt_some l ρ o h
def xC (w:World) (O:Nat->Prop) (outs:List RV) (u:Value) (w':World):Prop :=
 ∀nm:Nat,∃ρ',QS w O ⟨[],[]⟩ (λ_=>undef) (Hm nm outs) (C6 nm outs) u ρ' w'
def gls:List (Nat×PV):=[(0,⟨.slice (.agg (.prod .str .str)),([(⟨#[104]⟩,⟨#[104,97,110,100,108,101]⟩),(⟨#[101]⟩,⟨#[101,118,101,110,116]⟩),(⟨#[120]⟩,⟨#[101,110,116,105,116,121]⟩),(⟨#[105]⟩,⟨#[105,110,100,101,120]⟩)]:List (ByteArray×ByteArray))⟩)]
def GW (w:World) (K O:Nat->Prop):Prop:=∀x∈gls,K x.1/\¬O x.1/\∃cs:List Value,(∀(j:Nat) (u:Value),cs[j]?=some u->w.cell? ⟨x.1,j,none⟩=some u)/\Bw w (λb=>¬K b\/O b) x.2.t cs x.2.d
theorem GW.mono {w':World} {O O':Nat->Prop} (h:GW w K O) (d:∀b,K b->¬O b->c b/\¬O' b) (e:∀b,K b->w'.heap[b]?=w.heap[b]?):GW w' c O':=λx q=>by
 obtain⟨h1,f,cs,g,i⟩:=h x q;obtain⟨k,l⟩:=d _ h1 f;refine⟨k,l,cs,λj u o=>?_,i.mono (λb _ hn p=>?_) λb _ hn=>e b (DO λhk=>hn (.inl hk))⟩
 .rw[ACb (w:=w) (w':=w')]
  .exact g j u o
  exact e _ h1
 have hk:K b:=DO λhk=>hn (.inl hk);have a:¬O b:=λa=>hn (.inr a);obtain⟨m,n⟩:=d b hk a;rcases p with h|h
 .exact h m
 exact n h
def A6L (P:Program) (f:FuncId) (sp:Ab):Prop :=
 ∀(w:World) (O:Nat->Prop) (a:List Value) (ds:IV sp.ins),(∀b,O b->b<w.heap.size)->GW w (λb=>b<w.heap.size) O->PC w O sp.ins a ds->sp.pre ds ->
  Calls P f a.toArray w λe w'=>∃u,e=.returned u/\xC w O (sp.out ds) u w'
def Af (P:Program) (f:FuncId) (sp:Ab):Prop :=
 (∃ fn : Func, P.funcs[f]? = some fn /\ (fn.name == "runtime.NumGoroutine") = false /\ fn.body.isNone = false) /\ A6L P f sp
def Id (P:Program) (tb:Tb):Prop:=∀f sp,lk f tb.fns=some sp->Af P f sp
theorem PD {w w':World} {O O':Nat->Prop}:∀ {t:Ty} {cs:List Value} {d:t.den},t.flat=true->Bw w O t cs d->Bw w' O' t cs d
 | .int _,_,_,_,h=>h
 | .bool,_,_,_,h=>h
 | .str,_,_,_,h=>h
 | .ref _,_,_,_,h=>h
 | .slice _,_,_,hf,_=>by simp[Ty.flat]at hf
 | .prod a b,_,_,hf,h=>by
  simp only[Ty.flat,AT]at hf;obtain⟨c1,c2,rfl,h1,c⟩:=h;exact⟨c1,c2,rfl,PD hf.1 h1,PD hf.2 c⟩
 | .agg t,cs,d,hf,h=>by
  simp only[Ty.flat]at hf;have h:Bw w O t cs d:=h;exact(PD hf h:Bw w' O' t cs d)
theorem XX {w':World} {O O':Nat->Prop} {t:Ty} {d:t.den} (hf:t.flat=true) (h:BX w O t v d):BX w' O' t v d :=
 let ⟨cs,h1,a⟩:=h
 ⟨cs,PD hf h1,a⟩
theorem R8:∀ {l:List RV} (nm:Nat),l.all RV.flat=true->C6 nm l=[]
 | [],_,_=>rfl
 | .p t d :: l,nm,h=>by
  simp only[ABJ,AT]at h;simp[C6,UA,R8 (nm+10000) h.2]
 | .own _ _ _ :: l,nm,h=>by simp[RV.flat]at h
theorem xD {r:RV} (h:r.flat=true) (nm:Nat):∃t d,jE nm r=.p t d/\t.flat=true:=by
 cases r with
 | p t d=>exact⟨t,d,rfl,h⟩
 | own _ _ _=>simp[RV.flat]at h
theorem xE {V V':Vw}:∀ {l:List RV} {nm:Nat} {a:List Value},l.all RV.flat=true->Ho V (Ib nm l) a->Ho V' (Ib nm l) a
 | [],_,_,_,h=>h
 | r :: l,nm,a,hf,h=>by
  simp only[ABJ,AT]at hf;obtain⟨v,c,rfl,h1,b⟩:=h;obtain⟨t,d,e,ht⟩:=xD hf.1 nm;refine⟨v,c,rfl,?_,xE hf.2 b⟩;rw[e]at h1 ⊢;exact XX ht h1
theorem xF {V V':Vw} {l:List RV} {nm:Nat} {u:Value} (hf:l.all RV.flat=true) (h:B4 V (Hm nm l) u):B4 V' (Hm nm l) u:=by
 match l,hf,h with
 | [],_,h=>exact h
 | [r],hf,h =>
  simp only[ABJ,List.all_nil,Bool.and_true]at hf;obtain⟨t,d,e,ht⟩:=xD hf nm;simp only[Hm]at h ⊢;rw[e]at h ⊢;exact XX ht h
 | b :: c :: l,hf,h =>
  obtain⟨a,rfl,h1⟩:=h;exact⟨a,rfl,xE hf h1⟩
section
variable {P:Program} {tb:Tb} {w:World} {O0:Nat->Prop} {σ:St} {ρ:Nat->Value} {vc:Prop} {v:AV} {obs:List (Nat×Obj)}
theorem QS.call {outs:List RV} {nm:Nat} {u:Value} {ρ':Nat->Value} {w':World} (hf:Bk (C6 nm outs) σ=true)
  (h:QS w (own O0 σ ρ) ⟨[],[]⟩ (λ_=>undef) (Hm nm outs) (C6 nm outs) u ρ' w') :
  QS w O0 σ ρ (Hm nm outs) (C6 nm outs) u (λn=>if (lk n (C6 nm outs)).isSome then ρ' n else ρ n) w':=by
 have e:∀n,G0 (Dq ⟨[],[]⟩ (C6 nm outs)) n↔∃o,lk n (C6 nm outs)=some o:=λn=>by simp[G0,Dq]
 have hk:Cq (vw w' (own O0 σ ρ) (Dq ⟨[],[]⟩ (C6 nm outs)) ρ') (vw w' O0 (Dq σ (C6 nm outs)) (λn=>if (lk n (C6 nm outs)).isSome then ρ' n else ρ n)):=by
  refine⟨?_,?_,?_,λ_ _ _=>rfl⟩
  .intro b _ c d;rcases d with h0|⟨n,g,hn⟩
   .exact c (.inl (.inl h0))
   rcases Le g with ⟨o,a⟩|⟨j,i⟩
   .refine c (.inr ⟨n,(e n).2 ⟨o,a⟩,?_⟩);simpa[a] using hn
   refine c (.inl (.inr ⟨n,i,?_⟩));simpa[j] using hn
  .intro n hn;obtain⟨o,a⟩:=(e n).1 hn;exact⟨o,by simp[Dq,BD,a]⟩
  intro n hn;obtain⟨o,a⟩:=(e n).1 hn;simp[vw,a]
 refine⟨h.below,λn hn=>by simp[hn],h.av.keeps hk,λn o a=>?_,λn o b a c=>?_,λn m o k b a f c d=>?_⟩
 .simp only[a,ACL,ABa];exact(h.obj n o a).keeps hk (λ_ _=>rfl)
 .simp only[a,ACL,ABa]at c;exact h.new n o b a c
 simp only[a,f,ACL,ABa]at c d;exact h.dist n m o k b a f c d
theorem ZQ {V:Vw} {O':Nat->Prop} {l:Bool} (c:∀b,¬V.O b->¬O' b) (f:l=true->∀b,¬O' b) (e:∀n o,lk n σ.objs=some o->BC V o (V.ρ n)) {ev:Operand->Value} (d:EY V σ ev) :
  ∀ {ts:List Ty} {xs:List Operand} {ds:IV ts},Gb l σ ts xs=some ds->PC V.w O' ts (xs.map ev) ds
 | [],[],ds,h=>rfl
 | [],_ :: _,ds,h=>by simp[Gb]at h
 | _ :: _,[],ds,h=>by simp[Gb]at h
 | t :: ts,x :: xs,ds,h=>by
  simp only[Gb]at h;cases a:Aj σ x with
  | none=>rw[a]at h;cases h
  | some av =>
   rw[a]at h;simp only at h;split at h
   .rename_i y ys g i;cases h;exact⟨ev x,xs.map ev,rfl,FT c f e g (d x av a),ZQ c f e d i⟩
   cases h
theorem A6M (J:Id P tb) (y:GW w (λb=>b<w.heap.size) (own O0 σ ρ)) (A:∀n o,lk n σ.objs=some o->BC (vw w O0 σ ρ) o (ρ n)) (O:∀b,own O0 σ ρ b->b<w.heap.size) (m:EY (vw w O0 σ ρ) σ a.eval) {d:Nat} {xs:List Operand} 
  {ts:Array TypeId} (z:o.op=.call { callee:=.value g,args:=xs.toArray,argTypes:=ts })
  (h:NM tb σ d xs (Aj σ g)=some (vc,v,obs)) (C:vc) (hf:Bk obs σ=true) {next:Act->World->Prop} {Q:Exit->Act->World->Prop} {r:Option Nat}
  (hn:∀u ρ' w',QS w O0 σ ρ v obs u ρ' w'->next (a.put o.dst u) w'):o.wpIn (FR r) 0 P a w next Q:=by
 cases p:Aj σ g with
 | none=>rw[p]at h;simp[NM]at h
 | some D =>
  rw[p]at h;have L:=m g D p;unfold NM at h;split at h
  .rename_i f H;cases H;have K:a.eval g=.func (.func f) #[] #[]:=L;cases t:lk f tb.fns with
   | none=>rw[t]at h;simp[KC]at h
   | some sp =>
    rw[t]at h;simp only[KC]at h;cases i:Gb sp.lend σ sp.ins xs with
    | none=>rw[i]at h;simp[LT]at h
    | some ds =>
     rw[i]at h;simp only[LT]at h;split at h
     .rename_i j;cases h;obtain⟨⟨fn,I,N,G⟩,B⟩:=J f sp t;have R:(execOp a.eval o).run P w=.ok (.enter f (xs.map a.eval).toArray) w:=by
       have h1 : ¬ fn.name = "runtime.NumGoroutine" := by simpa using N
       have E:¬fn.body=none:=by intro e;simp[e]at G
       simp[execOp,z,resolve,Deferred.ofValue,K,invoke,callFunc,I,h1,E]
      refine⟨λ_ _=>trivial,?_⟩;rw[EZ _ _ _ (λc e=>by rw[z]at e;cases e),R,ACw];refine⟨λh=>(by simp[FR]at h),Hr ?_⟩;by_cases q:sp.lend=true
      .rw[q]at i;have x:(sp.out ds).all RV.flat=true:=by
        rcases j with j|j
        .rw[q]at j;cases j
        exact j
       have l:=ZQ (V:=vw w O0 σ ρ) (O':=λ_=>False) (λ_ _ h=>h) (λ_ _ h=>h) A m i;refine(B w (λ_=>False) _ ds (λ_ h=>h.elim) (y.mono (λb F _=>⟨F,id⟩) λ_ _=>rfl) l C).mono λe w' hh=>?_;obtain⟨u,rfl,s⟩:=hh;obtain⟨ρ',k⟩:=s d;refine hn u ρ w' ?_;rw[R8 d x]at k ⊢;exact⟨k.below,λ_ _=>rfl,xF x k.av,(λ_ _ h=>by cases h),(λ_ _ _ h=>by cases h),(λ_ _ _ _ _ h=>by cases h)⟩
      have M:sp.lend=false:=by simpa using q
      rw[M]at i;have l:=ZQ (V:=vw w O0 σ ρ) (O':=own O0 σ ρ) (λ_ h=>h) (λh=>by cases h) A m i;refine(B w (own O0 σ ρ) _ ds O y l C).mono λe w' hh=>?_;obtain⟨u,rfl,s⟩:=hh;obtain⟨ρ',k⟩:=s d;exact hn u _ w' (QS.call hf k)
     cases h
  cases h
end
end
section
open Go Go.RowKit
section
variable {P:Program} {tb:Tb} {w:World} {O0:Nat->Prop} {σ:St} {ρ:Nat->Value} {vc:Prop} {v:AV} {obs:List (Nat×Obj)}
theorem Ah {u:Value} {w':World} {next:Act->World->Prop} {Q:Exit->Act->World->Prop} {r:Option Nat} (h:(execOp a.eval o).run P w=.ok (.value u) w') (hn:next (a.put o.dst u) w') (b:∀c,o.op≠.defer c:=by intro c e;cases e):o.wpIn (FR r) 0 P a w next Q:=by
 refine⟨λ_ _=>trivial,?_⟩;rw[EZ _ _ _ b,h];exact hn
theorem xG {V:Vw} (x:Value):B4 V (Ia x) x:=by
 unfold Ia;split
 .rename_i k n;split
  .rename_i h;exact BW h
  exact(rfl:(Value.int k n)=_)
 .exact Bo _
 .rename_i s;split
  .rename_i h;exact UK h
  exact(rfl:(Value.string s)=_)
 exact(rfl:x=x)
theorem Cg {V:Vw} (h:∀s v,lk s σ.env=some v->B4 V v (a.tmps.getD s undef)):EY V σ a.eval:=by
 intro x v b;cases x with
 | tmp t=>exact h t v b
 | const c=>simp only[Aj]at b;cases b;exact xG c
 | global g=>simp[Aj]at b
 | func f=>simp only[Aj]at b;cases b;rfl
structure A95 (P:Program) (tb:Tb) (w:World) (O0:Nat->Prop) (σ:St) (ρ:Nat->Value) (a:Act):Prop where
 hT:C7 P tb
 hF:Id P tb
 hG:GW w (λb=>b<w.heap.size) (own O0 σ ρ)
 obj:∀n o,lk n σ.objs=some o->BC (vw w O0 σ ρ) o (ρ n)
 own:∀b,own O0 σ ρ b->b<w.heap.size
 ev:EY (vw w O0 σ ρ) σ a.eval
theorem QS.toP {d n:Nat} {xs:List e.den} {u:Value} {ρ':Nat->Value} {w':World} (hown:∀b,own O0 σ ρ b->b<w.heap.size) (hf:Bk [(d,.arr t e xs)] σ=true)
  (hq:QS w O0 σ ρ (.sr d e 0 n) [(d,.arr t e xs)] u ρ' w') (hn:n=xs.length):QS w O0 σ ρ (.p (.slice e) xs) [] u ρ w' where
 below:=hq.below
 rho:=λ_ _=>rfl
 av:=by
  have hO:∀b,¬own O0 (Dq σ [(d,.arr t e xs)]) ρ' b->¬own O0 (Dq σ []) ρ b:=by
   intro b hb hb';rcases hb' with h0|⟨m,⟨o,hm⟩,hmb⟩
   .exact hb (.inl h0)
   have hm:lk m σ.objs=some o:=hm;have hne:lk m [(d,Obj.arr t e xs)]=none:=by grind [lk,Nv]
   refine hb (.inr ⟨m,⟨o,by simp only[Dq,BD,hne];simpa using hm⟩,?_⟩);rw[hq.rho m hne];exact hmb
  have hd:lk d [(d,Obj.arr t e xs)]=some (.arr t e xs):=by simp[lk]
  have hb:∀b,bk (ρ' d) b->¬own O0 (Dq σ []) ρ b:=λb hb hb'=>by
   have h1:=hq.new d _ b hd hb;have h2:=hown b hb';omega
  have hr:=ZH (V:=vw w' O0 (Dq σ [(d,.arr t e xs)]) ρ') hO (λb hb'=>hb b (.inl hb')) (hq.obj d _ hd) hq.av.2;rw[hn,J2]at hr;obtain⟨_,_,_,_,_,_,a',c',hve,_⟩:=hq.av.2;exact⟨[u],hr,by rw[hve];rfl⟩
 obj:=λ_ _ h=>by cases h
 new:=λ_ _ _ h=>by cases h
 dist:=λ_ _ _ _ _ h=>by cases h
theorem XA {id:TypeId} (hT:D2 P tb id X) (g:C7 P tb) (r:∀n o,lk n σ.objs=some o->BC (vw w O0 σ ρ) o (ρ n)) (A:∀b,own O0 σ ρ b->b<w.heap.size) {ev:Operand->Value} (i:EY (vw w O0 σ ρ) σ ev) {t:Bool} {d n:Nat} {parts:List (Nat×Operand)}
  (h:Bx t σ d n parts (some X)=some (vc,v,obs)) (f:vc) (hf:Bk obs σ=true) :
  ∃u ρ' w',(Instr.buildSlice id n (parts.map λp=>(p.1,ev p.2)).toArray).run P w=.ok u w'/\QS w O0 σ ρ v obs u ρ' w':=by
 cases t with
 | false=>exact PA hT g r i h f hf
 | true =>
  unfold Bx at h;split at h
  .rename_i e offs el b D;cases s:FG σ e 0 parts with
   | none=>rw[s]at h;simp[B6]at h
   | some xs =>
    rw[s]at h;simp only[B6,ABa]at h;cases h;obtain⟨a,z⟩:∃a,lk a σ.objs=none:=by
     have:∀l:List (Nat×Obj),∃m,∀k,m<=k->lk k l=none:=by
      intro l;induction l with
      | nil=>exact⟨0,λ_ _=>rfl⟩
      | cons x l C =>
       obtain⟨m,c⟩:=C;refine⟨max m (x.1+1),λk hk=>?_⟩;have:¬k=x.1:=by omega
       obtain⟨j,o⟩:=x;simp only[lk,this,ABs];exact c k O1
     obtain⟨m,c⟩:=this σ.objs;exact⟨m,c m (OS m)⟩
    have q:Bk [(a,.arr el e xs)] σ=true:=by simp[Bk,z]
    have B:Bx false σ a n parts (some X)=some (xs.length=n/\n*e.size<=16777216,.sr a e 0 n,[(a,.arr el e xs)]):=by grind [Bx,B6]
    obtain⟨u,ρ',w',h1,y⟩:=PA hT g r i B f q;exact⟨u,ρ,w',h1,y.toP A q f.1.symm⟩
  cases h
theorem cL {V:Vw} {ev:Operand->Value} (f:EY V σ ev) (w':World) {k:IntKind}:∀(r:List Operand) (a m:Int),Fi σ k (some a) r=some m->IU k a->((r.map ev).foldlM Builtin.min2 (.int k a)).run P w'=.ok (.int k m) w'/\IU k m
 | [],a,m,h,ha=>by
  simp only[Fi,ABk]at h;subst h;exact⟨rfl,ha⟩
 | x :: r,a,m,h,ha=>by
  simp only[Fi]at h;cases d:Aj σ x with
  | none=>rw[d]at h;cases r<;>simp[Oy,Fi]at h
  | some xv =>
   rw[d]at h;cases c:Oy k a (some xv) with
   | none=>rw[c]at h;cases r<;>simp[Fi]at h
   | some j =>
    rw[c]at h;unfold Oy at c;split at c
    .rename_i l b e;cases e;split at c
     .rename_i hk;subst hk;cases c;obtain⟨g,i⟩:=BU (f x _ d);have:=cL f w' r _ m h (by split;exact i;exact ha);rw[oR,List.foldlM_cons,g];simpa[Builtin.min2] using this
     cases c
    cases c
theorem nX (G:A95 P tb w O0 σ ρ a) (h:aq tb σ (o.dst.getD 0) o.op=some (vc,v,obs)) (B:vc) (hf:Bk obs σ=true)
  {next:Act->World->Prop} {Q:Exit->Act->World->Prop} {r:Option Nat} (hn:∀u ρ' w',QS w O0 σ ρ v obs u ρ' w'->next (a.put o.dst u) w'):o.wpIn (FR r) 0 P a w next Q:=by
 obtain⟨hT,hF,hG,D,U,j⟩:=G;have O:∀n,(vw w O0 σ ρ).L n->∃o,BC (vw w O0 σ ρ) o ((vw w O0 σ ρ).ρ n):=λn ⟨o,ab⟩=>⟨o,D n o ab⟩;obtain⟨dst,op,type,pos,after,guard⟩:=o;simp only at h hn;cases op<;>simp only[aq]at h<;>try(cases h;done)
 case move x =>
  cases d:Aj σ x with
  | none=>rw[d]at h;cases h
  | some xv =>
   rw[d]at h;simp only[G2]at h;cases h;exact Ah (u:=a.eval x) (by simp[execOp]) (hn _ _ _ (QS.still (j x _ d)))
 case assign x =>
  cases d:Aj σ x with
  | none=>rw[d]at h;cases h
  | some xv =>
   rw[d]at h;simp only[G2]at h;cases h;exact Ah (u:=a.eval x) (by simp[execOp]) (hn _ _ _ (QS.still (j x _ d)))
 case pick c x y =>
  cases G:Aj σ c with
  | none=>rw[G]at h;simp[LP]at h
  | some N =>
   rw[G]at h;have S:=j c N G;unfold LP at h;split at h
   .rename_i E;cases E;have C:=EB S;cases d:Aj σ x with
    | none=>rw[d]at h;simp[G2]at h
    | some xv =>
     rw[d]at h;simp only[G2]at h;cases h;exact Ah (u:=a.eval x) (by simp[execOp,C,asBool]) (hn _ _ _ (QS.still (j x _ d)))
   .rename_i E;cases E;have C:=EB S;cases q:Aj σ y with
    | none=>rw[q]at h;simp[G2]at h
    | some H =>
     rw[q]at h;simp only[G2]at h;cases h;exact Ah (u:=a.eval y) (by simp[execOp,C,asBool]) (hn _ _ _ (QS.still (j y _ q)))
   cases h
 case alloc t =>
  cases ht:lk t tb.ty with
  | none=>rw[ht]at h;simp[LQ]at h
  | some ti =>
   rw[ht]at h;obtain⟨u,ρ',w',h1,e⟩:=A3l (w:=w) (O0:=O0) (ρ:=ρ) (hT _ _ ht) h hf;exact Ah (u:=u) (w':=w') (by simp[execOp,h1]) (hn _ _ _ e)
 case box t x =>
  cases ht:lk t tb.ty with
  | none=>rw[ht]at h;simp[UB]at h
  | some ti =>
   cases d:Aj σ x with
   | none=>rw[ht,d]at h;simp[UB]at h
   | some xv =>
    rw[ht,d]at h;obtain⟨u,ρ',w',h1,e⟩:=A93 (hT _ _ ht) h (j x _ d) hf;exact Ah (u:=u) (w':=w') (by simp[execOp,h1]) (hn _ _ _ e)
 case build t parts =>
  cases ht:lk t tb.ty with
  | none=>rw[ht]at h;simp[J4]at h
  | some ti =>
   rw[ht]at h;obtain⟨rfl,u,h1,e⟩:=A3n (hT _ _ ht) D j h;have h1:(Instr.build t (parts.map λp=>(p.1,a.eval p.2))).run P w=.ok u w:=by
    rw[<-h1]
    congr 2
    apply Array.ext';simp
   exact Ah (u:=u) (w':=w) (by simp[execOp,h1]) (hn _ _ _ (QS.still e))
 case buildSlice t n parts =>
  cases T:lk (dst.getD 0) tb.nests with
  | some al =>
   rw[T]at h;simp only[HI]at h;cases ht:lk t tb.ty with
   | none=>rw[ht]at h;simp[J6]at h
   | some ti =>
    rw[ht]at h;obtain⟨u,ρ',w',h1,e⟩:=A6G (hT _ _ ht) hT D j h B hf;have h1:(Instr.buildSlice t n (parts.map λp=>(p.1,a.eval p.2))).run P w=.ok u w':=by
     rw[<-h1]
     congr 2
     grind
    exact Ah (u:=u) (w':=w') (by simp[execOp,h1]) (hn _ _ _ e)
  | none =>
  rw[T]at h;simp only[HI]at h;cases ht:lk t tb.ty with
  | none=>rw[ht]at h;simp[Bx]at h
  | some ti =>
   rw[ht]at h;obtain⟨u,ρ',w',h1,e⟩:=XA (hT _ _ ht) hT D U j h B hf;have h1:(Instr.buildSlice t n (parts.map λp=>(p.1,a.eval p.2))).run P w=.ok u w':=by
    rw[<-h1]
    congr 2
    apply Array.ext';simp
   exact Ah (u:=u) (w':=w') (by simp[execOp,h1]) (hn _ _ _ e)
 case load t x =>
  cases ht:lk t tb.ty with
  | none=>rw[ht]at h;simp[Kx]at h
  | some ti =>
   cases d:Aj σ x with
   | none=>rw[ht,d]at h;simp[Kx]at h
   | some xv =>
    rw[ht,d]at h;obtain⟨rfl,u,h1,e⟩:=w4 (hT _ _ ht) D h (j x _ d);exact Ah (u:=u) (w':=w) (by simp[execOp,h1]) (hn _ _ _ (QS.still e))
 case nilCheck x =>
  cases d:Aj σ x with
  | none=>rw[d]at h;simp[W5]at h
  | some xv =>
   rw[d]at h;obtain⟨rfl,⟨ad,E⟩,e⟩:=A92 h (j x _ d);exact Ah (u:=a.eval x) (w':=w) (by simp[execOp,E]) (hn _ _ _ (QS.still e))
 case binOp op t x y ar =>
  cases d:Aj σ x with
  | none=>rw[d]at h;simp[Sn]at h
  | some xv =>
   cases q:Aj σ y with
   | none=>rw[d,q]at h;cases xv<;>simp[Sn]at h
   | some H =>
    rw[d,q]at h;obtain⟨rfl,h1,u,e,A⟩:=A8Y (P:=P) (t:=t) (λC=>by
     cases ht:lk t tb.ty with
     | none=>rw[ht]at C;cases C
     | some ti =>
      have h0:=(hT _ _ ht).2;rw[ht]at C;unfold UC at C;split at C
      .grind
      cases C) w h B (j x _ d) (j y _ q)
    exact Ah (u:=u) (w':=w) (by simp[execOp,h1,e]) (hn _ _ _ (QS.still A))
 case unOp op t x =>
  cases d:Aj σ x with
  | none=>rw[d]at h;cases op<;>simp[qUn]at h
  | some xv =>
   rw[d]at h;obtain⟨rfl,u,e,A⟩:=AAs (P:=P) w h B (j x _ d);exact Ah (u:=u) (w':=w) (by simp[execOp,e]) (hn _ _ _ (QS.still A))
 case convert s t x =>
  cases hs:lk s tb.ty with
  | none=>rw[hs]at h;simp[Ky]at h
  | some ap =>
   cases ht:lk t tb.ty with
   | none=>rw[hs,ht]at h;simp[Ky]at h
   | some ti =>
    cases d:Aj σ x with
    | none=>rw[hs,ht,d]at h;simp[Ky]at h
    | some xv =>
     rw[hs,ht,d]at h;obtain⟨rfl,u,e,A⟩:=A6C (P:=P) hT rfl (hT _ _ hs) (hT _ _ ht) h B (j x _ d);have e:(convert s t (a.eval x)).run P w=.ok u w:=e;exact Ah (u:=u) (w':=w) (by simp[execOp,e]) (hn _ _ _ (QS.still A))
 case makeSlice t l c =>
  cases ht:lk t tb.ty with
  | none=>rw[ht]at h;simp[JT]at h
  | some ti =>
   cases d:Aj σ l with
   | none=>rw[ht,d]at h;simp[JT]at h
   | some an =>
    cases q:Aj σ c with
    | none=>rw[ht,d,q]at h;simp[JT]at h
    | some N =>
     rw[ht,d,q]at h;obtain⟨u,ρ',w',h1,e⟩:=A6H (hT _ _ ht) hT h B (j l _ d) (j c _ q) hf;exact Ah (u:=u) (w':=w') (by simp[execOp,h1]) (hn _ _ _ e)
 case slice t x lo hi ah =>
  cases ah with
  | some m =>
   cases lo with
   | some _=>cases hi<;>simp[aq]at h
   | none =>
    cases hi with
    | none=>simp[aq]at h
    | some h1 =>
     simp only[aq]at h;cases ht:lk t tb.ty with
     | none=>rw[ht]at h;simp[EL]at h
     | some ti =>
      cases d:Aj σ x with
      | none=>rw[ht,d]at h;simp[EL]at h
      | some xv =>
       cases hh:Aj σ h1 with
       | none=>rw[ht,d,hh]at h;simp[EL]at h
       | some ak =>
        cases F:Aj σ m with
        | none=>rw[ht,d,hh,F]at h;simp[EL]at h
        | some ao =>
         rw[ht,d,hh,F]at h;obtain⟨rfl,u,e,A⟩:=w9 (P:=P) (V:=vw w O0 σ ρ) (hT _ _ ht) hT h B (j x _ d) (j h1 _ hh) (j m _ F);have e:(Instr.sliceAt t (a.eval x) none (some (a.eval h1)) (some (a.eval m))).run P w=.ok u w:=e;exact Ah (u:=u) (w':=w) (by simp[execOp,e]) (hn _ _ _ (QS.still A))
  | none =>
   simp only[aq]at h;cases ht:lk t tb.ty with
   | none=>rw[ht]at h;simp[Fg]at h
   | some ti =>
    cases d:Aj σ x with
    | none=>rw[ht,d]at h;simp[Fg]at h
    | some xv =>
     have R:∀ {y:Option Operand} {M:Option AV},G9 σ y=some M->cB (V:=vw w O0 σ ρ) M (y.map a.eval):=by
      intro y M q;cases y with
      | none=>simp only[G9]at q;cases q;trivial
      | some z =>
       simp only[G9,OF]at q;obtain⟨Y,ag,rfl⟩:=q;exact j z Y ag
     cases I:G9 σ lo with
     | none=>rw[ht,d,I]at h;simp[Fg]at h
     | some am =>
      cases J:G9 σ hi with
      | none=>rw[ht,d,I,J]at h;simp[Fg]at h
      | some aj =>
       rw[ht,d,I,J]at h;obtain⟨rfl,u,e,A⟩:=A3k (P:=P) (V:=vw w O0 σ ρ) (hT _ _ ht) hT h B (j x _ d) (R I) (R J);have e:(Instr.sliceAt t (a.eval x) (lo.map a.eval) (hi.map a.eval) none).run P w=.ok u w:=e;exact Ah (u:=u) (w':=w) (by simp[execOp,e]) (hn _ _ _ (QS.still A))
 case fieldAddr s x f =>
  cases hs:lk s tb.ty with
  | none=>rw[hs]at h;simp[Hn]at h
  | some ti =>
   cases d:Aj σ x with
   | none=>rw[hs,d]at h;simp[Hn]at h
   | some xv =>
    rw[hs,d]at h;obtain⟨rfl,u,e,A⟩:=A3g (P:=P) (hT _ _ hs) w h (j x _ d);exact Ah (u:=u) (w':=w) (by simp[execOp,e]) (hn _ _ _ (QS.still A))
 case indexAddr t x i =>
  cases ht:lk t tb.ty with
  | none=>rw[ht]at h;simp[F8]at h
  | some ti =>
   cases d:Aj σ x with
   | none=>rw[ht,d]at h;simp[F8]at h
   | some xv =>
    cases hi:Aj σ i with
    | none=>rw[ht,d,hi]at h;simp[F8]at h
    | some W =>
     rw[ht,d,hi]at h;obtain⟨rfl,u,e,A⟩:=A3h (P:=P) (V:=vw w O0 σ ρ) (hT _ _ ht) hT h B (j x _ d) (j i _ hi) O;have e:(Instr.indexAt t (a.eval x) (a.eval i)).run P w=.ok u w:=e;exact Ah (u:=u) (w':=w) (by simp[execOp,e]) (hn _ _ _ (QS.still A))
 case index t x i =>
  cases ht:lk t tb.ty with
  | none=>rw[ht]at h;simp[El]at h
  | some ti =>
   cases d:Aj σ x with
   | none=>rw[ht,d]at h;simp[El]at h
   | some xv =>
    cases hi:Aj σ i with
    | none=>rw[ht,d,hi]at h;simp[El]at h
    | some W =>
     rw[ht,d,hi]at h;obtain⟨rfl,u,e,A⟩:=w6 (P:=P) (hT _ _ ht) w h B (j x _ d) (j i _ hi);exact Ah (u:=u) (w':=w) (by simp[execOp,e]) (hn _ _ _ (QS.still A))
 case extract x i =>
  cases d:Aj σ x with
  | none=>rw[d]at h;simp[E4]at h
  | some xv =>
   rw[d]at h;obtain⟨rfl,u,e,A⟩:=sT (P:=P) w h (j x _ d);exact Ah (u:=u) (w':=w) (by simp[execOp,e]) (hn _ _ _ (QS.still A))
 case makeFunc fn first aa =>
  obtain⟨rfl,u,e,A⟩:=A94 (P:=P) j h;have e:(Instr.makeFunc fn (first.map a.eval) (aa.map a.eval)).run P w=.ok u w:=by
   rw[<-e]
   congr 2<;>(apply Array.ext';simp)
  exact Ah (u:=u) (w':=w) (by simp[execOp,e]) (hn _ _ _ (QS.still A))
 case makeMap t res =>
  cases res with
  | some z=>simp[aq]at h
  | none =>
   simp only[aq]at h;cases ht:lk t tb.ty with
   | none=>rw[ht]at h;simp[Gc]at h
   | some ti =>
    rw[ht]at h;obtain⟨u,ρ',w',h1,e⟩:=sY (w:=w) (O0:=O0) (ρ:=ρ) (hT _ _ ht) h hf;exact Ah (u:=u) (w':=w') (by simp[execOp,h1]) (hn _ _ _ e)
 case lookup t x i ok =>
  cases ht:lk t tb.ty with
  | none=>rw[ht]at h;simp[JV]at h
  | some ti =>
   cases d:Aj σ x with
   | none=>rw[ht,d]at h;simp[JV]at h
   | some xv =>
    cases hi:Aj σ i with
    | none=>rw[ht,d,hi]at h;simp[JV]at h
    | some W =>
     rw[ht,d,hi]at h;obtain⟨rfl,u,e,A⟩:=A6K (P:=P) (hT _ _ ht) hT D h (j x _ d) (j i _ hi);exact Ah (u:=u) (w':=w) (by simp[execOp,e]) (hn _ _ _ (QS.still A))
 case call c =>
  obtain⟨callee,args,argTypes⟩:=c;cases callee with
  | invoke r m=>simp[DE]at h
  | value g =>
   simp only[DE]at h;exact A6M hF hG D U j (xs:=args.toList) (ts:=argTypes) (o:=⟨dst,.call ⟨.value g,args,argTypes⟩,type,pos,after,guard⟩) sc h B hf hn
  | builtin b =>
   simp only[DE]at h;obtain⟨args⟩:=args;obtain⟨argTypes⟩:=argTypes;simp only at h;unfold Dd at h;split at h
   .rename_i x t;cases ht:lk t tb.ty with
    | none=>rw[ht]at h;simp[UD]at h
    | some ti =>
     cases d:Aj σ x with
     | none=>rw[ht,d]at h;simp[UD]at h
     | some xv =>
      rw[ht,d]at h;obtain⟨rfl,u,e,A⟩:=A8Z (P:=P) (ty:=type) (V:=vw w O0 σ ρ) O (hT _ _ ht) w h (j x _ d);exact Ah (u:=u) (w':=w) (by simp[execOp,resolve,invoke,builtin,e]) (hn _ _ _ (QS.still A))
   .rename_i x y t u;cases d:Aj σ x with
    | none=>rw[d]at h;simp[C0]at h
    | some xv =>
     cases q:Aj σ y with
     | none=>rw[d,q]at h;simp[C0]at h
     | some H =>
      rw[d,q]at h;obtain⟨z,ρ',w',h1,e⟩:=xB (ty:=type) hT D h B (j x _ d) (j y _ q) hf;exact Ah (u:=z) (w':=w') (by simp[execOp,resolve,invoke,builtin,h1]) (hn _ _ _ e)
   .rename_i x y t u;cases d:Aj σ x with
    | none=>rw[d]at h;simp[So]at h
    | some xv =>
     cases q:Aj σ y with
     | none=>rw[d,q]at h;simp[So]at h
     | some H =>
      rw[d,q]at h;obtain⟨rfl,z,h1,e⟩:=A90 (P:=P) (ts:=#[t,u]) (ty:=type) w h (j x _ d) (j y _ q);exact Ah (u:=z) (w':=w) (by simp[execOp,resolve,invoke,builtin,h1]) (hn _ _ _ (QS.still e))
   .rename_i x y t u;cases d:Aj σ x with
    | none=>rw[d]at h;simp[Sp]at h
    | some xv =>
     cases q:Aj σ y with
     | none=>rw[d,q]at h;simp[Sp]at h
     | some H =>
      rw[d,q]at h;obtain⟨rfl,z,h1,e⟩:=A91 (P:=P) (ts:=#[t,u]) (ty:=type) w h (j x _ d) (j y _ q);exact Ah (u:=z) (w':=w) (by simp[execOp,resolve,invoke,builtin,h1]) (hn _ _ _ (QS.still e))
   .rename_i x y X t u ai;cases d:Aj σ x with
    | none=>rw[d]at h;simp[JU]at h
    | some xv =>
     cases q:Aj σ y with
     | none=>rw[d,q]at h;simp[JU]at h
     | some H =>
      cases K:Aj σ X with
      | none=>rw[d,q,K]at h;simp[JU]at h
      | some Y =>
       rw[d,q,K]at h;obtain⟨rfl,z,h1,e⟩:=A6D (P:=P) (ts:=#[t,u,ai]) (ty:=type) w h (j x _ d) (j y _ q) (j X _ K);exact Ah (u:=z) (w':=w) (by simp[execOp,resolve,invoke,builtin,h1]) (hn _ _ _ (QS.still e))
   .rename_i ts x y z u r;cases d:Aj σ x with
    | none=>rw[d]at h;simp[Oz]at h
    | some xv =>
     rw[d]at h;unfold Oz at h;split at h
     .rename_i k Z E;cases E;cases F:Fi σ k (some Z) (y :: z :: u :: r) with
      | none=>rw[F]at h;simp[Ru]at h
      | some m =>
       rw[F]at h;simp only[Ru,ABk,ACH]at h;obtain⟨rfl,rfl,rfl⟩:=h;obtain⟨ae,af⟩:=BU (j x _ d);obtain⟨h1,e⟩:=cL (P:=P) j w _ _ _ F af;have A:(Builtin.min_ ⟨argTypes⟩ type (a.eval x :: a.eval y :: a.eval z :: a.eval u :: r.map a.eval).toArray).run P w=.ok (.int k m) w:=by
        rw[ae];exact h1
       exact Ah (u:=.int _ m) (w':=w) (by simp[execOp,resolve,invoke,builtin,A]) (hn _ _ _ (QS.still (BW e)))
     cases h
   cases h
end
end
section
open Go Go.RowKit
section
variable {w0:World} {K O0:Nat->Prop} {nt:Nat} {ds:Fp} {σ:St} {ρ:Nat->Value} {a:Act} {w:World}
theorem A3p {n:Nat} {o:Obj} {env:List (Nat×AV)} (m:Nat):G0 ⟨env,upd n o σ.objs⟩ m↔G0 σ m:=by
 constructor
 .rintro⟨x,a⟩;rw[GA]at a;split at a
  .rename_i e;subst e;simp only[OF]at a;obtain⟨y,b,_⟩:=a;exact⟨y,b⟩
  exact⟨x,a⟩
 rintro⟨x,a⟩;by_cases e:m=n
 .subst e;exact⟨o,by simp[GA,a]⟩
 exact⟨x,by simp[GA,e,a]⟩
theorem B7.upd (h:B7 w0 K O0 nt ds σ ρ a w) (A:∀b,K b->b<w0.heap.size) {n:Nat} {o j:Obj} (hn:lk n σ.objs=some o) {g:Nat} (r:blk (ρ n)=some g) {w':World} (c:w.grownBy w' (some g))
  (H:BC (vw w' O0 σ ρ) j (ρ n)):B7 w0 K O0 nt ds ⟨σ.env,Fw.upd n j σ.objs⟩ ρ a w':=by
 have f:G0 ⟨σ.env,Fw.upd n j σ.objs⟩=G0 σ:=funext λm=>propext (A3p m);have y:vw w' O0 ⟨σ.env,Fw.upd n j σ.objs⟩ ρ=vw w' O0 σ ρ:=by
  have E:own O0 ⟨σ.env,Fw.upd n j σ.objs⟩ ρ=own O0 σ ρ:=by
   funext b;simp only[own,f]
  simp only[vw,f,E]
 have C:own O0 σ ρ g:=.inr ⟨n,⟨o,hn⟩,.inl r⟩;have hk:Cq (vw w O0 σ ρ) (vw w' O0 σ ρ):=⟨λ_ _ h=>h,λ_ h=>h,λ_ _=>rfl,λb D B=>c.block b D (λe=>by injection e with e;subst e;exact B C)⟩;refine⟨⟨c.os.trans h.frm.os,c.tape.trans h.frm.tape,c.output.trans h.frm.output,aS h.frm.size c.size,λk t=>?_⟩,h.nt,h.defers,λp F=>by rw[f];exact h.pin p F,?_,?_,?_,?_⟩
 .refine(c.block k (AB0 (A k t) h.frm.size) (λe=>?_)).trans (h.frm.block k t);injection e with e
  subst e;exact(h.free n k ⟨o,hn⟩ (.inl r)).1 t
 .intro m x i;rw[y];rw[GA]at i;split at i
  .grind
  rename_i e;refine(h.objs m x i).keeps hk λb l=>?_;refine c.block b ((h.objs m x i).block_lt l) (λq=>?_);injection q with q
  subst q;exact e (h.dist m n b ⟨x,i⟩ ⟨o,hn⟩ l (.inl r))
 .intro m b d l;rw[f]at d;exact h.free m b d l
 .intro m G b d u h1 z;rw[f]at d u;exact h.dist m G b d u h1 z
 intro s v hs;rw[y];exact(h.env s v hs).keeps hk
theorem JY (n s:Nat):∀l:List (Nat×AV),lk s (F6 n l)=(lk s l).map (AV.drp n)
 | []=>rfl
 | (j,v) :: l=>by
  simp only[F6,lk];split
  .rfl
  exact JY n s l
def Obj.drp (n:Nat):Obj->Obj
 | .arr et e xs=>.arr et e xs
 | .box et st fs=>.box et st (AV.drps n fs)
 | .mapo k v l=>.mapo k v l
 | .nest et b k e xs h=>.nest et b k e xs h
 | .frame i fs=>.frame i (F6 n fs)
 | .loop L=>.loop L
 | .itr c g d f a=>.itr c g d f a
 | .dfr=>.dfr
 | .sit sb sp=>.sit sb sp
theorem Bl (n s:Nat):∀l:List (Nat×Obj),lk s (Bg n l)=(lk s l).map (Obj.drp n)
 | []=>rfl
 | (j,.arr et e xs) :: l=>by
  simp only[Bg,lk];split
  .rfl
  exact Bl n s l
 | (j,.box et st fs) :: l=>by
  simp only[Bg,lk];split
  .rfl
  exact Bl n s l
 | (j,.mapo k v x) :: l=>by
  simp only[Bg,lk];split
  .rfl
  exact Bl n s l
 | (j,.nest et b k e xs h) :: l=>by
  simp only[Bg,lk];split
  .rfl
  exact Bl n s l
 | (j,.frame i fs) :: l=>by
  simp only[Bg,lk];split
  .rfl
  exact Bl n s l
 | (j,.loop L) :: l=>by
  simp only[Bg,lk];split
  .rfl
  exact Bl n s l
 | (j,.itr c g d f a) :: l=>by
  simp only[Bg,lk];split
  .rfl
  exact Bl n s l
 | (j,.dfr) :: l=>by
  simp only[Bg,lk];split
  .rfl
  exact Bl n s l
 | (j,.sit sb sp) :: l=>by
  simp only[Bg,lk];split
  .rfl
  exact Bl n s l
def Vw.but (V:Vw) (n:Nat):Vw:=⟨V.w,V.O,λm=>V.L m/\m≠n,V.ρ⟩
def seat (v:Value):Prop:=(∃a m c,v=.slice a m c)\/∃b,v=.tuple b
theorem Ie {V:Vw} {n:Nat} (hn:seat (V.ρ n)) {v:Value} (h:Ld V x v):Ld (V.but n) (x.drp n) v:=by
 cases x;case sr m e lo hi =>
  simp only[AV.drp];split
  .trivial
  rename_i g;exact⟨⟨h.1,g⟩,h.2⟩
 case ep m e i p off =>
  simp only[AV.drp];split
  .trivial
  rename_i g;exact⟨⟨h.1,g⟩,h.2⟩
 case nin m e i len =>
  simp only[AV.drp];split
  .trivial
  rename_i g;exact⟨⟨h.1,g⟩,h.2⟩
 case bp m p off =>
  simp only[AV.drp];refine⟨⟨h.1,λe=>?_⟩,h.2⟩;subst e;obtain⟨_,b,d,_⟩:=h;rcases hn with ⟨a,j,c,hs⟩|⟨k,hs⟩<;>(rw[hs]at d;cases d)
 case clo f ns =>
  simp only[AV.drp];refine⟨h.1,λm o=>?_⟩;obtain⟨h1,b,d⟩:=h.2 m o;refine⟨⟨h1,λe=>?_⟩,b,d⟩;subst e;rcases hn with ⟨a,j,c,hs⟩|⟨k,hs⟩<;>(rw[hs]at d;cases d)
 case mp m =>
  simp only[AV.drp];refine⟨⟨h.1,λe=>?_⟩,h.2⟩;subst e;obtain⟨_,b,d,_⟩:=h;rcases hn with ⟨a,j,c,hs⟩|⟨k,hs⟩<;>(rw[hs]at d;cases d)
 case yl m =>
  simp only[AV.drp];refine⟨⟨h.1,λe=>?_⟩,h.2⟩;subst e;obtain⟨_,b,d,_⟩:=h;rcases hn with ⟨a,j,c,hs⟩|⟨k,hs⟩<;>(rw[hs]at d;cases d)
 case ag l=>exact h.elim
 case tup l=>exact h.elim
 all_goals simp only[AV.drp];exact h
theorem xH {V:Vw} {n:Nat} (hn:seat (V.ρ n)) {cs:List Value} (h0:W7 x=false) (h:F0 V x cs):F0 (V.but n) (x.drp n) cs:=by
 cases x;case p t d=>simp only[AV.drp];exact h
 case ag l=>cases h0
 case tup l=>obtain⟨v,_,_,hf⟩:=h;exact hf.elim
 all_goals
  obtain⟨v,rfl,h1,c⟩:=h;have a:=Ie hn c;simp only[AV.drp]at a ⊢;first
   | exact⟨v,rfl,h1,a⟩
   | (split at a<;>rename_i b<;>first|(rw[At b];exact⟨v,rfl,h1,a⟩)|(rw[An b];exact⟨v,rfl,h1,a⟩))
theorem xI {V:Vw} {n:Nat} (hn:seat (V.ρ n)):(∀(x:AV) (cs:List Value),F0 V x cs->F0 (V.but n) (x.drp n) cs)/\∀(l:List AV) (cs:List Value),AVCs V l cs->AVCs (V.but n) (AV.drps n l) cs :=
 O5 (λ_=>by simp only[AV.drp]) (by simp only[AV.drps]) (λ_ _=>by simp only[AV.drps]) (xH hn)
theorem US {V:Vw} {n:Nat} (hn:seat (V.ρ n)) {cs:List Value} (h:AVCs V l cs):AVCs (V.but n) (AV.drps n l) cs:=(xI hn).2 l cs h
theorem A3q {V:Vw} {n:Nat} (hn:seat (V.ρ n)) {v:Value} (a:R2 V x v):R2 (V.but n) (x.drp n) v:=by
 cases x;case ag l=>obtain⟨cs,h1,b⟩:=a;simp only[AV.drp];exact⟨cs,h1,US hn b⟩
 all_goals exact R2.of1 (Ie hn a)
theorem cM {V:Vw} {n:Nat} (hn:seat (V.ρ n)):∀ {l:List AV} {a:List Value},Ho V l a->Ho (V.but n) (AV.drps n l) a
 | [],a,h=>(h:a=[])
 | x :: r,a,h=>by
  obtain⟨v,c,rfl,h1,b⟩:=h;simp only[AV.drps];exact⟨v,c,rfl,A3q hn h1,cM hn b⟩
theorem A3r {V:Vw} {v:Value} (h:Ld V x v):B4 V x v:=by
 cases x;case ag l=>exact h.elim
 case tup l=>exact h.elim
 all_goals exact h
theorem nY {V:Vw} {n:Nat} (hn:seat (V.ρ n)) {v:Value} (h:B4 V x v):B4 (V.but n) (x.drp n) v:=by
 cases x;case ag l=>obtain⟨cs,h1,a⟩:=h;simp only[AV.drp];exact⟨cs,h1,US hn a⟩
 case tup l=>obtain⟨b,h1,a⟩:=h;simp only[AV.drp];exact⟨b,h1,cM hn a⟩
 all_goals exact A3r (Ie hn h)
theorem R9 (n:Nat):∀l:List AV,(AV.drps n l).length=l.length
 | []=>rfl
 | _ :: r=>by simp[AV.drps,R9 n r]
theorem A3s {n:Nat} {c:Obj} {env:List (Nat×AV)} (m:Nat):G0 ⟨env,upd n c (Bg n σ.objs)⟩ m↔G0 σ m:=by
 constructor
 .rintro⟨x,a⟩;rw[GA,Bl,Bl]at a;split at a
  .rename_i e;subst e;simp only[Option.map_map,OF]at a;obtain⟨y,b,_⟩:=a;exact⟨y,b⟩
  simp only[OF]at a;obtain⟨y,b,_⟩:=a;exact⟨y,b⟩
 rintro⟨x,a⟩;by_cases e:m=n
 .subst e;exact⟨c,by simp[GA,Bl,a]⟩
 exact⟨x.drp n,by simp[GA,Bl,e,a]⟩
theorem B7.app (h:B7 w0 K O0 nt ds σ ρ a w) (ad:∀b,K b->b<w0.heap.size) (ar:∀b,O0 b->b<w0.heap.size) {n:Nat} (ah:G1 n=false) {et:TypeId} {xs ys:List e.den} (hn:lk n σ.objs=some (.arr et e xs)) {loc:Value} {w':World} {cells:List Value}
  (E:w.grownBy w' (blk (ρ n))) (T:blk loc=blk (ρ n)\/∀b,blk loc=some b->w.heap.size<=b) (I:ys.length<=AP)
  (Q:w'.ownsRow 0 et e.size loc ys.length cells) (ag:Dm w (own O0 σ ρ) e cells ys) {d:Nat} (af:d<nt) {hi:Nat} (ai:hi=ys.length) :
  B7 w0 K O0 nt ds ⟨(d,.sr n e 0 hi) :: F6 n σ.env,Fw.upd n (.arr et e ys) (Bg n σ.objs)⟩ (Ei ρ n loc) (a.put (some d) loc) w':=by
 subst ai;have J:∃a m c,(vw w O0 σ ρ).ρ n=.slice a m c:=by
  obtain⟨_,cells',al,_⟩:=h.objs n _ hn;rcases al.2 with ⟨D,_⟩|⟨g,cap,W,D,_⟩
  .exact⟨_,_,_,D⟩
  exact⟨_,_,_,D⟩
 let σ':St:=⟨(d,.sr n e 0 ys.length) :: F6 n σ.env,Fw.upd n (.arr et e ys) (Bg n σ.objs)⟩
 have F:∀m,G0 σ' m↔G0 σ m:=λm=>A3s m;have H:∀b,bk loc b↔blk loc=some b:=λb=>by
  rcases Q.2 with ⟨D,_⟩|⟨g,cap,W,D,_⟩
  .rw[D];exact Lc
  rw[D];exact Lc
 have au:∀b,bk (ρ n) b↔blk (ρ n)=some b:=λb=>by
  obtain⟨Z,ap,c2,u⟩:=J;have u:ρ n=_:=u;rw[u];exact Lc
 have aj:∀b,bk loc b->own O0 σ ρ b\/w.heap.size<=b:=by
  intro b f;replace f:=(H b).1 f;rcases T with h1|h1
  .exact .inl (.inr ⟨n,⟨_,hn⟩,.inl (by rw[<-h1];exact f)⟩)
  exact .inr (h1 b f)
 have hk:Cq ((vw w O0 σ ρ).but n) (vw w' O0 σ' (Ei ρ n loc)):=by
  refine⟨?_,λm I=>(F m).2 I.1,λm I=>?_,?_⟩
  .intro b O f C;rcases C with h0|⟨m,i,N⟩
   .exact f (.inl h0)
   by_cases P:m=n
   .subst P;rw[Bp]at N;rcases aj b N with h1|h1
    .exact f h1
    have O:b<w.heap.size:=O;omega
   have:Ei ρ n loc m=ρ m:=by simp[Ei,P]
   rw[this]at N;exact f (.inr ⟨m,(F m).1 i,N⟩)
  .have:m≠n:=I.2;show Ei ρ n loc m=ρ m;simp[Ei,this]
  intro b O f;exact E.block b O (λj=>f (.inr ⟨n,⟨_,hn⟩,.inl j.symm⟩))
 refine⟨⟨E.os.trans h.frm.os,E.tape.trans h.frm.tape,E.output.trans h.frm.output,aS h.frm.size E.size,λk R=>?_⟩,by rw[O6];exact h.nt,by rw[KD];exact h.defers,λp am=>?_,?_,?_,?_,?_⟩
 .refine(E.block k (AB0 (ad k R) h.frm.size) (λj=>?_)).trans (h.frm.block k R);exact(h.free n k ⟨_,hn⟩ (.inl j.symm)).1 R
 .obtain⟨h1,G,B⟩:=h.pin p am;have aw:p.1≠n:=by
   intro t;obtain⟨Z,ap,c2,u⟩:=J;have u:ρ n=_:=u;rw[<-t,G]at u;rw[u]at B;rcases B with B|B
   .cases B
   rw[t,ah]at B;cases B
  grind [Ei]
 .intro m x A;show BC (vw w' O0 σ' (Ei ρ n loc)) x (Ei ρ n loc m);rw[GA]at A;split at A
  .rename_i j;subst j;rw[Bl,hn]at A;simp only[ABM]at A;cases A;rw[Bp];exact⟨I,cells,Q,ag.keeps (V:=(vw w O0 σ ρ).but m) hk⟩
  rename_i j;rw[Bl]at A;simp only[OF]at A;obtain⟨y,r,rfl⟩:=A;have:Ei ρ n loc m=ρ m:=by simp[Ei,j]
  rw[this];have f:∀b,bk (ρ m) b->w'.heap[b]?=w.heap[b]?:=λb C=>by
   refine E.block b ((h.objs m y r).block_lt C) (λt=>?_);exact j (h.dist m n b ⟨y,r⟩ ⟨_,hn⟩ C (.inl t.symm))
  have q:=h.objs m y r;cases y with
  | arr Y t bc=>exact BC.keeps (V:=(vw w O0 σ ρ).but n) hk f q
  | box Y st fs =>
   obtain⟨h0,b,cs,i,hh,ae⟩:=q;exact BC.keeps (V:=(vw w O0 σ ρ).but n) (o:=.box Y st (AV.drps n fs)) hk f ⟨λan=>by rw[R9];exact h0 an,b,cs,i,hh,US (.inl J) ae⟩
  | mapo k v l=>exact BC.keeps (V:=(vw w O0 σ ρ).but n) hk f q
  | nest et ao k e xs i=>exact BC.keeps (V:=(vw w O0 σ ρ).but n) (o:=.nest et ao k e xs i) hk f (Mi (V:=vw w O0 σ ρ) (V':=(vw w O0 σ ρ).but n) rfl rfl q)
  | frame aq fs =>
   obtain⟨h0,h1⟩:=q;refine BC.keeps (V:=(vw w O0 σ ρ).but n) (o:=.frame aq (F6 n fs)) hk f ⟨h0,λs z U=>?_⟩;rw[JY]at U;simp only[OF]at U;obtain⟨y,r,rfl⟩:=U;exact nY (.inl J) (h1 s y r)
  | loop L=>exact BC.keeps (V:=(vw w O0 σ ρ).but n) hk f q
  | itr ay bb az ba ax=>exact BC.keeps (V:=(vw w O0 σ ρ).but n) hk f q
  | dfr=>exact BC.keeps (V:=(vw w O0 σ ρ).but n) hk f q
  | sit sb sp=>exact BC.keeps (V:=(vw w O0 σ ρ).but n) hk f q
 .intro m b i f;replace i:=(F m).1 i;by_cases j:m=n
  .subst j;rw[Bp]at f;rcases T with h1|h1
   .exact h.free m b i (.inl (by rw[<-h1];exact(H b).1 f))
   have:=h1 b ((H b).1 f);have:=h.frm.size;grind
  have:Ei ρ n loc m=ρ m:=by simp[Ei,j]
  rw[this]at f;exact h.free m b i f
 .have key:∀m b,G0 σ m->m≠n->bk (ρ m) b->bk loc b->False:=by
   intro m b i P f C;rcases T with h1|h1
   .exact P (h.dist m n b i ⟨_,hn⟩ f (.inl (by rw[<-h1];exact(H b).1 C)))
   have G:=h1 b ((H b).1 C);obtain⟨y,r⟩:=i;have:=(h.objs m y r).block_lt f;have:b<w.heap.size:=this;omega
  intro m M b i S h1 G;replace i:=(F m).1 i;replace S:=(F M).1 S;by_cases X:m=n<;>by_cases t:M=n
  .rw[X,t]
  .grind [Ei,Bp]
  .grind [Ei,Bp]
  have aa:Ei ρ n loc m=ρ m:=by simp[Ei,X]
  have ab:Ei ρ n loc M=ρ M:=by simp[Ei,t]
  rw[aa]at h1;rw[ab]at G;exact h.dist m M b i S h1 G
 intro s v hs;show B4 (vw w' O0 σ' (Ei ρ n loc)) v _;rw[Mh a d loc s (by rw[h.nt];exact af)];simp only[lk]at hs;split at hs
 .rename_i es;cases hs;rw[At es];refine⟨(F n).2 ⟨_,hn⟩,?_⟩;show DN (plc (Ei ρ n loc n)) e.size 0 ys.length loc;rw[Bp,HK Q];rcases Q.2 with ⟨rfl,ak⟩|⟨g,cap,W,rfl,_,_,av,_⟩
  .exact⟨none,0,0,rfl,O1,O1,none,0,by rw[ak],O1,λ_=>⟨rfl,rfl⟩,λh=>by omega⟩
  exact⟨some ⟨g,0,none⟩,ys.length,cap,rfl,O1,O1,some ⟨g,0,none⟩,cap,sc,O1,λ_=>⟨rfl,rfl⟩,λ_=>by simp[Mf]⟩
 rename_i es;rw[An es];rw[JY]at hs;simp only[OF]at hs;obtain⟨y,r,rfl⟩:=hs;exact(nY (.inl J) (h.env s y r)).keeps hk
end
end
section
open Go Go.RowKit
def Vw.buts (V:Vw) (hs:List Nat):Vw:=⟨V.w,V.O,λm=>V.L m/\Ag m hs=false,V.ρ⟩
theorem ZR {V:Vw} {hs:List Nat} (h:Ld V x v):Ld (V.buts hs) (x.fgt hs) v:=by
 cases x;case clo f ns =>
  simp only[AV.fgt];split
  .trivial
  rename_i a;refine⟨h.1,λn hn=>⟨⟨(h.2 n hn).1,?_⟩,(h.2 n hn).2⟩⟩;grind
 case ag l=>exact h.elim
 case tup l=>exact h.elim
 case p t d=>simp only[AV.fgt];exact h
 case pc e d=>simp only[AV.fgt];exact h
 case raw u=>simp only[AV.fgt];exact h
 case ip t d=>simp only[AV.fgt];exact h
 case fn f=>simp only[AV.fgt];exact h
 case top=>trivial
 all_goals
  simp only[AV.fgt];split
  .trivial
  rename_i a;exact⟨⟨h.1,by simpa using a⟩,h.2⟩
theorem xJ {V:Vw} {hs:List Nat} {cs:List Value} (h0:W7 x=false) (h:F0 V x cs):F0 (V.buts hs) (x.fgt hs) cs:=by
 cases x;case p t d=>simp only[AV.fgt];exact h
 case ag l=>cases h0
 case tup l=>obtain⟨v,_,_,hf⟩:=h;exact hf.elim
 all_goals
  obtain⟨v,rfl,h1,c⟩:=h;have a:=ZR (hs:=hs) c;simp only[AV.fgt]at a ⊢;first
   | exact⟨v,rfl,h1,a⟩
   | (split at a<;>rename_i b<;>first|(rw[At b];exact⟨v,rfl,h1,a⟩)|(rw[An b];exact⟨v,rfl,h1,a⟩))
theorem xK {V:Vw} {hs:List Nat}:(∀(x:AV) (cs:List Value),F0 V x cs->F0 (V.buts hs) (x.fgt hs) cs)/\∀(l:List AV) (cs:List Value),AVCs V l cs->AVCs (V.buts hs) (AV.fgts hs l) cs :=
 O5 (λ_=>by simp only[AV.fgt]) (by simp only[AV.fgts]) (λ_ _=>by simp only[AV.fgts]) xJ
theorem UT {V:Vw} {hs:List Nat} {cs:List Value} (h:AVCs V l cs):AVCs (V.buts hs) (AV.fgts hs l) cs:=xK.2 l cs h
theorem A3t {V:Vw} {hs:List Nat} (a:R2 V x v):R2 (V.buts hs) (x.fgt hs) v:=by
 cases x;case ag l=>obtain⟨cs,h1,b⟩:=a;simp only[AV.fgt];exact⟨cs,h1,UT b⟩
 all_goals exact R2.of1 (ZR a)
theorem cN {V:Vw} {hs:List Nat}:∀ {l:List AV} {a:List Value},Ho V l a->Ho (V.buts hs) (AV.fgts hs l) a
 | [],a,h=>(h:a=[])
 | x :: r,a,h=>by
  obtain⟨v,c,rfl,h1,b⟩:=h;simp only[AV.fgts];exact⟨v,c,rfl,A3t h1,cN b⟩
theorem TC {V:Vw} {hs:List Nat} (h:B4 V x v):B4 (V.buts hs) (x.fgt hs) v:=by
 cases x;case ag l=>obtain⟨cs,h1,a⟩:=h;simp only[AV.fgt];exact⟨cs,h1,UT a⟩
 case tup l=>obtain⟨b,h1,a⟩:=h;simp only[AV.fgt];exact⟨b,h1,cN a⟩
 all_goals exact A3r (ZR h)
theorem GE (hs:List Nat) (s:Nat):∀l:List (Nat×AV),lk s (Cv hs l)=(lk s l).map (AV.fgt hs)
 | []=>rfl
 | (j,v) :: l=>by
  simp only[Cv,lk];split
  .rfl
  exact GE hs s l
theorem SA (hs:List Nat):∀l:List AV,(AV.fgts hs l).length=l.length
 | []=>rfl
 | _ :: r=>by simp[AV.fgts,SA hs r]
theorem CW (a hs:List Nat) (n:Nat):∀l:List (Nat×Obj),lk n (A5 a hs l)=if Ag n a=true then none else (lk n l).map (Obj.fgt hs)
 | []=>by simp[A5,lk]
 | (j,o) :: l=>by
  simp only[A5];by_cases b:Ag j a=true
  .rw[At b,CW a hs n l];grind [lk]
  rw[An b];simp only[lk];by_cases hn:n=j
  .subst hn;simp[b]
  simp[hn,CW a hs n l]
theorem ZS {V V':Vw} {hs:List Nat} (hk:Cq (V.buts hs) V') {o:Obj} {loc:Value} (a:∀b,bk loc b->V'.w.heap[b]?=V.w.heap[b]?) (h:BC V o loc):BC V' (o.fgt hs) loc:=by
 cases o with
 | arr et e xs=>exact BC.keeps (V:=V.buts hs) hk a h
 | box et st fs =>
  obtain⟨h0,b,cs,c,hh,f⟩:=h;exact BC.keeps (V:=V.buts hs) (o:=.box et st (AV.fgts hs fs)) hk a ⟨λg=>by rw[SA];exact h0 g,b,cs,c,hh,UT f⟩
 | mapo k v l=>exact BC.keeps (V:=V.buts hs) hk a h
 | nest et j k e xs c=>exact BC.keeps (V:=V.buts hs) (o:=.nest et j k e xs c) hk a (Mi (V:=V) (V':=V.buts hs) rfl rfl h)
 | frame m fs =>
  obtain⟨h0,h1⟩:=h;refine BC.keeps (V:=V.buts hs) (o:=.frame m (Cv hs fs)) hk a ⟨h0,λs z d=>?_⟩;rw[GE]at d;simp only[OF]at d;obtain⟨y,i,rfl⟩:=d;exact TC (h1 s y i)
 | loop L=>exact BC.keeps (V:=V.buts hs) hk a h
 | itr p t q r n=>exact BC.keeps (V:=V.buts hs) hk a h
 | dfr=>exact BC.keeps (V:=V.buts hs) hk a h
 | sit sb sp=>exact BC.keeps (V:=V.buts hs) hk a h
section
variable {w0:World} {K O0:Nat->Prop} {nt:Nat} {ds:Fp} {σ:St} {ρ:Nat->Value} {a:Act} {w:World}
theorem B7.swap (h:B7 w0 K O0 nt ds σ ρ a w) (H:∀b,K b->b<w0.heap.size) (ab:∀b,O0 b->b<w0.heap.size) {T:Nat->Prop} (hT:∀n,T n->G1 n=false/\∃o,lk n σ.objs=some o/\seat (ρ n))
  {new:List (Nat×Obj)} {σ':St} {ρ':Nat->Value} {w':World} {dst:Option Nat} {u:Value}
  (V:w'.os=w.os) (Z:w'.tape=w.tape) (W:w'.output=w.output) (Y:w.heap.size<=w'.heap.size)
  (M:∀b,b<w.heap.size->(∀n,T n->¬bk (ρ n) b)->w'.heap[b]?=w.heap[b]?)
  (r:∀n o,lk n σ'.objs=some o->lk n new=none->¬T n/\∃d,lk n σ.objs=some d)
  (N:∀n o,lk n σ.objs=some o->¬T n->lk n new=none/\∃d,lk n σ'.objs=some d)
  (l:∀n,lk n new=none->ρ' n=ρ n)
  (D:∀n o b,lk n new=some o->bk (ρ' n) b->(∃m,T m/\bk (ρ m) b)\/w.heap.size<=b)
  (I:∀n m o t b,lk n new=some o->lk m new=some t->bk (ρ' n) b->bk (ρ' m) b->n=m)
  (U:∀n o,lk n σ'.objs=some o->BC (vw w' O0 σ' ρ') o (ρ' n))
  (J:∀s v,lk s σ'.env=some v->B4 (vw w' O0 σ' ρ') v ((a.put dst u).tmps.getD s undef)) :
  B7 w0 K O0 nt ds σ' ρ' (a.put dst u) w':=by
 have ad:∀m,T m->∀b,bk (ρ m) b->b<w.heap.size:=λm c b i=>by
  obtain⟨_,o,g,_⟩:=hT m c;exact(h.objs m o g).block_lt i
 have A:∀m,T m->∀b,bk (ρ m) b->¬K b/\¬O0 b:=λm c b i=>by
  obtain⟨_,o,g,_⟩:=hT m c;exact h.free m b ⟨o,g⟩ i
 refine⟨⟨V.trans h.frm.os,Z.trans h.frm.tape,W.trans h.frm.output,aS h.frm.size Y,λk hk=>?_⟩,by rw[O6];exact h.nt,by rw[KD];exact h.defers,λp X=>?_,U,?_,?_,J⟩
 .exact(M k (AB0 (H k hk) h.frm.size) λn hn i=>(A n hn k i).1 hk).trans (h.frm.block k hk)
 .obtain⟨⟨o,h1⟩,f,j⟩:=h.pin p X;have P:¬T p.1:=λht=>by
   obtain⟨hf,_,_,hs⟩:=hT _ ht;rw[f]at hs;rcases j with j|j
   .rcases hs with ⟨_,_,_,z⟩|⟨_,z⟩<;>rw[z]at j<;>cases j
   rw[hf]at j;cases j
  obtain⟨F,G⟩:=N p.1 o h1 P;exact⟨G,(l _ F).trans f,j⟩
 .intro n b y i;obtain⟨o,g⟩:=y;cases hn:lk n new with
  | none =>
   obtain⟨_,d,h1⟩:=r n o g hn;rw[l n hn]at i;exact h.free n b ⟨d,h1⟩ i
  | some e =>
   rcases D n e b hn i with ⟨m,c,x⟩|L
   .exact A m c b x
   have:=h.frm.size;grind
 have key:∀n m o e b,lk n σ'.objs=some o->lk n new=none->lk m new=some e->bk (ρ' n) b->bk (ρ' m) b->False:=by
  intro n m o e b g hn c h1 f;obtain⟨Q,d,q⟩:=r n o g hn;rw[l n hn]at h1;rcases D m e b c f with ⟨E,B,x⟩|L
  .obtain⟨_,aa,S,_⟩:=hT E B;have:=h.dist n E b ⟨d,q⟩ ⟨aa,S⟩ h1 x;exact Q (this▸B)
  have ae:b<w.heap.size:=(h.objs n d q).block_lt h1;omega
 intro n m b y O h1 f;obtain⟨o,g⟩:=y;obtain⟨t,C⟩:=O;cases hn:lk n new with
 | none =>
  cases c:lk m new with
  | none =>
   obtain⟨_,d,q⟩:=r n o g hn;obtain⟨_,e,R⟩:=r m t C c;rw[l n hn]at h1;rw[l m c]at f;exact h.dist n m b ⟨d,q⟩ ⟨e,R⟩ h1 f
  | some e=>exact(key n m o e b g hn c h1 f).elim
 | some d =>
  cases c:lk m new with
  | none=>exact(key m n t d b C c hn f h1).elim
  | some e=>exact I n m d e b hn c h1 f
end
end
section
open Go Go.RowKit
structure PE (V V':Vw) (n:Nat) (hs:List Nat):Prop where
 O:∀b,b<V.w.heap.size->¬V.O b->¬V'.O b
 L:∀m,V.L m->Ag m hs=false->V'.L m
 ρ:∀m,V.L m->Ag m hs=false->m≠n->V'.ρ m=V.ρ m
 tup:∃vs,V.ρ n=.tuple vs
 plc:plc (V'.ρ n)=plc (V.ρ n)
 heap:∀b,b<V.w.heap.size->¬V.O b->V'.w.heap[b]?=V.w.heap[b]?
section
variable {V V':Vw} {n:Nat} {hs:List Nat}
theorem PE.pl (h:PE V V' n hs) {m:Nat} (a:V.L m) (b:Ag m hs=false):Fw.plc (V'.ρ m)=Fw.plc (V.ρ m):=by
 by_cases e:m=n
 .subst e;exact h.plc
 rw[h.ρ m a b e]
theorem PE.ptr (h:PE V V' n hs) {m:Nat} (b:V.L m) (c:Ag m hs=false) (d:V.ρ m=v) (f:∀a,v≠.tuple a):V'.ρ m=v:=by
 have e:m≠n:=λe=>by
  obtain⟨a,h1⟩:=h.tup;grind
 rw[h.ρ m b c e,d]
theorem ZT (h:PE V V' n hs) (c:Ld V x v):Ld V' (x.trn n hs) v:=by
 cases x;case ag l=>exact c.elim
 case tup l=>exact c.elim
 case p t d=>simp only[AV.trn];exact BX.mono h.O h.heap c
 case pc e d=>simp only[AV.trn];exact⟨BX.mono h.O h.heap c.1,c.2⟩
 case raw u=>simp only[AV.trn];exact c
 case fn f=>simp only[AV.trn];exact c
 case top=>trivial
 case ip t d =>
  simp only[AV.trn];obtain⟨ad,cs,o,q,r,B⟩:=c;have s:ad.block<V.w.heap.size:=by
   have H:=t.size_pos;have F:=B.length;have:=block_lt_of_cell (r 0 (cs[0]'(by omega)) (As O1))
   rwa [B5]at this
  refine⟨ad,cs,o,h.O _ s q,λj u C=>?_,Bw.mono h.O h.heap B⟩;rw[ACb (w:=V.w) (w':=V'.w)]
  .exact r j u C
  rw[B5];exact h.heap _ s q
 case sr m e lo hi =>
  simp only[AV.trn];split
  .trivial
  rename_i a;have a:Ag m hs=false:=by simpa using a
  exact⟨h.L m c.1 a,by rw[h.pl c.1 a];exact c.2⟩
 case ep m e i E off =>
  simp only[AV.trn];split
  .trivial
  rename_i a;have a:Ag m hs=false:=by simpa using a
  exact⟨h.L m c.1 a,by rw[h.pl c.1 a];exact c.2⟩
 case nin m e i len =>
  simp only[AV.trn];split
  .trivial
  rename_i a;have D:m≠n:=λe=>a (.inl e);have y:Ag m hs=false:=by grind
  exact⟨h.L m c.1 y,by rw[h.ρ m c.1 y D];exact c.2⟩
 case bp m E off =>
  simp only[AV.trn];split
  .trivial
  rename_i a;have a:Ag m hs=false:=by simpa using a
  obtain⟨g,b,k,o⟩:=c;exact⟨h.L m g a,b,h.ptr g a k (λ_ e=>by cases e),o⟩
 case mp m =>
  simp only[AV.trn];split
  .trivial
  rename_i a;have a:Ag m hs=false:=by simpa using a
  obtain⟨g,b,k,o⟩:=c;exact⟨h.L m g a,b,h.ptr g a k (λ_ e=>by cases e),o⟩
 case yl m =>
  simp only[AV.trn];split
  .trivial
  rename_i a;have a:Ag m hs=false:=by simpa using a
  obtain⟨g,b,k,o⟩:=c;exact⟨h.L m g a,b,h.ptr g a k (λ_ e=>by cases e),o⟩
 case clo f ns =>
  simp only[AV.trn];split
  .trivial
  rename_i G;have z:∀m∈ns,Ag m hs=false:=λm a=>by grind
  have A:∀m∈ns,V'.ρ m=V.ρ m:=λm a=>by
   obtain⟨g,b,k⟩:=c.2 m a;rw[h.ptr g (z m a) k (λ_ e=>by cases e),k]
  refine⟨?_,λm a=>⟨h.L m (c.2 m a).1 (z m a),by rw[A m a];exact(c.2 m a).2⟩⟩;rw[c.1]
  congr 1
  exact oS λm a=>(A m a).symm
theorem xL (h:PE V V' n hs) {cs:List Value} (h0:W7 x=false) (b:F0 V x cs):F0 V' (x.trn n hs) cs:=by
 cases x;case p t d=>simp only[AV.trn];exact(Bw.mono h.O h.heap b:Bw V'.w V'.O t cs d)
 case ag l=>cases h0
 case tup l=>obtain⟨v,_,_,hf⟩:=b;exact hf.elim
 all_goals
  obtain⟨v,rfl,h1,e⟩:=b;have a:=ZT h e;simp only[AV.trn]at a ⊢;first
   | exact⟨v,rfl,h1,a⟩
   | (split at a<;>rename_i c<;>first|(rw[At c];exact⟨v,rfl,h1,a⟩)|(rw[An c];exact⟨v,rfl,h1,a⟩))
theorem xM (h:PE V V' n hs):(∀(x:AV) (cs:List Value),F0 V x cs->F0 V' (x.trn n hs) cs)/\∀(l:List AV) (cs:List Value),AVCs V l cs->AVCs V' (AV.trns n hs l) cs :=
 O5 (λ_=>by simp only[AV.trn]) (by simp only[AV.trns]) (λ_ _=>by simp only[AV.trns]) (xL h)
theorem UU (h:PE V V' n hs) {l:List AV} {cs:List Value} (a:AVCs V l cs):AVCs V' (AV.trns n hs l) cs:=(xM h).2 l cs a
theorem A3u (h:PE V V' n hs) (a:R2 V x v):R2 V' (x.trn n hs) v:=by
 cases x;case ag l=>obtain⟨cs,h1,b⟩:=a;simp only[AV.trn];exact⟨cs,h1,UU h b⟩
 all_goals exact R2.of1 (ZT h a)
theorem cO (h:PE V V' n hs):∀ {l:List AV} {a:List Value},Ho V l a->Ho V' (AV.trns n hs l) a
 | [],a,b=>(b:a=[])
 | x :: r,a,b=>by
  obtain⟨v,d,rfl,h1,c⟩:=b;simp only[AV.trns];exact⟨v,d,rfl,A3u h h1,cO h c⟩
theorem ZU (h:PE V V' n hs) (b:B4 V x v):B4 V' (x.trn n hs) v:=by
 cases x;case ag l=>obtain⟨cs,h1,a⟩:=b;simp only[AV.trn];exact⟨cs,h1,UU h a⟩
 case tup l=>obtain⟨c,h1,a⟩:=b;simp only[AV.trn];exact⟨c,h1,cO h a⟩
 all_goals exact A3r (ZT h b)
theorem FU (n:Nat) (hs:List Nat) (s:Nat):∀l:List (Nat×AV),lk s (EU n hs l)=(lk s l).map (AV.trn n hs)
 | []=>rfl
 | (j,v) :: l=>by
  simp only[EU,lk];split
  .rfl
  exact FU n hs s l
theorem SB (n:Nat) (hs:List Nat):∀l:List AV,(AV.trns n hs l).length=l.length
 | []=>rfl
 | _ :: r=>by simp[AV.trns,SB n hs r]
theorem DP (n:Nat) (hs:List Nat) (m:Nat):∀l:List (Nat×Obj),lk m (Cz n hs l)=if Ag m (n :: hs)=true then none else (lk m l).map (Obj.trn n hs)
 | []=>by simp[Cz,lk]
 | (j,o) :: l=>by
  simp only[Cz];by_cases a:Ag j (n :: hs)=true
  .rw[At a,DP n hs m l];grind [lk]
  rw[An a];simp only[lk];by_cases b:m=j
  .subst b;simp[a]
  simp[b,DP n hs m l]
theorem nZ (h:PE V V' n hs) {o:Obj} {loc:Value} (c:∀b,bk loc b->V'.w.heap[b]?=V.w.heap[b]?) (a:BC V o loc):BC V' (o.trn n hs) loc:=by
 have hk:Cq ⟨V.w,V.O,λ_=>False,V.ρ⟩ V':=⟨h.O,λ_ h=>h.elim,λ_ h=>h.elim,h.heap⟩;cases o with
 | arr et e xs=>exact BC.keeps (V:=⟨V.w,V.O,λ_=>False,V.ρ⟩) (o:=.arr et e xs) hk c a
 | box et st fs =>
  obtain⟨h0,b,cs,rfl,h1,f⟩:=a;exact⟨λi=>by rw[SB];exact h0 i,b,cs,rfl,(c b (.inl rfl)).trans h1,UU h f⟩
 | mapo k v l=>exact BC.keeps (V:=⟨V.w,V.O,λ_=>False,V.ρ⟩) (o:=.mapo k v l) hk c a
 | nest et p k e xs g=>exact BC.keeps (V:=⟨V.w,V.O,λ_=>False,V.ρ⟩) (o:=.nest et p k e xs g) hk c (Mi (V:=V) (V':=⟨V.w,V.O,λ_=>False,V.ρ⟩) rfl rfl a)
 | frame x fs =>
  obtain⟨h0,h1⟩:=a;refine⟨h0,λs z d=>?_⟩;rw[FU]at d;simp only[OF]at d;obtain⟨y,j,rfl⟩:=d;exact ZU h (h1 s y j)
 | loop L=>exact BC.keeps (V:=⟨V.w,V.O,λ_=>False,V.ρ⟩) (o:=.loop L) hk c a
 | itr q u r t m=>exact BC.keeps (V:=⟨V.w,V.O,λ_=>False,V.ρ⟩) (o:=.itr q u r t m) hk c a
 | dfr=>exact BC.keeps (V:=⟨V.w,V.O,λ_=>False,V.ρ⟩) (o:=.dfr) hk c a
 | sit sb sp=>exact BC.keeps (V:=⟨V.w,V.O,λ_=>False,V.ρ⟩) (o:=.sit sb sp) hk c a
end
end
section
open Go Go.RowKit
theorem jJ {t:Ty} (h:t.cell1=true):t.size=1:=by cases t<;>simp[Ty.cell1]at h<;>rfl
theorem XY {V:Vw} {ty:Ty} {es:List Value} (a:F0 V x es) (hf:Ox ty x=true):es.length=ty.size:=by
 by_cases ht:x=.top
 .subst ht;obtain⟨v,rfl,_⟩:=a;grind [Ox,jJ]
 have hf:CV ty x=true:=by cases x<;>first|exact hf|exact absurd rfl ht
 exact(jF a hf).1
theorem XZ {V:Vw} {ty:Ty} {u v:AV} {j:List Value} (hu:Ox ty u=true) (M:CV ty v=true)
  (H:∀l,v=.ag l->AVCs V l j) (n:(∀l,v≠.ag l)->F0 V v j) (K:j.length=ty.size):∀ {E:List Nat} {st:Bool} {fs m:List AV} {off:Nat} {cs:List Value},AVCs V fs cs->(st=false->fs.length=1) ->
  F9 st fs v E=some m->JS fs E=some off->E3 st fs E=some u->off+j.length<=cs.length/\AVCs V m (A6 cs off j)/\(st=false->m.length=1)
 | [],st,fs,m,off,cs,c,C,h,f,b=>by
  simp only[JS]at f;cases f;cases st with
  | true =>
   simp only[F9,E3,ABa]at h b;cases b;have R:cs.length=ty.size:=by
    have:=c.length;cases ty<;>simp only[Ox,CV]at hu<;>try(cases hu;done)
    grind [Ty.size]
   rw[Dr O1];split at h
   .cases h;exact⟨O1,xA _ _ _ _ (n sc),sc⟩
   .cases h;exact⟨O1,H _ rfl,sc⟩
   cases h
  | false =>
   simp only[F9,E3,ABl,ABs]at h b;split at h
   .rename_i i;have i:∀l,v≠.ag l:=λl e=>by subst e;simp[Rw]at i
    cases h;obtain⟨x,rfl⟩:=ABg.1 (C rfl);simp at b;subst b;obtain⟨c1,c2,rfl,h1,a⟩:=c;have a:c2=[]:=a;subst a;have I:=XY h1 hu;rw[AAu,Dr O1];exact⟨O1,⟨j,[],sc,n i,rfl⟩,sc⟩
   cases h
 | [k],st,fs,m,off,cs,c,C,h,f,b=>by
  simp only[F9]at h;split at h
  .rename_i F;simp only[AT]at F;obtain⟨rfl,i⟩:=F;have i:∀l,v≠.ag l:=λl e=>by subst e;simp[Rw]at i
   cases h;simp only[E3,ABa]at b;obtain⟨h1,a⟩:=c.get b;have I:=XY a hu;have Q:=a.length;have L:off=CU fs k:=by grind [JS,NC]
   subst L;have z:=n i;have g:=z.length;exact⟨O1,c.set b z O1,sc⟩
  cases h
 | k :: S :: r,st,fs,m,off,cs,c,C,h,f,b=>by
  cases st with
  | false=>simp[F9]at h
  | true =>
   simp only[F9,ABa]at h;split at h
   .rename_i t d P x hk;simp only[OF]at h;obtain⟨y,D,rfl⟩:=h;simp only[JS,hk,OF]at f;obtain⟨N,B,rfl⟩:=f;obtain⟨h1,a⟩:=c.get hk;have A:Bw V.w V.O t _ d:=a;have z:Bw V.w V.O P j x:=n sc;obtain⟨g,q⟩:=UJ D B A z;have s:=a.length;simp only[AV.cells]at h1 s q g;have o:=c.set (y:=.p t y) hk (g:Bw V.w V.O t _ y) rfl;rw[I6 _ _ _ _ _ O1 h1]at o;exact⟨O1,o,sc⟩
   .rename_i l hk;simp only[OF]at h;obtain⟨l',D,rfl⟩:=h;simp only[JS,hk,OF]at f;obtain⟨N,B,rfl⟩:=f;simp only[E3,ABa,hk]at b;obtain⟨h1,a⟩:=c.get hk;have A:AVCs V l _:=a;have s:=a.length;obtain⟨g,q,_⟩:=XZ hu M H n K A sc D (by simpa only[JS] using B) b;have J:(AV.ag l').cells=(AV.ag l).cells:=by
     have G:=F0.length (V:=V) (x:=.ag l') q;rw[EA g]at G;rw[<-G,s]
    have o:=c.set (y:=.ag l') hk (show F0 V (.ag l') _ from q) J;rw[s]at g;rw[I6 _ _ _ _ _ g h1]at o;exact⟨O1,o,sc⟩
   cases h
section
variable {P:Program} {tb:Tb} {w0:World} {K O0:Nat->Prop} {nt:Nat} {ds:Fp} {σ σ':St} {ρ:Nat->Value} {a:Act} {w:World} {vc:Prop}
theorem SC {n:Nat} {o:Obj} (hn:lk n σ.objs=some o) {g:Nat} (c:blk (ρ n)=some g) {w':World} (d:w.grownBy w' (some g)):Cq (vw w O0 σ ρ) (vw w' O0 σ ρ) :=
 ⟨λ_ _ h=>h,λ_ h=>h,λ_ _=>rfl,λb f a=>d.block b f (λe=>by injection e with e;subst e;exact a (.inr ⟨n,⟨o,hn⟩,.inl c⟩))⟩
theorem Fq (w:World) (g:Nat) (cs:Array Value):w.grownBy (w.setRow g cs) (some g) :=
 ⟨rfl,rfl,rfl,sc,λk _ hk=>setRow_other w g k cs (λe=>hk (by rw[e]))⟩
theorem Li (hT:D2 P tb t X) {g off:Nat} {cs:List Value} {et:TypeId} {xv:Value} (hh:w.heap[g]?=some (.cells cs.toArray et (0,0))) (hs:xv.cells.size=X.ty.size)
  (b:off+xv.cells.toList.length<=cs.length) (h1:∀u∈xv.cells.toList,u.oneCell'=true) :
  (Instr.storeAt t (.pointer (some ⟨g,off,none⟩)) xv).run P w=.ok () (w.setRow g (A6 cs off xv.cells.toList).toArray):=by
 have a:=run_storeCells_at P g off et xv.cells.toList 0 cs.toArray w hh (by simpa using b) h1;simp only[Nat.add_zero]at a;have c:¬xv.cells.size≠X.ty.size:=by omega
 simp only[Instr.storeAt,Instr.sureAddr,storeVar,AB1,ABw,AAm,Hq w hT,An c,a];rfl
theorem n4 {w':World} {next:Act->World->Prop} {Q:Exit->Act->World->Prop} {r:Option Nat} (h:(execOp a.eval o).run P w=.ok .skip w') (hn:next (a.put o.dst undef) w') (b:∀c,o.op≠.defer c:=by intro c e;cases e):o.wpIn (FR r) 0 P a w next Q:=by
 refine⟨λ_ _=>trivial,?_⟩;rw[EZ _ _ _ b,h];exact hn
theorem sZ (hs:B7 w0 K O0 nt ds σ ρ a w) (aj:∀b,K b->b<w0.heap.size) (hT:C7 P tb) {x:Operand} (bs:∀n e i s off,Aj σ x=some (.ep n e i s off)->C5 (lk n σ.objs)=false) (h:I4 σ (lk t tb.ty) (Aj σ x) (Aj σ y)=some (vc,σ')) (cx:vc) :
  ∃w',(Instr.storeAt t (a.eval x) (a.eval y)).run P w=.ok () w'/\B7 w0 K O0 nt ds σ' ρ a w':=by
 have G:EY (vw w O0 σ ρ) σ a.eval:=Cg hs.env;unfold I4 at h;split at h
 .rename_i ti n s off v ht Q af;have ae:=G x _ Q;have D:=G y _ af;cases hn:lk n σ.objs with
  | none=>rw[hn]at h;simp[DX]at h
  | some o =>
   rw[hn]at h;cases o with
   | arr et e xs=>simp[DX]at h
   | mapo k v l=>simp[DX]at h
   | frame cl fs=>simp[DX]at h
   | loop L=>simp[DX]at h
   | itr cg cj ch ci ce=>simp[DX]at h
   | dfr=>simp[DX]at h
   | sit sb sp=>simp[DX]at h
   | nest et cf k e xs bo=>simp[DX]at h
   | box et st fs =>
    simp only[DX]at h;cases I:E3 st fs s with
    | none=>rw[I]at h;simp[Fj]at h
    | some u =>
     cases Z:F9 st fs v s with
     | none=>rw[I,Z]at h;simp[Fj]at h
     | some cp =>
      rw[I,Z]at h;simp only[Fj]at h;split at h
      .rename_i aw;obtain⟨hu,ab,bt,_⟩:=aw;cases h;obtain⟨bz,b,cs,W,C,bg⟩:=hs.objs n _ hn;obtain⟨be,cn,f,ad⟩:=ae;have f:ρ n=_:=f;rw[W]at f;injection f with f
       injection f with f
       injection f with f
       subst f;have H:=w3 D ab (NP D ab);have ak:∀l,v=.ag l->AVCs (vw w O0 σ ρ) l (a.eval y).cells.toList:=by
        intro l e;subst e;obtain⟨co,A,bh⟩:=D;rw[A];simpa[Value.cells] using bh
       obtain⟨h1,R,bb⟩:=XZ hu ab ak (λJ=>H.2 J) (by simpa using H.1) bg bz Z bt I;have bv:∀z∈(a.eval y).cells.toList,z.oneCell'=true:=by
        by_cases J:∃l,v=.ag l
        .obtain⟨l,e⟩:=J;exact(ak l e).one
        exact(H.2 (λl e=>J ⟨l,e⟩)).one
       have Y:=Li (hT _ _ ht) C H.1 h1 bv;rw[ad];refine⟨_,Y,?_⟩;have id:blk (ρ n)=some b:=by rw[W];rfl
       refine hs.upd aj hn id (Fq w b _) ⟨bb,b,_,W,setRow_heap w b _ _ et _ C,?_⟩;exact R.keeps (SC hn id (Fq w b _))
      cases h
 .rename_i ti n e i s off v ht Q af;have ae:=G x _ Q;have D:=G y _ af;cases hn:lk n σ.objs with
  | none=>rw[hn]at h;simp[DY]at h
  | some o =>
   rw[hn]at h;cases o with
   | box et st fs=>simp[DY]at h
   | mapo k v l=>simp[DY]at h
   | frame cl fs=>simp[DY]at h
   | loop L=>simp[DY]at h
   | itr cg cj ch ci ce=>simp[DY]at h
   | dfr=>simp[DY]at h
   | sit sb sp=>simp[DY]at h
   | nest et cf k e xs bo=>have:=bs _ _ _ _ _ Q;rw[hn]at this;cases this
   | arr et d xs =>
    simp only[DY]at h;cases T:BZ (.slice e) ⟨.slice d,xs⟩ with
    | none=>rw[T]at h;simp[E6]at h
    | some ys =>
     obtain⟨rfl,R⟩:=Bt T;cases R;rw[T]at h;cases S:I1 false σ ti.ty v with
     | none=>rw[S]at h;simp[E6]at h
     | some cm =>
      rw[S]at h;simp only[E6]at h;cases aa:W3 s d (xs.getD i d.dflt) ⟨ti.ty,cm⟩ with
      | none=>rw[aa]at h;simp[Gd]at h
      | some z =>
       rw[aa]at h;simp only[Gd]at h;split at h
       .rename_i bu;cases h;obtain⟨bq,cells,M,F⟩:=hs.objs n _ hn;obtain⟨be,g,m,c,f,X,ad⟩:=ae;have f:plc (ρ n)=_:=f;have M:w.ownsRow 0 et d.size (ρ n) xs.length cells:=M;rw[HK M]at f;have F:Dm w (own O0 σ ρ) d cells xs:=F;have cc:=FT (V:=vw w O0 σ ρ) (O':=own O0 σ ρ) (λ_ h=>h) (λh=>by cases h) hs.objs S D;obtain⟨av,au⟩:=XS cc;obtain⟨ar,bw⟩:=M;rcases bw with ⟨A,_⟩|⟨cq,cap,r,A,ct,C,am,bf,U,ca⟩
        .grind
        rw[f]at A;injection A with B bi bj
        injection B with B
        injection B with B
        subst B;subst bi;have cd:xs[i]?=some (xs.getD i d.dflt):=by
         rw[As X,AS,As X];rfl
        obtain⟨es,bl,ao,bk⟩:=F i _ cd;obtain⟨bc,bd⟩:=UJ aa bu bk au;have cr:cells.length=xs.length*d.size:=ar;have bn:(i+1)*d.size<=xs.length*d.size:=AAe _ X;have cu:xs.length*d.size<=cap*d.size:=AAe _ am;rw[ABr]at bn;have al:i*d.size+off+(a.eval y).cells.toList.length<=r.toList.length:=by
         have bp:r.toList.length=cap*d.size:=by rw[<-U];simp
         have cw:(a.eval y).cells.toList.length=ti.ty.size:=by rw[<-av];simp
         omega
        have bm:w.heap[g]?=some (.cells r.toList.toArray et (0,0)):=by simpa using C
        have Y:=Li (hT _ _ ht) bm av al au.one;rw[ad];refine⟨_,Y,?_⟩;have id:blk (ρ n)=some g:=by rw[f];rfl
        have bx:(A6 r.toList (i*d.size+off) (a.eval y).cells.toList).length=r.size:=by rw[EA al];simp
        have cb:(A6 r.toList (i*d.size+off) (a.eval y).cells.toList).take (xs.length*d.size)=A6 cells (i*d.size+off) (a.eval y).cells.toList:=by
         rw[<-ca];apply ACv;intro j;simp only[A6,AAg,AAl,AB4,Of,AB5,ACX];have ah:min (i*d.size+off) r.toList.length=i*d.size+off:=by omega
         have E:min (i*d.size+off) (xs.length*d.size)=i*d.size+off:=by omega
         have ck:min (xs.length*d.size) r.toList.length=xs.length*d.size:=by
          have bp:r.toList.length=cap*d.size:=by rw[<-U];simp
          omega
         simp only[ah,E,ck];by_cases c1:j<i*d.size+off
         .simp[c1,show j<xs.length*d.size by omega]
         by_cases c2:j-(i*d.size+off)<(a.eval y).cells.toList.length
         .simp only[c1,c2,ABs,ABa,show j<xs.length*d.size by omega]
         simp only[c1,c2,ABs];by_cases ai:j<xs.length*d.size
         .rw[At ai,At O1]
         rw[An ai,An O1]
        refine hs.upd aj hn id (Fq w g _) ⟨by simpa using bq,A6 cells (i*d.size+off) (a.eval y).cells.toList,⟨?_,.inr ⟨g,cap,_,by rw[f,bj];simp,GO _,setRow_heap w g _ _ et _ C,by simpa using am,bf,by simp[bx,U],?_⟩⟩,?_⟩
        .rw[EA O1];simpa using ar
        .simpa using cb
        have hk:=SC (O0:=O0) hn id (Fq w g (A6 r.toList (i*d.size+off) (a.eval y).cells.toList).toArray);have br:Dm (vw w O0 σ ρ).w (vw w O0 σ ρ).O d (A6 cells (i*d.size+off) (a.eval y).cells.toList) (xs.set i z):=by
         intro k q N;rw[ABf]at N;split at N
         .rename_i ap;subst ap;cases N;refine⟨A6 es off (a.eval y).cells.toList,by rw[EA bd];exact bl,λj u p=>?_,bc⟩;simp only[A6,AAg,AB4,Of,AAl,AB5]at p ⊢;have ah:min off es.length=off:=by omega
          have E:min (i*d.size+off) cells.length=i*d.size+off:=by omega
          simp only[ah]at p;simp only[E];by_cases c1:j<off
          .simp only[c1,ABa]at p;simp only[show i*d.size+j<i*d.size+off by omega,ABa];exact ao _ _ p
          simp only[c1,ABs]at p;simp only[show ¬i*d.size+j<i*d.size+off by omega,ABs];rw[show i*d.size+j-(i*d.size+off)=j-off by omega];by_cases c2:j-off<(a.eval y).cells.toList.length
          .simp only[c2,ABa]at p ⊢;exact p
          simp only[c2,ABs]at p ⊢;have:=ao _ _ p;rw[<-this]
          congr 1
          omega
         rename_i ap;obtain⟨ax,ay,az,ba⟩:=F k q N;refine⟨ax,ay,λj u p=>?_,ba⟩;have cv:=(TO.1 p).1;have an:=az j u p;simp only[A6,AAg,AB4,Of,AAl,AB5];have E:min (i*d.size+off) cells.length=i*d.size+off:=by omega
         simp only[E];rcases Nat.lt_or_ge k i with aq|aq
         .have:(k+1)*d.size<=i*d.size:=AAe _ aq;rw[ABr]at this;simp only[show k*d.size+j<i*d.size+off by omega,ABa];exact an
         have:(i+1)*d.size<=k*d.size:=AAe _ O1;rw[ABr]at this;simp only[show ¬k*d.size+j<i*d.size+off by omega,ABs,show ¬k*d.size+j-(i*d.size+off)<(a.eval y).cells.toList.length by omega];rw[<-an]
         congr 1
         omega
        exact br.keeps hk
       cases h
 cases h
theorem s4 (hs:B7 w0 K O0 nt ds σ ρ a w) (B:∀b,K b->b<w0.heap.size) (s:C7 P tb) {m x y:Operand} (h:LY tb σ (lk t tb.ty) (Aj σ m) (Aj σ x) (Aj σ y)=some (vc,σ')) :
  ∃w',(Instr.mapUpdate t (a.eval m) (a.eval x) (a.eval y)).run P w=.ok () w'/\B7 w0 K O0 nt ds σ' ρ a w':=by
 have g:EY (vw w O0 σ ρ) σ a.eval:=Cg hs.env;unfold LY at h;split at h
 .rename_i k e _ _ n xv U ht J N Q;have O:=g x _ N;have R:=g y _ Q;obtain⟨X,b,d,L⟩:=g m _ J;have d:ρ n=_:=d;cases hn:lk n σ.objs with
  | none=>rw[hn]at h;simp[GU]at h
  | some o =>
   rw[hn]at h;cases o with
   | mapo Y T l =>
    cases j:lk k tb.ty with
    | none=>simp[GU,j]at h
    | some S =>
     simp only[GU,j,ABM,ABk]at h;split at h
     .rename_i E;obtain⟨rfl,F⟩:=E;cases f:I1 false σ S.ty xv with
      | none=>rw[f]at h;simp[HJ]at h
      | some kd =>
       cases p:I1 false σ T U with
       | none=>rw[f,p]at h;simp[HJ]at h
       | some aa =>
        rw[f,p]at h;simp only[HJ]at h;split at h
        .rename_i H;cases h;have h1:=FT (V:=vw w O0 σ ρ) (O':=own O0 σ ρ) (λ_ h=>h) (λh=>by cases h) hs.objs f O;have A:=FT (V:=vw w O0 σ ρ) (O':=own O0 σ ρ) (λ_ h=>h) (λh=>by cases h) hs.objs p R;obtain⟨W,r,q,c,M,⟨Z,z⟩,G,D⟩:=A6J (w:=w) (V:=vw w O0 σ ρ) s (s _ _ ht) (n:=n) rfl rfl j rfl (hs.objs n _ hn) F H h1 A;have c:ρ n=_:=c;rw[d]at c;injection c with c
         injection c with c
         subst c;rw[L];refine⟨_,M,?_⟩;have u:blk (ρ n)=some b:=by rw[d];rfl
         have v:w.grownBy { w with heap:=w.heap.setIfInBounds b (.map r q) } (some b) :=
          ⟨rfl,rfl,rfl,sc,λi _ hi=>(MapKept.heap_set z).2 i (λe=>hi (by rw[e]))⟩
         refine hs.upd B hn u v ⟨b,r,q,d,(MapKept.heap_set z).1,?_⟩;refine⟨?_,D⟩;exact G.mono (λ_ _ h=>h) (λb2 I C=>v.block b2 I (λe=>by injection e with e;subst e;exact C (.inr ⟨n,⟨_,hn⟩,.inl u⟩)))
        cases h
     cases h
   | _=>simp[GU]at h
 cases h
end
end
section
open Go Go.RowKit
section
variable {P:Program} {tb:Tb} {w0:World} {K O0:Nat->Prop} {nt:Nat} {ds:Fp} {σ σ':St} {ρ:Nat->Value} {a:Act} {w:World} {vc:Prop} {id:TypeId}
theorem TD {w:World} {base:Nat} {et:TypeId} {sz n:Nat} {s:Value} {xs:List Value} (h:w.ownsRow base et sz s n xs):s.ownBlock=blk s:=by
 rcases h.2 with ⟨rfl,_⟩|⟨g,cap,a,rfl,_⟩<;>rfl
theorem HL (v:C7 P tb) {el:TypeId} (hu:P.underlying id=some (.slice el)) {te:TI} (A:lk el tb.ty=some te) (J:te.ty=e) {base ty:Nat} {s xv:Value} {n:Nat} {xs C:List Value}
  (q:w.ownsRow base el e.size s n xs) {O:Nat->Prop} {ys:List e.den} (T:Src w O e xv ys C) (U:(n+ys.length)*te.bytes<=AP) {f:Value} {w':World}
  (h:(Builtin.append_ #[id,id] ty #[s,xv]).run P w=.ok f w'):blk f=blk s\/∀b,blk f=some b->w.heap.size<=b:=by
 subst J;obtain⟨⟨⟨_,H,_⟩,i,z,hi,o,x,B,ai⟩,_⟩:=v _ _ A;have R:n+ys.length<=AP:=by
  have:(n+ys.length)*1<=(n+ys.length)*te.bytes:=ABN _ H;omega
 have ae:AP=140737488355328:=rfl;obtain⟨⟨a,c,rfl,F⟩,M,Z,ag,ab⟩:=T;have hs:(sizeOf el).run P w=.ok te.ty.size w:=Hq w (v _ _ A);have aj:∀ {l D:Nat} {W:World},Result.ok (Value.slice (some ⟨w.heap.size,0,none⟩) l D) W=Result.ok f w'->blk f=blk s\/∀b,blk f=some b->w.heap.size<=b:=by grind [blk]
 have V:∀(ad:Addr) (m:Nat) (d:List Value),d.length=m*te.ty.size->(∀(j:Nat) (u:Value),d[j]?=some u->w.cell? (ad.add j)=some u)->(∀u∈d,u.oneCell'=true)->n+m<=AP->(n+m)*te.bytes<=AP ->
   (Builtin.append_ #[id,id] ty #[s,.slice (some ad) m c]).run P w=.ok f w'->blk f=blk s\/∀b,blk f=some b->w.heap.size<=b:=by
  intro ad m d k p h1 aa G h;rcases q.2 with ⟨rfl,rfl⟩|⟨g,cap,t,rfl,X,L,af,Y,I,ah⟩
  .by_cases N:m=0
   .subst N;have:d=[]:=AAc (by simpa using k);simp[Builtin.append_,iF hu,hs,Builtin.lenOf,Builtin.firstCells,loadCells,loadCellsFrom]at h;grind
   have:=run_append_nil (P:=P) w id ty el i z hu hi B ad m c d (by rw[o];exact k) p O1 O1 (by rw[x];simp at G;omega);grind
  by_cases y:n+m<=cap
  .have K:n*i.size+d.length<=t.size:=by
    rw[k,o,I,<-ACt];exact AAe _ y
   have:=run_append_room (P:=P) w id ty el i hu hi g n cap t L ad m c d (by rw[o];exact k) p h1 y K;rw[this]at h;injection h with r E
   subst r;exact .inl rfl
  have S:∀j u,xs[j]?=some u->w.cell? ((⟨g,0,none⟩:Addr).add j)=some u:=q.cells (g:=g) rfl;have:=run_append_grow (P:=P) w id ty el i z hu hi B ⟨g,0,none⟩ n cap xs (by rw[o];exact q.1) S ad m c d (by rw[o];exact k) p O1 O1 (by rw[x];exact growslice_fits O1 O1);grind
 rcases F with rfl|⟨ad,rfl,p⟩
 .have Q:C=[]:=AAc (by simpa using M);subst Q;cases a with
  | none =>
   have:=R5 (P:=P) (ty:=ty) hu hs q c;rw[show ([]:List te.ty.den).length=0 from rfl,this]at h;injection h with r E
   subst r;exact .inl rfl
  | some ad=>exact V ad 0 [] sc sc sc (by simpa using R) (by simpa using U) h
 grind
theorem jK {w:World} {O:Nat->Prop} {c:List Value} {xs:List e.den} (h:Dm w O e c xs) (n:Nat):Dm w O e (c.take (n*e.size)) (xs.take n):=by
 intro i x hi;rw[AAl]at hi;split at hi
 .rename_i f;obtain⟨es,a,g,b⟩:=h i x hi;refine⟨es,a,λj u d=>?_,b⟩;have k:=(TO.1 d).1;have:(i+1)*e.size<=n*e.size:=AAe _ f;grind
 cases hi
theorem jL (hs:B7 w0 K O0 nt ds σ ρ a w) (af:∀b,K b->b<w0.heap.size) (ag:∀b,O0 b->b<w0.heap.size) (hT:C7 P tb) {d:Option Nat} (ai:∀k,d=some k->k<nt) {t u ty:TypeId} {x:Operand}
  (h:DZ tb σ d t u (Aj σ x) (Aj σ y)=some (vc,σ')) (ar:vc) (ah:∃n e hi,Aj σ x=some (.sr n e 0 hi)/\C5 (lk n σ.objs)=false) :
  ∃z w' ρ',(Builtin.append_ #[t,u] ty #[a.eval x,a.eval y]).run P w=.ok z w'/\B7 w0 K O0 nt ds σ' ρ' (a.put d z) w':=by
 have O:EY (vw w O0 σ ρ) σ a.eval:=Cg hs.env;obtain⟨n0,ad,am,Y,S⟩:=ah;unfold DZ at h;split at h
 .rename_i n e hi v X au;obtain⟨rfl,rfl,rfl⟩:n=n0/\e=ad/\hi=am:=by rw[X]at Y;cases Y;exact⟨rfl,rfl,rfl⟩
  split at h
  .rename_i d;split at h
   .rename_i I;obtain⟨I,al⟩:=I;subst I;cases H:lk t tb.ty with
    | none=>rw[H]at h;simp[E7]at h
    | some ti =>
     rw[H]at h;unfold E7 at h;split at h
     .rename_i p offs el b i;cases i;split at h
      .rename_i aj;subst aj;obtain⟨hu,bi,te,G,U⟩:=Ce (hT _ _ H) hT;rw[G]at h;cases hn:lk n σ.objs with
       | none=>rw[hn]at h;cases f:Ow σ p v<;>rw[f]at h<;>simp[Ci]at h
       | some o =>
        rw[hn]at h;cases o with
        | box et st fs=>cases f:Ow σ p v<;>rw[f]at h<;>simp[Ci]at h
        | mapo av v1 l=>cases f:Ow σ p v<;>rw[f]at h<;>simp[Ci]at h
        | frame br fs=>cases f:Ow σ p v<;>rw[f]at h<;>simp[Ci]at h
        | loop L=>cases f:Ow σ p v<;>rw[f]at h<;>simp[Ci]at h
        | itr bl bo bm bn bj=>cases f:Ow σ p v<;>rw[f]at h<;>simp[Ci]at h
        | nest et bk av s xs be=>rw[hn]at S;cases S
        | dfr=>cases f:Ow σ p v<;>rw[f]at h<;>simp[Ci]at h
        | sit sb sp=>cases f:Ow σ p v<;>rw[f]at h<;>simp[Ci]at h
        | arr et j xs =>
         simp only[Ci]at h;split at h
         .rename_i ak;subst ak;cases B:BZ (.slice p) ⟨.slice j,xs⟩ with
          | none=>rw[B]at h;simp[Fk]at h
          | some bs =>
           obtain⟨rfl,ae⟩:=Bt B;cases ae;rw[B]at h;cases f:Ow σ j v with
           | none=>rw[f]at h;simp[Fk]at h
           | some ys =>
            rw[f]at h;simp only[Fk]at h;cases h;obtain⟨bp,F⟩:=TB hs.objs f (O y _ au);obtain⟨bh,cells,r,C⟩:=hs.objs n _ hn;have r:w.ownsRow 0 et j.size (ρ n) xs.length cells:=r;have C:Dm w (own O0 σ ρ) j cells xs:=C;obtain⟨bb,aa,m,c,q,bg,bd,Z,ab,J,bc,h0,h1⟩:=O x _ X;have q:plc (ρ n)=.slice aa m c:=q;rw[HK r]at q;obtain⟨rfl,rfl⟩:=h0 rfl;simp only[Nat.sub_zero]at J;have bf:=r.1;have R:hi<=xs.length:=by
             rcases r.2 with ⟨i,ap⟩|⟨g,cap,M,i,_⟩
             .rw[q]at i;injection i;omega
             rw[q]at i;injection i;omega
            have ao:hi*j.size<=xs.length*j.size:=AAe _ R;have E:w.ownsRow 0 et j.size (a.eval x) hi (cells.take (hi*j.size)):=by
             rw[J];refine⟨by rw[Of];omega,?_⟩;rcases r.2 with ⟨i,ap⟩|⟨g,cap,M,i,aw,ax,bq,ay,az,ba⟩
             .rw[q]at i;injection i with s j A
              subst s;subst A;have:hi=0:=by omega
              subst this;exact .inl ⟨rfl,rfl⟩
             rw[q]at i;injection i with s j A
             subst s;subst A;refine .inr ⟨g,ab,M,rfl,aw,ax,O1,ay,az,?_⟩;rw[<-ba,ACX,ABO ao]
            have V:(hi+ys.length)*te.bytes<=AP:=ar;obtain⟨z,w',T,aq,Q,an⟩:=GD (ty:=ty) hT hu G U E F V (GO _);have W:=HL (ty:=ty) hT hu G U E F V T;have N:blk (a.eval x)=blk (ρ n):=by
             rw[J,q];cases Z<;>rfl
            rw[N]at W;rw[TD E,N]at Q;refine⟨z,w',Ei ρ n z,T,?_⟩;have D:(xs.take hi++ys).length=hi+ys.length:=by simp;omega
            exact hs.app af ag al hn Q W (by rw[D];exact an) (by rw[D];exact aq) (KH (jK C hi) F.elems (by rw[Of,Of];rw[ABO R];omega)) (ai d rfl) D.symm
         cases h
      cases h
     cases h
   cases h
  cases h
 .grind
 .grind
 cases h
theorem Ml (n:Nat) (e:Ty) (xs:List e.den) (s:Nat):∀l:List (Nat×AV),lk s (Db n e xs l)=(lk s l).map (AV.frz n e xs)
 | []=>rfl
 | (j,v) :: l=>by
  simp only[Db,lk];split
  .rfl
  exact Ml n e xs s l
def Obj.frz (n:Nat) (e:Ty) (xs:List e.den):Obj->Obj
 | .arr et a ys=>.arr et a ys
 | .box et st fs=>.box et st (AV.frzs n e xs fs)
 | .mapo k v l=>.mapo k v l
 | .nest et c k e ys h=>.nest et c k e ys h
 | .frame j fs=>.frame j (Db n e xs fs)
 | .loop L=>.loop L
 | .itr d i f g b=>.itr d i f g b
 | .dfr=>.dfr
 | .sit sb sp=>.sit sb sp
theorem CN (n:Nat) (e:Ty) (xs:List e.den) (s:Nat):∀l:List (Nat×Obj),lk s (BE n e xs l)=(lk s l).map (Obj.frz n e xs)
 | []=>rfl
 | (j,.arr et a ys) :: l=>by
  simp only[BE,lk];split
  .rfl
  exact CN n e xs s l
 | (j,.box et st fs) :: l=>by
  simp only[BE,lk];split
  .rfl
  exact CN n e xs s l
 | (j,.mapo k v x) :: l=>by
  simp only[BE,lk];split
  .rfl
  exact CN n e xs s l
 | (j,.nest _ _ _ _ _ _) :: l=>by
  simp only[BE,lk];split
  .rfl
  exact CN n e xs s l
 | (j,.frame h fs) :: l=>by
  simp only[BE,lk];split
  .rfl
  exact CN n e xs s l
 | (j,.loop L) :: l=>by
  simp only[BE,lk];split
  .rfl
  exact CN n e xs s l
 | (j,.itr c g d f b) :: l=>by
  simp only[BE,lk];split
  .rfl
  exact CN n e xs s l
 | (j,.dfr) :: l=>by
  simp only[BE,lk];split
  .rfl
  exact CN n e xs s l
 | (j,.sit sb sp) :: l=>by
  simp only[BE,lk];split
  .rfl
  exact CN n e xs s l
theorem SD (n:Nat) (e:Ty) (xs:List e.den):∀l:List AV,(AV.frzs n e xs l).length=l.length
 | []=>rfl
 | _ :: r=>by simp[AV.frzs,SD n e xs r]
section
variable {V V':Vw} {n:Nat} {et:TypeId} {e:Ty} {xs:List e.den}
structure jM (V V':Vw) (n:Nat):Prop where
 w:V'.w=V.w
 ρ:V'.ρ=V.ρ
 L:∀m,V.L m->m≠n->V'.L m
 O:∀b,¬V.O b->¬V'.O b
 n:∀b,bk (V.ρ n) b->¬V'.O b
theorem jM.keeps (h:jM V V' n):Cq (V.but n) V':=⟨λb _ c=>h.O b c,λm a=>h.L m a.1 a.2,λm _=>by rw[h.ρ];rfl,λb _ _=>by rw[h.w];rfl⟩
structure NQ (V V':Vw) (n:Nat) (e:Ty) (xs:List e.den):Prop where
 seat:seat (V.ρ n)
 read:∀lo hi v,DN (plc (V.ρ n)) e.size lo hi v->Bw V'.w V'.O (.slice e) [v] (sub xs lo hi)
theorem cQ {V:Vw} {et:TypeId} {e:Ty} {xs:List e.den} {loc:Value} (b:BC V (.arr et e xs) loc):seat loc:=by
 obtain⟨_,cells',c,_⟩:=b;rcases c.2 with ⟨a,_⟩|⟨g,cap,d,a,_⟩
 .exact .inl ⟨_,_,_,a⟩
 exact .inl ⟨_,_,_,a⟩
theorem jM.arr (h:jM V V' n) (a:BC V (.arr et e xs) (V.ρ n)):NQ V V' n e xs:=⟨cQ a,λlo hi v f=>by
 have d:=ZH (V:=V) (O':=V'.O) h.O (λb c=>h.n b (.inl c)) a f
 rwa [<-h.w]at d⟩
theorem jM.nest (h:jM V V' n) {f:TypeId} {k e:Ty} {xs:List (k.den×List e.den)} (a:BC V (.nest et f k e xs none) (V.ρ n)):NQ V V' n (.agg (.prod k (.slice e))) xs:=⟨by
 obtain⟨o,ins,cells,b,_⟩:=a;exact b.elim (λh=>.inr ⟨_,h⟩) (λh=>.inl ⟨_,_,_,h.1⟩),λlo hi v d=>by
 have c:=b5 (V:=V) (O':=V'.O) h.O h.n a d
 rwa [<-h.w]at c⟩
theorem ZV (h:jM V V' n) (g:NQ V V' n e xs) {v:Value} (b:Ld V x v):Ld V' (x.frz n e xs) v/\((∀t d,x≠.p t d)->∀t d,x.frz n e xs=.p t d->t.wrap [v]=v/\Bw V'.w V'.O t [v] d):=by
 have hk:=h.keeps;have c:=g.seat;cases x;case sr m f lo hi =>
  simp only[AV.frz];split
  .rename_i a;subst a;split
   .rename_i q;subst q;obtain⟨y,k⟩:=b;have j:=g.read lo hi v k;obtain⟨_,_,_,_,_,_,s,u,l,_⟩:=k;refine⟨⟨[v],j,by rw[l];rfl⟩,λ_ t d h=>?_⟩;injection h with h1 o
    subst h1;cases o;exact⟨by rw[l];rfl,j⟩
   exact⟨trivial,λ_ t d h=>by cases h⟩
  rename_i a;have:=Ie c b;simp only[AV.drp,An a]at this;exact⟨this.keeps hk,λ_ t d h=>by cases h⟩
 case ep m f i z off =>
  have:=Ie c b;simp only[AV.drp]at this;simp only[AV.frz];split
  .exact⟨trivial,λ_ t d h=>by cases h⟩
  rename_i a;rw[An a]at this;exact⟨this.keeps hk,λ_ t d h=>by cases h⟩
 case nin m f i len =>
  have:=Ie c b;simp only[AV.drp]at this;simp only[AV.frz];split
  .exact⟨trivial,λ_ t d h=>by cases h⟩
  rename_i a;rw[An a]at this;exact⟨this.keeps hk,λ_ t d h=>by cases h⟩
 case p t d=>exact⟨(Ie c b).keeps hk,λr=>absurd rfl (r t d)⟩
 all_goals
  have:=Ie c b;simp only[AV.drp]at this;simp only[AV.frz];exact⟨this.keeps hk,λ_ t d h=>by cases h⟩
theorem xN (h:jM V V' n) (k:NQ V V' n e xs) {cs:List Value} (h0:W7 x=false) (c:F0 V x cs):F0 V' (x.frz n e xs) cs:=by
 by_cases g:∃t d,x=.p t d
 .obtain⟨t,d,rfl⟩:=g;simp only[AV.frz];have c:Bw V.w V.O t cs d:=c;have:Bw V'.w V'.O t cs d:=c.mono (λb _ j=>h.O b j) (λb _ _=>by rw[h.w]);exact this
 have m:∃v,cs=[v]/\v.oneCell'=true/\Ld V x v:=by
  cases x;case p t d=>exact absurd ⟨t,d,rfl⟩ g
  case ag l=>cases h0
  all_goals exact c
 obtain⟨v,rfl,h1,i⟩:=m;obtain⟨f,a⟩:=ZV h k i;have a:=a (λt d e=>g ⟨t,d,e⟩);generalize o:x.frz n e xs=y at f a;cases y;case p t d=>exact(a t d rfl).2
 case ag l=>exact f.elim
 all_goals exact⟨v,rfl,h1,f⟩
theorem xO (h:jM V V' n) (a:NQ V V' n e xs):(∀(x:AV) (cs:List Value),F0 V x cs->F0 V' (x.frz n e xs) cs)/\∀(l:List AV) (cs:List Value),AVCs V l cs->AVCs V' (AV.frzs n e xs l) cs :=
 O5 (λ_=>by simp only[AV.frz]) (by simp only[AV.frzs]) (λ_ _=>by simp only[AV.frzs]) (xN h a)
theorem UV (h:jM V V' n) (a:NQ V V' n e xs) {l:List AV} {cs:List Value} (b:AVCs V l cs):AVCs V' (AV.frzs n e xs l) cs:=(xO h a).2 l cs b
theorem A3v (h:jM V V' n) (b:NQ V V' n e xs) {v:Value} (a:R2 V x v):R2 V' (x.frz n e xs) v:=by
 cases x;case ag l=>obtain⟨cs,h1,c⟩:=a;simp only[AV.frz];exact⟨cs,h1,UV h b c⟩
 all_goals
  simp only[R2]at a;exact R2.of1 (ZV h b a).1
theorem cR (h:jM V V' n) (c:NQ V V' n e xs):∀ {l:List AV} {a:List Value},Ho V l a->Ho V' (AV.frzs n e xs l) a
 | [],a,b=>(b:a=[])
 | x :: r,a,b=>by
  obtain⟨v,f,rfl,h1,d⟩:=b;simp only[AV.frzs];exact⟨v,f,rfl,A3v h c h1,cR h c d⟩
theorem n5 (h:jM V V' n) (c:NQ V V' n e xs) {v:Value} (a:B4 V x v):B4 V' (x.frz n e xs) v:=by
 cases x;case ag l=>obtain⟨cs,h1,b⟩:=a;simp only[AV.frz];exact⟨cs,h1,UV h c b⟩
 case tup l=>obtain⟨d,h1,b⟩:=a;simp only[AV.frz];exact⟨d,h1,cR h c b⟩
 all_goals
  simp only[B4]at a;exact A3r (ZV h c a).1
end
theorem cS (hs:B7 w0 K O0 nt ds σ ρ a w) (n:Nat) (N:¬G1 n=true) {W:Obj} (hn:lk n σ.objs=some W) {xs:List e.den}
  (R:jM (vw w O0 σ ρ) (vw w O0 ⟨Db n e xs σ.env,BE n e xs (del n σ.objs)⟩ ρ) n->NQ (vw w O0 σ ρ) (vw w O0 ⟨Db n e xs σ.env,BE n e xs (del n σ.objs)⟩ ρ) n e xs) :
  B7 w0 K O0 nt ds ⟨Db n e xs σ.env,BE n e xs (del n σ.objs)⟩ ρ a w:=by
 have F:∀m x,lk m (BE n e xs (del n σ.objs))=some x->m≠n/\∃y,lk m σ.objs=some y/\x=y.frz n e xs:=by
  intro m x d;rw[CN,Qp]at d;split at d
  .simp at d
  rename_i B;simp only[OF]at d;grind
 have i:∀m,G0 ⟨Db n e xs σ.env,BE n e xs (del n σ.objs)⟩ m↔(G0 σ m/\m≠n):=by
  intro m;constructor
  .rintro⟨x,C⟩;obtain⟨h1,y,h,_⟩:=F m x C;exact⟨⟨y,h⟩,h1⟩
  rintro⟨⟨x,C⟩,B⟩;exact⟨x.frz n e xs,by simp[CN,Qp,B,C]⟩
 have hF:jM (vw w O0 σ ρ) (vw w O0 ⟨Db n e xs σ.env,BE n e xs (del n σ.objs)⟩ ρ) n:=by
  refine⟨rfl,rfl,λm h1 h=>(i m).2 ⟨h1,h⟩,λb f A=>?_,λb f A=>?_⟩
  .rcases A with h0|⟨m,c,d⟩
   .exact f (.inl h0)
   exact f (.inr ⟨m,((i m).1 c).1,d⟩)
  have f:bk (ρ n) b:=f;rcases A with h0|⟨m,c,d⟩
  .exact(hs.free n b ⟨_,hn⟩ f).2 h0
  exact((i m).1 c).2 (hs.dist m n b ((i m).1 c).1 ⟨_,hn⟩ d f)
 have t:=R hF;have Q:∀p∈ds.pin,G0 ⟨Db n e xs σ.env,BE n e xs (del n σ.objs)⟩ p.1/\ρ p.1=p.2/\(A6y p.2=true\/G1 p.1=true):=by
  intro p P;obtain⟨h1,h,q⟩:=hs.pin p P;refine⟨(i p.1).2 ⟨h1,λj=>?_⟩,h,q⟩;have q:A6y p.2=true:=q.resolve_right (by rw[j];exact N);have D:seat (ρ n):=t.seat;rw[<-j,h]at D;rcases D with ⟨_,_,_,E⟩|⟨_,E⟩<;>rw[E]at q<;>cases q
 refine⟨hs.frm,hs.nt,hs.defers,Q,?_,?_,?_,?_⟩
 .intro m x d;obtain⟨B,y,r,rfl⟩:=F m x d;have g:=hs.objs m y r;cases y with
  | arr u j J=>exact BC.keeps (V:=(vw w O0 σ ρ).but n) hF.keeps (λ_ _=>rfl) g
  | box u st fs =>
   obtain⟨h0,b,cs,c,hh,M⟩:=g;exact⟨λS=>by rw[SD];exact h0 S,b,cs,c,hh,UV hF t M⟩
  | nest u T U j J c=>exact BC.keeps (V:=(vw w O0 σ ρ).but n) (o:=.nest u T U j J c) hF.keeps (λ_ _=>rfl) (Mi (V:=vw w O0 σ ρ) (V':=(vw w O0 σ ρ).but n) rfl rfl g)
  | mapo k v l=>exact BC.keeps (V:=(vw w O0 σ ρ).but n) hF.keeps (λ_ _=>rfl) g
  | frame ad fs =>
   obtain⟨h0,h1⟩:=g;refine⟨h0,λs z H=>?_⟩;simp only[Ml,OF]at H;obtain⟨y,r,rfl⟩:=H;exact n5 hF t (h1 s y r)
  | loop L=>exact BC.keeps (V:=(vw w O0 σ ρ).but n) hF.keeps (λ_ _=>rfl) g
  | itr Y ab Z aa X=>exact BC.keeps (V:=(vw w O0 σ ρ).but n) hF.keeps (λ_ _=>rfl) g
  | dfr=>exact BC.keeps (V:=(vw w O0 σ ρ).but n) hF.keeps (λ_ _=>rfl) g
  | sit sb sp=>exact BC.keeps (V:=(vw w O0 σ ρ).but n) hF.keeps (λ_ _=>rfl) g
 .intro m b c f;exact hs.free m b ((i m).1 c).1 f
 .intro m I b c O h1 h;exact hs.dist m I b ((i m).1 c).1 ((i I).1 O).1 h1 h
 intro s v G;simp only[Ml,OF]at G;obtain⟨y,r,rfl⟩:=G;exact n5 hF t (hs.env s y r)
theorem A3w (hs:B7 w0 K O0 nt ds σ ρ a w) (n:Nat):B7 w0 K O0 nt ds (frz n σ) ρ a w:=by
 unfold frz;split
 .exact hs
 rename_i b;cases hn:lk n σ.objs with
 | none=>exact hs
 | some d =>
 cases d with
 | box et st fs=>exact hs
 | mapo k v l=>exact hs
 | frame q fs=>exact hs
 | loop L=>exact hs
 | itr j p m o f=>exact hs
 | dfr=>exact hs
 | sit sb sp=>exact hs
 | arr et e xs=>exact cS hs n b hn λh=>h.arr (hs.objs n _ hn)
 | nest et g k e xs c =>
  cases c with
  | some i=>exact hs
  | none=>exact cS hs n b hn λh=>h.nest (hs.objs n _ hn)
theorem KI:∀ {l:List Nat} {σ:St},B7 w0 K O0 nt ds σ ρ a w->B7 w0 K O0 nt ds (Cw l σ) ρ a w
 | [],_,h=>h
 | n :: r,σ,h=>KI (l:=r) (σ:=frz n σ) (A3w h n)
end
end
section
open Go Go.RowKit
section
variable {P:Program} {tb:Tb} {w0:World} {K O0:Nat->Prop} {nt:Nat} {ds:Fp} {σ σ':St} {ρ:Nat->Value} {a:Act} {w:World} {vc:Prop}
theorem A3x (hs:B7 w0 K O0 nt ds σ ρ a w) (bs:∀b,K b->b<w0.heap.size) (bt:∀b,O0 b->b<w0.heap.size) (hT:C7 P tb) {d:Nat} (bx:d<nt) {ty:TypeId} {x:Operand} {n i len:Nat} {v:AV}
  (cm:Aj σ x=some (.nin n e i len)) (cn:Aj σ y=some v) {et:TypeId} {xs:List (k.den×List e.den)} (hn:lk n σ.objs=some (.nest et R k e xs none)) (ca:G1 n=false)
  (hu:P.underlying t=some (.slice R)) {te:TI} (an:lk R tb.ty=some te) (ao:te.ty=e) (h:NN σ d n et R k e xs i te.bytes (Ow σ e v)=some (vc,σ')) (ab:vc) :
  ∃z w' ρ',(Builtin.append_ #[t,t] ty #[a.eval x,a.eval y]).run P w=.ok z w'/\B7 w0 K O0 nt ds σ' ρ' (a.put (some d) z) w':=by
 have av:EY (vw w O0 σ ρ) σ a.eval:=Cg hs.env;cases ap:Ow σ e v with
 | none=>rw[ap]at h;simp[NN]at h
 | some ys =>
  rw[ap]at h;simp only[NN]at h;split at h
  .rename_i aw;have al:lk d σ.objs=none:=by simpa using aw.1
   cases h;obtain⟨cs,W⟩:=TB hs.objs ap (av y _ cn);obtain⟨cw,ct,ad,c,U,J,E,cc,dc⟩:=av x _ cm;have J:ρ n=.tuple ct:=J;have be:=hs.objs n _ hn;have ax:=ZJ (z:=(k.dflt,[])) be J E;obtain⟨o,ins,cells,ck,C⟩:=be;obtain rfl:=ck.tup J;have E:ins[i]?=some U:=by simpa using E
   obtain⟨c1,dd,bw,cj,s⟩:=C.row i _ _ ax E;rcases s with ⟨s,_⟩|⟨_,cy,p,bg,N,bz⟩
   .cases s
   generalize db:xs.getD i (k.dflt,[])=row at *;obtain⟨z,w',Q,D,B,am,bf⟩:∃z w',(Builtin.append_ #[t,t] ty #[a.eval x,a.eval y]).run P w=.ok z w'/\w'.ownsRow 0 R e.size z (row.2.length+ys.length) (bg++cs)/\w.grownBy w' (blk U)/\row.2.length+ys.length<=AP/\(blk z=blk U\/∀b,blk z=some b->w.heap.size<=b):=by
    rcases cc with G|⟨G,aq,cl⟩
    .rw[G];obtain⟨z,w',Q,D,B,am⟩:=GD (ty:=ty) hT hu an ao N W ab (GO _);have bf:=HL (ty:=ty) hT hu an ao N W ab Q;rw[TD N]at B;exact⟨z,w',Q,D,B,am,bf⟩
    subst G;have bc:=KE N;have ci:row.2=[]:=AAc bc.symm;have cb:bg=[]:=AAc (by rw[N.1,<-bc,ADc]);subst cb;have co:0<ys.length:=by
     cases ys with
     | nil=>simp at aw
     | cons _ _=>simp
    rw[cl];rw[ci]at ab ⊢;obtain⟨z,w',Q,D,B⟩:=R6 (ty:=ty) hT hu an ao (xs:=([]:List e.den)) (a:=aq) (TA w (own O0 σ ρ) e aq 0) W co ab;refine⟨z,w',Q,⟨D.1,D.2.imp (λh=>h) λ⟨g,cap,ah,e,_,r⟩=>⟨g,cap,ah,e,GO _,r⟩⟩,B,by simpa using W.max,.inr λb f=>?_⟩;rcases D.2 with ⟨h1,_⟩|⟨g,cap,ah,h1,q,_⟩
    .rw[h1]at f;simp[blk]at f
    rw[h1]at f;simp[blk]at f;omega
   have Y:∀b,bk (ρ n) b↔blk o=some b\/∃(j:Nat) (u:Value),ins[j]?=some u/\blk u=some b:=λb=>by rw[J];exact BH
   have cz:i<ins.length:=(TO.1 E).1;have bd:n≠d:=λl=>by rw[l,al]at hn;cases hn
   generalize az:(Value.tuple (o :: ins.set i (.slice none 0 0)).toArray)=loc;have af:Ei (Ei ρ n loc) d z n=loc:=by simp[Ei,bd]
   have ae:Ei (Ei ρ n loc) d z d=z:=Bp _ _ _;have ag:∀m,m≠n->m≠d->Ei (Ei ρ n loc) d z m=ρ m:=λm h1 q=>by simp[Ei,h1,q]
   generalize Ei (Ei ρ n loc) d z=ρ' at af ae ag;have aa:∀(j:Nat) (u:Value),(ins.set i (.slice none 0 0))[j]?=some u->(j=i/\u=.slice none 0 0)\/(j≠i/\ins[j]?=some u):=by grind
   have au:∀b,bk loc b->blk o=some b\/∃(j:Nat) (u:Value),j≠i/\ins[j]?=some u/\blk u=some b:=by grind [BH,blk]
   have bv:∀b,bk loc b->bk (ρ n) b:=λb f=>(Y b).2 ((au b f).imp id λ⟨j,u,_,h1,q⟩=>⟨j,u,h1,q⟩);have Z:∀b,blk U=some b->bk (ρ n) b:=λb f=>(Y b).2 (.inr ⟨i,_,E,f⟩);have cx:∀b,bk z b->blk z=some b:=λb f=>by
    rcases D.2 with ⟨G,_⟩|⟨g,cap,ah,G,_⟩<;>rw[G]at f ⊢<;>exact Lc.1 f
   have cr:∀b,bk z b->blk U=some b\/w.heap.size<=b:=λb f=>by grind
   have ba:∀b,bk (ρ n) b->b<w.heap.size:=λb f=>(hs.objs n _ hn).block_lt f;have da:∀b,bk loc b->blk U≠some b:=by
    intro b f G;rcases au b f with h1|⟨j,u,h1,q,s⟩
    .exact C.out i b _ E G h1
    exact h1 (C.dist j i b u _ q E s G)
   have ay:(row.2++ys).length=row.2.length+ys.length:=by simp
   let S:St:=⟨(d,.sr d e 0 (row.2.length+ys.length)) :: EU n [] σ.env,(d,.arr R e (row.2++ys)) :: (n,.nest et R k e xs (some i)) :: Cz n [] σ.objs⟩
   have ar:∀m H,lk m S.objs=some H->(m=d/\H=.arr R e (row.2++ys))\/(m=n/\m≠d/\H=.nest et R k e xs (some i))\/(m≠d/\m≠n/\∃A,lk m σ.objs=some A/\H=A.trn n []):=by
    intro m H p;simp only[S,lk]at p;split at p
    .rename_i l;cases p;exact .inl ⟨l,rfl⟩
    rename_i l;split at p
    .rename_i ai;cases p;exact .inr (.inl ⟨ai,l,rfl⟩)
    rename_i ai;rw[DP]at p;split at p
    .cases p
    simp only[OF]at p;obtain⟨A,h1,rfl⟩:=p;exact .inr (.inr ⟨l,ai,A,h1,rfl⟩)
   have bu:∀m,m≠d->m≠n->∀A,lk m σ.objs=some A->lk m S.objs=some (A.trn n []):=by grind [lk,DP,Ag]
   have cg:∀b,b<w.heap.size->¬own O0 σ ρ b->¬own O0 S ρ' b:=by
    intro b f I cq;rcases cq with h0|⟨m,⟨H,cf⟩,L⟩
    .exact I (.inl h0)
    rcases ar m H cf with ⟨rfl,_⟩|⟨rfl,_,_⟩|⟨h1,q,A,s,_⟩
    .rw[ae]at L;rcases cr b L with F|F
     .exact I (.inr ⟨n,⟨_,hn⟩,Z b F⟩)
     omega
    .rw[af]at L;exact I (.inr ⟨_,⟨_,hn⟩,bv b L⟩)
    rw[ag m q h1]at L;exact I (.inr ⟨m,⟨A,s⟩,L⟩)
   have ch:plc loc=o:=by rw[<-az];rfl
   have X:PE (vw w O0 σ ρ) (vw w' O0 S ρ') n []:=by
    refine⟨cg,λm p _=>?_,λm p _ ce=>?_,⟨_,J⟩,?_,λb f I=>B.block b f λl=>I (.inr ⟨n,⟨_,hn⟩,Z b l.symm⟩)⟩
    .obtain⟨A,h1⟩:=p;by_cases bb:m=n
     .subst bb;exact⟨.nest et R k e xs (some i),by simp[S,lk,bd]⟩
     have cd:m≠d:=λl=>by rw[l,al]at h1;cases h1
     exact⟨_,bu m cd bb A h1⟩
    .obtain⟨A,h1⟩:=p;exact ag m ce (λl=>by rw[l,al]at h1;cases h1)
    show plc (ρ' n)=plc (ρ n);rw[af,ch,J];rfl
   have M:Cq ⟨w,own O0 σ ρ,λ_=>False,ρ⟩ (vw w' O0 S ρ'):=⟨X.O,λ_ h=>h.elim,λ_ h=>h.elim,X.heap⟩;refine⟨z,w',ρ',Q,hs.swap bs bt (T:=λm=>m=n) (λm p=>by obtain rfl:m=n:=p;exact⟨ca,_,hn,by rw[J];exact .inr ⟨_,rfl⟩⟩) (new:=[(d,.arr R e (row.2++ys)),(n,.nest et R k e xs (some i))]) B.os B.tape B.output B.size ?_ ?_ ?_ ?_ ?_ ?_ ?_ ?_⟩
   .exact λb f I=>B.block b f λl=>I n rfl (Z b l.symm)
   .grind [lk]
   .grind [lk]
   .grind [lk]
   .grind [lk]
   .grind [bk,lk]
   .intro m H p;rcases ar m H p with ⟨rfl,rfl⟩|⟨rfl,_,rfl⟩|⟨h1,q,A,s,rfl⟩
    .rw[ae];refine⟨by rw[ay];exact am,_,by rw[ay];exact D,?_⟩;exact Dm.keeps M (KH bz W.elems N.1)
    .rw[af];refine⟨o,ins.set i (.slice none 0 0),cells,.inl az.symm,C.max,by rw[AAp];exact C.len,I5 (λb f=>B.block b (ba b ((Y b).2 (.inl f))) λl=>C.out i b _ E l.symm f) C.own,λj cu u h1 q=>?_,?_,?_⟩
     .rcases aa j u q with ⟨rfl,rfl⟩|⟨s,F⟩
      .rw[ax]at h1;cases h1;exact⟨c1,_,bw,Bw.mono M.O M.heap cj,.inl ⟨sc,rfl⟩⟩
      obtain⟨c2,bm,bn,bo,aj⟩:=C.row j cu u h1 F;rcases aj with ⟨aj,_⟩|⟨_,bp,bq⟩
      .cases aj
      refine⟨c2,bm,bn,Bw.mono M.O M.heap bo,.inr ⟨ABp.2 (λl=>s (by injection l with l;exact l.symm)),bp,?_⟩⟩;exact Qo.keeps (V:=⟨w,own O0 σ ρ,λ_=>False,ρ⟩) M (λb f=>B.block b (ba b ((Y b).2 (.inr ⟨j,u,F,f⟩))) λl=>s (C.dist j i b u _ F E f l.symm)) bq
     .intro bh bi b bj bl h1 q s F;rcases aa bh bj h1 with ⟨_,rfl⟩|⟨_,ak⟩
      .simp[blk]at s
      rcases aa bi bl q with ⟨_,rfl⟩|⟨_,br⟩
      .simp[blk]at F
      exact C.dist bh bi b bj bl ak br s F
     intro j b u h1 q;rcases aa j u h1 with ⟨_,rfl⟩|⟨_,ak⟩
     .simp[blk]at q
     exact C.out j b u ak q
    rw[ag m q h1];refine nZ X (λb f=>B.block b ((hs.objs m A s).block_lt f) λl=>q (hs.dist m n b ⟨_,s⟩ ⟨_,hn⟩ f (Z b l.symm))) (hs.objs m A s)
   intro s2 bm el;rw[Mh a d z s2 (by rw[hs.nt];exact bx)];simp only[S,lk]at el;split at el
   .rename_i es;cases el;rw[At es];refine⟨⟨.arr R e (row.2++ys),by simp[S,lk]⟩,?_⟩;show DN (plc (ρ' d)) e.size 0 _ z;rw[ae,HK D];exact GB D
   rename_i es;rw[An es];rw[FU]at el;simp only[OF]at el;obtain⟨cv,cp,rfl⟩:=el;exact ZU X (hs.env s2 cv cp)
  cases h
end
end
section
open Go Go.RowKit
theorem ZW {et:TypeId} {sz len g m c:Nat} {cells:List Value} (h:w.ownsRow 0 et sz (.slice (some ⟨g,0,none⟩) m c) len cells) {p:Nat} (C:p<len*sz) (v:Value) :
  ∃a:List Value,w.heap[g]?=some (.cells a.toArray et (0,0))/\p+1<=a.length/\(w.setRow g (A6 a p [v]).toArray).ownsRow 0 et sz (.slice (some ⟨g,0,none⟩) m c) len (cells.set p v):=by
 obtain⟨t,l⟩:=h;rcases l with ⟨d,_⟩|⟨y,cap,a,d,z,i,e,o,f,u⟩
 .cases d
 injection d with b q r
 injection b with b
 injection b with b
 subst b;have A:len*sz<=cap*sz:=AAe _ e;have B:a.toList.length=cap*sz:=by rw[<-f];simp
 have n:p + [v].length<=a.toList.length:=by simp only[nO];omega
 have s:w.heap[g]?=some (.cells a.toList.toArray et (0,0)):=by simpa using i
 have k:A6 a.toList p [v]=a.toList.set p v:=by
  apply ACv;intro j;simp only[A6,AAg,AB4,Of,AAl,AB5,nO,ABf];have x:min p a.toList.length=p:=by omega
  simp only[x];by_cases c1:j<p
  .grind
  grind
 refine⟨a.toList,s,by simpa using n,?_,.inr ⟨g,cap,_,by rw[q,r],GO _,setRow_heap w g _ _ et _ i,e,o,?_,?_⟩⟩
 .rw[AAp];exact t
 .rw[k];simp[f]
 rw[k,<-u];simp[List.take_set]
section
variable {P:Program} {tb:Tb} {w0:World} {K O0:Nat->Prop} {nt:Nat} {ds:Fp} {σ σ':St} {ρ:Nat->Value} {a:Act} {w:World} {vc:Prop}
theorem xP (hs:B7 w0 K O0 nt ds σ ρ a w) (bm:∀b,K b->b<w0.heap.size) (bn:∀b,O0 b->b<w0.heap.size) (hT:C7 P tb) (ht:lk t tb.ty=some X) {x:Operand} {n m i hi:Nat} {k e:Ty} (ch:X.ty=.slice e) {cr:List Nat}
  (ci:Aj σ x=some (.ep n (.agg (.prod k (.slice e))) i cr k.size)) (cm:Aj σ y=some (.sr m e 0 hi)) {et:TypeId} {xs:List (k.den×List e.den)} {ys:List e.den} (hn:lk n σ.objs=some (.nest et B k e xs (some i))) (G:lk m σ.objs=some (.arr B e ys))
  (bu:G1 n=false) (cy:G1 m=false) (dc:hi=ys.length) :
  ∃w' ρ',(Instr.storeAt t (a.eval x) (a.eval y)).run P w=.ok () w'/\B7 w0 K O0 nt ds ⟨EU n [m] σ.env,(n,.nest et B k e (xs.set i ((xs.getD i (k.dflt,[])).1,ys)) none) :: Cz n [m] σ.objs⟩ ρ' a w':=by
 have ar:EY (vw w O0 σ ρ) σ a.eval:=Cg hs.env;have cc:m≠n:=λd=>by rw[d,hn]at G;cases G
 obtain⟨cw,g,be,c,al,bz,ck⟩:=ar x _ ci;obtain⟨cx,bh,cq,bi,N,_,da,ct,cu,dd,_,h0,_⟩:=ar y _ cm;obtain⟨o,ins,cells,ba,id⟩:=hs.objs n _ hn;have ao:Qo (vw w O0 σ ρ) B e ys (ρ m):=hs.objs m _ G;have aw:=hs.objs m _ G;have N:plc (ρ m)=.slice bh cq bi:=N;rw[S8 aw]at N;have cp:a.eval y=ρ m:=by
  obtain⟨rfl,rfl⟩:=h0 rfl;obtain⟨_,de,db,_⟩:=ao;grind [KE]
 have al:plc (ρ n)=.slice (some ⟨g,0,none⟩) be c:=al;have cd:o=.slice (some ⟨g,0,none⟩) be c:=by rw[<-ba.plc];exact al
 subst cd;have cb:=KE id.own;subst cb;have M:i<xs.length:=bz;have aj:i<ins.length:=by rw[id.len];exact M
 have aa:ρ n=.tuple ((.slice (some ⟨g,0,none⟩) xs.length c) :: ins).toArray:=ba.resolve_right λh=>by rw[h.2.2]at aj;simp at aj
 have ax:i*(k.size+1)+k.size<xs.length*(k.size+1):=by
  have:(i+1)*(k.size+1)<=xs.length*(k.size+1):=AAe _ M;rw[ABr]at this;omega
 obtain⟨Q,bv,br,Y⟩:=ZW id.own ax (ρ m);have cf:(ρ m).oneCell'=true:=by rw[N];rfl
 have W:(a.eval y).cells=#[ρ m]:=by rw[cp,N];rfl
 have az:=Li (P:=P) (xv:=a.eval y) (hT _ _ ht) bv (off:=i*(k.size+1)+k.size) (by rw[W,ch];rfl) (by rw[W];simpa using br) (by rw[W];intro u hu;simp at hu;subst hu;exact cf);rw[W]at az;refine⟨_,Ei ρ n (.tuple ((.slice (some ⟨g,0,none⟩) xs.length c) :: ins.set i (ρ m)).toArray),by rw[ck];exact az,?_⟩;have E:=Fq w g (A6 Q (i*(k.size+1)+k.size) [ρ m]).toArray;change B7 w0 K O0 nt ds _ _ a (w.setRow g (A6 Q (i*(k.size+1)+k.size) [ρ m]).toArray);have Y:(w.setRow g (A6 Q (i*(k.size+1)+k.size) [ρ m]).toArray).ownsRow 0 et (k.size+1) (.slice (some ⟨g,0,none⟩) xs.length c) xs.length (cells.set (i*(k.size+1)+k.size) (ρ m)):=Y;generalize w.setRow g (A6 Q (i*(k.size+1)+k.size) [ρ m]).toArray=w' at E Y;generalize av:(Value.tuple ((.slice (some ⟨g,0,none⟩) xs.length c) :: ins.set i (ρ m)).toArray)=loc;have ab:Ei ρ n loc n=loc:=Bp _ _ _;have ad:∀j,j≠n->Ei ρ n loc j=ρ j:=λj h1=>by simp[Ei,h1]
 generalize Ei ρ n loc=ρ' at ab ad;have aq:∀b,bk (ρ n) b↔blk (.slice (some ⟨g,0,none⟩) xs.length c)=some b\/∃(j:Nat) (u:Value),ins[j]?=some u/\blk u=some b:=λb=>by rw[aa];exact BH
 have Z:∀(j:Nat) (u:Value),(ins.set i (ρ m))[j]?=some u->(j=i/\u=ρ m)\/(j≠i/\ins[j]?=some u):=by grind
 have ag:∀b,blk (ρ m)=some b->bk (ρ m) b:=λb f=>.inl f;have bp:∀b,bk loc b->bk (ρ n) b\/blk (ρ m)=some b:=by grind [BH]
 have bs:∀b,bk (ρ n) b->blk (ρ m)=some b->False:=λb h1 s=>cc (hs.dist m n b ⟨_,G⟩ ⟨_,hn⟩ (ag b s) h1);have ah:bk (ρ n) g:=(aq g).2 (.inl rfl);have bx:∀b,bk (ρ n) b->b<w.heap.size:=λb f=>(hs.objs n _ hn).block_lt f;have ca:∀b,blk (ρ m)=some b->b<w.heap.size:=λb f=>aw.block_lt (ag b f)
 let S:St:=⟨EU n [m] σ.env,(n,.nest et B k e (xs.set i ((xs.getD i (k.dflt,[])).1,ys)) none) :: Cz n [m] σ.objs⟩
 have ap:∀j C,lk j S.objs=some C->(j=n/\C=.nest et B k e (xs.set i ((xs.getD i (k.dflt,[])).1,ys)) none)\/(j≠n/\j≠m/\∃r,lk j σ.objs=some r/\C=r.trn n [m]):=by
  intro j C p;simp only[S,lk]at p;split at p
  .grind
  rename_i d;rw[DP]at p;split at p
  .cases p
  rename_i cv;simp only[OF]at p;grind [Ag]
 have bo:∀j,j≠n->j≠m->∀r,lk j σ.objs=some r->lk j S.objs=some (r.trn n [m]):=by grind [lk,DP,Ag]
 have cg:∀b,b<w.heap.size->¬own O0 σ ρ b->¬own O0 S ρ' b:=by
  intro b f H co;rcases co with h0|⟨j,⟨C,ce⟩,U⟩
  .exact H (.inl h0)
  rcases ap j C ce with ⟨rfl,_⟩|⟨h1,s,r,l,_⟩
  .rw[ab]at U;rcases bp b U with v|v
   .exact H (.inr ⟨_,⟨_,hn⟩,v⟩)
   exact H (.inr ⟨m,⟨_,G⟩,ag b v⟩)
  rw[ad j h1]at U;exact H (.inr ⟨j,⟨r,l⟩,U⟩)
 have R:PE (vw w O0 σ ρ) (vw w' O0 S ρ') n [m]:=by
  refine⟨cg,λj p bw=>?_,λj _ _ ak=>ad j ak,⟨_,aa⟩,?_,λb f H=>E.block b f λd=>?_⟩
  .obtain⟨r,h1⟩:=p;by_cases au:j=n
   .exact⟨.nest et B k e (xs.set i ((xs.getD i (k.dflt,[])).1,ys)) none,by simp[S,lk,au]⟩
   exact⟨_,bo j au (λd=>by simp[Ag,d]at bw) r h1⟩
  .show plc (ρ' n)=plc (ρ n);rw[ab,<-av,aa];rfl
  injection d with d
  subst d;exact H (.inr ⟨n,⟨_,hn⟩,ah⟩)
 have F:Cq ⟨w,own O0 σ ρ,λ_=>False,ρ⟩ (vw w' O0 S ρ'):=⟨R.O,λ_ h=>h.elim,λ_ h=>h.elim,R.heap⟩;have ai:∀b,b<w.heap.size->b≠g->w'.heap[b]?=w.heap[b]?:=λb h1 s=>E.block b h1 λd=>s (by injection d);refine hs.swap bm bn (T:=λj=>j=n\/j=m) (dst:=none) (u:=undef) (λj p=>?_) (new:=[(n,.nest et B k e (xs.set i ((xs.getD i (k.dflt,[])).1,ys)) none)]) E.os E.tape E.output E.size ?_ ?_ ?_ ?_ ?_ ?_ ?_ ?_
 .rcases p with rfl|rfl
  .exact⟨bu,_,hn,by rw[aa];exact .inr ⟨_,rfl⟩⟩
  grind [cQ]
 .grind
 .grind [lk]
 .grind [lk]
 .grind [lk]
 .grind [lk]
 .grind [lk]
 .intro j C p;rcases ap j C p with ⟨rfl,rfl⟩|⟨h1,s,r,l,rfl⟩
  .rw[ab];have bq:cells.length=xs.length*(k.size+1):=id.own.1;refine⟨_,ins.set i (ρ m),cells.set (i*(k.size+1)+k.size) (ρ m),.inl av.symm,by rw[AAp];exact id.max,by rw[AAp,AAp];exact id.len,by rw[AAp];exact Y,λj an u h1 s=>?_,?_,?_⟩
   .have bt:∀(c2:List Value) (D:Value),j≠i->c2.length=k.size->(∀(q:Nat) (z:Value),(c2++[D])[q]?=some z->cells[j*(k.size+1)+q]?=some z)->∀(q:Nat) (z:Value),(c2++[D])[q]?=some z->(cells.set (i*(k.size+1)+k.size) (ρ m))[j*(k.size+1)+q]?=some z:=by
     intro c2 D cz ti I q z A;have am:=(TO.1 A).1;simp only[IS,nO,ti]at am;have ak:i*(k.size+1)+k.size≠j*(k.size+1)+q:=by
      intro d;rcases Nat.lt_or_ge i j with l|l
      .have:(i+1)*(k.size+1)<=j*(k.size+1):=AAe _ l;rw[ABr]at this;omega
      have:(j+1)*(k.size+1)<=i*(k.size+1):=AAe _ O1;rw[ABr]at this;omega
     rw[ABf,An ak];exact I q z A
    rcases Z j u s with ⟨rfl,rfl⟩|⟨l,v⟩
    .have cl:xs[j]?=some (xs.getD j (k.dflt,[])):=by
      rw[As M,AS,As M];rfl
     obtain⟨c2,D,I,J,_⟩:=id.row j _ ins[j] cl (As aj);have cj:an=((xs.getD j (k.dflt,[])).1,ys):=by
      rw[ACq M]at h1;exact(Option.some.inj h1).symm
     subst cj;have ti:c2.length=k.size:=J.length;refine⟨c2,ρ m,λq z A=>?_,Bw.mono F.O F.heap J,.inr ⟨rfl,.inl rfl,?_⟩⟩
     .have am:=(TO.1 A).1;simp only[IS,nO,ti]at am;rw[ABf];by_cases ay:q=k.size
      .rw[ay,At rfl,At (by rw[bq];exact ax)];rw[ay,<-ti,AAi (OS _),ABB]at A;exact A
      rw[An O1];refine I q z ?_;rw[AAn O1]at A ⊢;exact A
     exact Qo.keeps (V:=⟨w,own O0 σ ρ,λ_=>False,ρ⟩) F (λb f=>ai b (ca b f) λd=>bs b (by rw[d];exact ah) f) ao
    have h1:xs[j]?=some an:=by
     rw[ABf,An (λd=>l d.symm)]at h1;exact h1
    obtain⟨c2,D,I,J,ae⟩:=id.row j an u h1 v;rcases ae with ⟨ae,_⟩|⟨_,bj,bl⟩
    .exact absurd (by simpa using ae) (λd:i=j=>l d.symm)
    refine⟨c2,D,bt c2 D l J.length I,Bw.mono F.O F.heap J,.inr ⟨rfl,bj,?_⟩⟩;exact Qo.keeps (V:=⟨w,own O0 σ ρ,λ_=>False,ρ⟩) F (λb f=>ai b (bx b ((aq b).2 (.inr ⟨j,u,v,f⟩))) λd=>id.out j b u v f (by rw[d];rfl)) bl
   .intro bc bd b bf bg h1 s l v;rcases Z bc bf h1 with ⟨L,rfl⟩|⟨_,L⟩<;>rcases Z bd bg s with ⟨af,rfl⟩|⟨_,af⟩
    .rw[L,af]
    .grind
    .grind
    exact id.dist bc bd b bf bg L af l v
   intro j b u h1 s l;rcases Z j u h1 with ⟨_,rfl⟩|⟨_,L⟩
   .grind
   exact id.out j b u L s l
  rw[ad j h1];refine nZ R (λb f=>ai b ((hs.objs j r l).block_lt f) λd=>h1 (hs.dist j n b ⟨_,l⟩ ⟨_,hn⟩ f (by rw[d];exact ah))) (hs.objs j r l)
 intro s2 D bb;simp only[FU,OF]at bb;obtain⟨cs,cn,rfl⟩:=bb;exact ZU R (hs.env s2 cs cn)
end
end
section
open Go Go.RowKit
section
variable {P:Program} {tb:Tb} {w0:World} {K O0:Nat->Prop} {nt:Nat} {ds:Fp} {σ σ':St} {ρ:Nat->Value} {a:Act} {w:World} {vc:Prop}
theorem B7.swap1 (h:B7 w0 K O0 nt ds σ ρ a w) (H:∀b,K b->b<w0.heap.size) (I:∀b,O0 b->b<w0.heap.size) {tl:List Nat} (hT:∀n,n∈tl->G1 n=false/\∃o,lk n σ.objs=some o/\seat (ρ n))
  {e:Nat} (ad:e∈tl\/lk e σ.objs=none) {j:Obj} {loc:Value} {w':World}
  (U:w'.os=w.os) (X:w'.tape=w.tape) (V:w'.output=w.output) (W:w.heap.size<=w'.heap.size)
  (B:∀b,b<w.heap.size->(∀n,n∈tl->¬bk (ρ n) b)->w'.heap[b]?=w.heap[b]?)
  (P:∀b,bk loc b->(∃m,m∈tl/\bk (ρ m) b)\/w.heap.size<=b)
  (R:∀V':Vw,V'.w=w'->Cq ⟨w,own O0 σ ρ,λ_=>False,ρ⟩ V'->BC V' j loc)
  {d:Nat} (N:d<nt) {v:AV} {u:Value} (M:∀V':Vw,V'.L e->V'.ρ e=loc->B4 V' v u) :
  B7 w0 K O0 nt ds ⟨(d,v) :: Cv tl σ.env,(e,j) :: A5 tl tl σ.objs⟩ (Ei ρ e loc) (a.put (some d) u) w':=by
 let S:St:=⟨(d,v) :: Cv tl σ.env,(e,j) :: A5 tl tl σ.objs⟩
 have D:∀m o,lk m S.objs=some o->(m=e/\o=j)\/(m≠e/\m∉tl/\∃c,lk m σ.objs=some c/\o=c.fgt tl):=by
  intro m o f;simp only[S,lk]at f;split at f
  .grind
  rename_i aa;rw[CW]at f;split at f
  .cases f
  rename_i ab;simp only[OF]at f;grind [Am]
 have J:∀m,m≠e->m∉tl->∀c,lk m σ.objs=some c->lk m S.objs=some (c.fgt tl):=by grind [lk,CW,Am]
 have F:∀m,m∉tl->(∃o,lk m σ.objs=some o)->m≠e:=by grind
 have r:Ei ρ e loc e=loc:=Bp _ _ _;have z:∀m,m≠e->Ei ρ e loc m=ρ m:=λm h1=>by simp[Ei,h1]
 generalize Ei ρ e loc=ρ' at r z;have G:∀b,b<w.heap.size->¬own O0 σ ρ b->¬own O0 S ρ' b:=by
  intro b l p Z;rcases Z with h0|⟨m,⟨o,Q⟩,q⟩
  .exact p (.inl h0)
  rcases D m o Q with ⟨rfl,_⟩|⟨h1,i,c,g,_⟩
  .rw[r]at q;rcases P b q with ⟨t,ht,C⟩|C
   .obtain⟨_,c,k,_⟩:=hT t ht;exact p (.inr ⟨t,⟨c,k⟩,C⟩)
   omega
  rw[z m h1]at q;exact p (.inr ⟨m,⟨c,g⟩,q⟩)
 have E:∀b,b<w.heap.size->¬own O0 σ ρ b->w'.heap[b]?=w.heap[b]?:=λb l p=>B b l λn hn A=>by
  obtain⟨_,c,k,_⟩:=hT n hn;exact p (.inr ⟨n,⟨c,k⟩,A⟩)
 have O:Cq ⟨w,own O0 σ ρ,λ_=>False,ρ⟩ (vw w' O0 S ρ'):=⟨G,λ_ h=>h.elim,λ_ h=>h.elim,E⟩;have hk:Cq ((vw w O0 σ ρ).buts tl) (vw w' O0 S ρ'):=by
  refine⟨G,λm f=>?_,λm f=>?_,E⟩
  .obtain⟨⟨c,h1⟩,i⟩:=f;have g:m∉tl:=λh=>by rw[(Am _ _).2 h]at i;cases i
   exact⟨_,J m (F m g ⟨c,h1⟩) g c h1⟩
  obtain⟨⟨c,h1⟩,i⟩:=f;have g:m∉tl:=λh=>by rw[(Am _ _).2 h]at i;cases i
  exact z m (F m g ⟨c,h1⟩)
 refine h.swap H I (T:=λm=>m∈tl) hT (new:=[(e,j)]) U X V W B ?_ ?_ ?_ ?_ ?_ ?_ ?_
 .grind [lk]
 .grind [lk]
 .grind [lk]
 .grind [lk]
 .grind [lk]
 .intro m o f;rcases D m o f with ⟨rfl,rfl⟩|⟨h1,i,c,g,rfl⟩
  .rw[r];exact R _ rfl O
  rw[z m h1];refine ZS hk (λb l=>B b ((h.objs m c g).block_lt l) λn hn A=>?_) (h.objs m c g);obtain⟨_,ae,k,_⟩:=hT n hn;exact i ((h.dist m n b ⟨_,g⟩ ⟨_,k⟩ l A)▸hn)
 intro s x hs;rw[Mh a d u s (by rw[h.nt];exact N)];simp only[S,lk]at hs;split at hs
 .rename_i es;cases hs;rw[At es];exact M _ ⟨j,by simp[S,lk]⟩ r
 rename_i es;rw[An es];rw[GE]at hs;simp only[OF]at hs;obtain⟨y,Y,rfl⟩:=hs;exact(TC (h.env s y Y)).keeps hk
theorem ZE.move {V:Vw} {a:TypeId} {k e:Ty} {hole:Bool} {cells cells':List Value} {i i':Nat} {x:k.den×List e.den} {u:Value} (h:ZE V a k e hole cells i x u)
  (c:∀(j:Nat) (z:Value),cells[i*(k.size+1)+j]?=some z->cells'[i'*(k.size+1)+j]?=some z):ZE V a k e hole cells' i' x u :=
 let ⟨c1,v,h1,b⟩:=h
 ⟨c1,v,λj z d=>c j z (h1 j z d),b⟩
theorem Xa {V V':Vw} {et A:TypeId} {k e:Ty} {xs ys:List (k.den×List e.den)} {o D z:Value} {ins f cells m:List Value} (h1:Kz V et A k e xs none o ins cells) (p:Kz V E A k e ys none D f m)
  (r:∀b,bk (.tuple (o :: ins).toArray) b->bk (.tuple (D :: f).toArray) b->False)
  (K:V'.w.ownsRow 0 et (k.size+1) z (xs.length+ys.length) (cells++m)) (L:blk z=blk o\/∀b,blk z=some b->V.w.heap.size<=b)
  (B:∀b,b<V.w.heap.size->blk o≠some b->V'.w.heap[b]?=V.w.heap[b]?) (hk:Cq ⟨V.w,V.O,λ_=>False,V.ρ⟩ V') (I:xs.length+ys.length<=AP) :
  Kz V' et A k e (xs++ys) none z (ins++f) (cells++m):=by
 have F:cells.length=xs.length*(k.size+1):=h1.own.1;have G:∀(i b:Nat) (u:Value),ins[i]?=some u->blk u=some b->b<V.w.heap.size:=λi b u hi c=>h1.block_lt (BH.2 (.inr ⟨i,u,hi,c⟩));have H:∀(i b:Nat) (u:Value),f[i]?=some u->blk u=some b->b<V.w.heap.size:=λi b u hi c=>p.block_lt (BH.2 (.inr ⟨i,u,hi,c⟩));have C:∀(i b:Nat) (u:Value),f[i]?=some u->blk u=some b->blk o≠some b:=λi b u hi c J=>r b (BH.2 (.inl J)) (BH.2 (.inr ⟨i,u,hi,c⟩));have y:∀(i:Nat) (u:Value),(ins++f)[i]?=some u->(i<xs.length/\ins[i]?=some u)\/(xs.length<=i/\f[i-xs.length]?=some u):=by
  intro i u hi;rw[AB4]at hi;split at hi
  .rename_i h;rw[h1.len]at h;exact .inl ⟨h,hi⟩
  rename_i h;rw[h1.len]at h hi;exact .inr ⟨O1,hi⟩
 have M:∀b,blk z=some b->(∃(i:Nat) (u:Value),ins[i]?=some u/\blk u=some b)\/(∃(i:Nat) (u:Value),f[i]?=some u/\blk u=some b)->False:=by
  intro b c hi;rcases L with d|d
  .rw[d]at c;rcases hi with ⟨i,u,a,g⟩|⟨i,u,a,g⟩
   .exact h1.out i b u a g c
   exact C i b u a g c
  grind
 refine⟨by rw[IS];exact I,by rw[IS,IS,h1.len,p.len],by rw[IS];exact K,λi x u l hu=>?_,λi j b u v hi s hu q=>?_,λi b u hi c N=>?_⟩
 .rcases y i u hu with ⟨d,a⟩|⟨d,a⟩
  .have l:xs[i]?=some x:=by rwa [AAn d]at l
   have t:=(h1.row i x u l a).move (cells':=cells++m) (i':=i) λj z s=>by grind
   exact ZE.keeps (V:=⟨V.w,V.O,λ_=>False,V.ρ⟩) hk (λb c=>B b (G i b u a c) (h1.out i b u a c)) t
  have l:ys[i-xs.length]?=some x:=by rwa [AAi d]at l
  have t:=(p.row _ x u l a).move (cells':=cells++m) (i':=i) λj z s=>by
   have g:i*(k.size+1)=cells.length+(i-xs.length)*(k.size+1):=by
    rw[F,<-ACt];congr 1;omega
   grind
  exact ZE.keeps (V:=⟨V.w,V.O,λ_=>False,V.ρ⟩) hk (λb c=>B b (H _ b u a c) (C _ b u a c)) t
 .rcases y i u hi with ⟨d,a⟩|⟨d,a⟩<;>rcases y j v s with ⟨g,n⟩|⟨g,n⟩
  .exact h1.dist i j b u v a n hu q
  .exact(r b (BH.2 (.inr ⟨i,u,a,hu⟩)) (BH.2 (.inr ⟨_,v,n,q⟩))).elim
  .exact(r b (BH.2 (.inr ⟨j,v,n,q⟩)) (BH.2 (.inr ⟨_,u,a,hu⟩))).elim
  have:=p.dist _ _ b u v a n hu q;omega
 grind
theorem xQ (V:Vw) (et a:TypeId) (k e:Ty):Kz V et a k e [] none (.slice none 0 0) [] [] :=
 ⟨by simp[AP],rfl,AC0 V.w 0 et _,λi x u h=>by simp at h,λi j b u v h=>by simp at h,λi b u h=>by simp at h⟩
theorem Lj {w:World} {base:Nat} {et:TypeId} {sz b n:Nat} {loc v:Value} {cells:List Value} (f:w.ownsRow base et sz loc n cells) (h:DN loc b 0 n v):v=loc:=by
 obtain⟨a,m,c,rfl,_,_,d,e,rfl,_,h0,_⟩:=h;grind [KE]
theorem A3y {w:World} {O:Nat->Prop} {et:TypeId} {xs:List e.den} {loc:Value} {cells:List Value} (d:xs.length<=AP) (a:w.ownsRow 0 et e.size loc xs.length cells) (c:Dm w O e cells xs):Src w O e loc xs cells:=by
 refine⟨?_,a.1,c,XU (V:=⟨w,O,λ_=>False,λ_=>undef⟩) a c,d⟩;rcases a.2 with ⟨b,hn⟩|⟨g,cap,f,b,_⟩
 .grind
 subst b;exact⟨some ⟨g,0,none⟩,cap,rfl,.inr ⟨_,rfl,a.cells (g:=g) rfl⟩⟩
theorem PG {V:Vw} {et a:TypeId} {k e:Ty} {xs:List (k.den×List e.den)} {o:Value} {ins cells:List Value} (h:Kz V et a k e xs none o ins cells):Src V.w (λ_=>False) (.agg (.prod k (.slice e))) o xs cells :=
 A3y (e:=.agg (.prod k (.slice e))) (xs:=xs) h.max h.own (Nx (λ_ _ h=>h) h λ_ _ _ _ _ h=>h)
theorem Qs {V:Vw} {et c:TypeId} {k e:Ty} {xs:List (k.den×List e.den)} {a:Option Nat} {loc:Value} (b:BC V (.nest et c k e xs a) loc):seat loc:=by
 obtain⟨o,ins,cells,a,_⟩:=b;exact a.elim (λh=>.inr ⟨_,h⟩) (λh=>.inl ⟨_,_,_,h.1⟩)
theorem xR (hs:B7 w0 K O0 nt ds σ ρ a w) (T:∀b,K b->b<w0.heap.size) (V:∀b,O0 b->b<w0.heap.size) (hT:C7 P tb) {d:Nat} (W:d<nt) {ty:TypeId} {x:Operand} {n m hi C:Nat} {E A:Ty} {k e:Ty}
  (f:Aj σ x=some (.sr n E 0 hi)) (g:Aj σ y=some (.sr m A 0 C)) {et v:TypeId} {xs ys:List (k.den×List e.den)} (hn:lk n σ.objs=some (.nest et v k e xs none)) (D:lk m σ.objs=some (.nest R v k e ys none)) (Z:n≠m)
  (ah:G1 n=false) (ag:G1 m=false) (hu:P.underlying t=some (.slice et)) {te:TI} (J:lk et tb.ty=some te) (L:te.ty=.agg (.prod k (.slice e))) (ab:hi=xs.length) (ad:C=ys.length) (M:(xs.length+ys.length)*te.bytes<=AP) :
  ∃z w' ρ',(Builtin.append_ #[t,t] ty #[a.eval x,a.eval y]).run P w=.ok z w' /\
   B7 w0 K O0 nt ds ⟨(d,.sr n (.agg (.prod k (.slice e))) 0 (xs.length+ys.length)) :: Cv [n,m] σ.env,(n,.nest et v k e (xs++ys) none) :: A5 [n,m] [n,m] σ.objs⟩ ρ' (a.put (some d) z) w':=by
 subst ab ad;have B:EY (vw w O0 σ ρ) σ a.eval:=Cg hs.env;have F:=hs.objs n _ hn;have G:=hs.objs m _ D;have aj:=Qs F;have ak:=Qs G;obtain⟨o,ins,cells,p,l⟩:=F;obtain⟨al,O,Q,s,q⟩:=G;obtain⟨_,f⟩:=B x _ f;obtain⟨_,g⟩:=B y _ g;have f:DN (plc (ρ n)) E.size 0 xs.length (a.eval x):=f;have g:DN (plc (ρ m)) A.size 0 ys.length (a.eval y):=g;rw[p.plc]at f;rw[s.plc]at g;have f:=Lj l.own f;have g:=Lj q.own g;rw[f,g];obtain⟨z,w',I,H,h,X⟩:=GD (ty:=ty) hT hu J L l.own (PG q) M (GO _);have N:=HL (ty:=ty) hT hu J L l.own (PG q) M I;rw[TD l.own]at h;refine⟨z,w',_,I,hs.swap1 (loc:=.tuple (z :: (ins++O)).toArray) T V (tl:=[n,m]) (λj ai=>?_) (.inl sc) h.os h.tape h.output h.size ?_ ?_ ?_ W ?_⟩
 .grind
 .exact λb c aa=>h.block b c λr=>aa n sc (p.bk.2 (BH.2 (.inl r.symm)))
 .intro b c;rcases BH.1 c with c|⟨i,u,hi,c⟩
  .rcases N with h1|h1
   .exact .inl ⟨n,sc,p.bk.2 (BH.2 (.inl (by rw[<-h1];exact c)))⟩
   exact .inr (h1 b c)
  rw[AB4]at hi;split at hi
  .exact .inl ⟨n,sc,p.bk.2 (BH.2 (.inr ⟨_,u,hi,c⟩))⟩
  exact .inl ⟨m,sc,s.bk.2 (BH.2 (.inr ⟨_,u,hi,c⟩))⟩
 .intro V' ae hk;subst ae;refine⟨z,ins++O,cells++Q,.inl rfl,Xa l q (λb h1 S=>?_) H N (λb c Y=>h.block b c λr=>Y r.symm) hk X⟩;exact Z (hs.dist n m b ⟨_,hn⟩ ⟨_,D⟩ (p.bk.2 h1) (s.bk.2 S))
 intro V' U af;refine⟨U,?_⟩;show DN (plc (V'.ρ n)) _ 0 _ z;rw[af];exact GB H
theorem A3z (hs:B7 w0 K O0 nt ds σ ρ a w) (M:∀b,K b->b<w0.heap.size) (O:∀b,O0 b->b<w0.heap.size) (hT:C7 P tb) {d:Nat} (Q:d<nt) {ty:TypeId} {x:Operand} {m v:Nat} {q:Ty} {e:Ty}
  (o:Aj σ x=some (.raw (.slice none 0 0))) (f:Aj σ y=some (.sr m q 0 v)) {et L:TypeId} {ys:List (k.den×List e.den)} (S:lk m σ.objs=some (.nest L p k e ys none)) (R:lk d σ.objs=none)
  (Z:G1 m=false) (hu:P.underlying t=some (.slice et)) {te:TI} (E:lk et tb.ty=some te) (F:te.ty=.agg (.prod k (.slice e))) (V:v=ys.length) (G:ys.length*te.bytes<=AP) :
  ∃z w' ρ',(Builtin.append_ #[t,t] ty #[a.eval x,a.eval y]).run P w=.ok z w' /\
   B7 w0 K O0 nt ds ⟨(d,.sr d (.agg (.prod k (.slice e))) 0 ys.length) :: Cv [m] σ.env,(d,.nest et p k e ys none) :: A5 [m] [m] σ.objs⟩ ρ' (a.put (some d) z) w':=by
 subst V;have s:EY (vw w O0 σ ρ) σ a.eval:=Cg hs.env;have A:=hs.objs m _ S;have ad:=Qs A;obtain⟨ae,I,J,D,l⟩:=A;have o:a.eval x=.slice none 0 0:=s x _ o;obtain⟨_,f⟩:=s y _ f;have f:DN (plc (ρ m)) q.size 0 ys.length (a.eval y):=f;rw[D.plc]at f;have f:=Lj l.own f;rw[o,f];have h:=xQ (vw w O0 σ ρ) et p k e;obtain⟨z,w',C,B,g,T⟩:=GD (ty:=ty) hT hu E F h.own (PG l) (by simpa using G) (GO _);have H:=HL (ty:=ty) hT hu E F h.own (PG l) (by simpa using G) C;rw[TD h.own]at g;refine⟨z,w',_,C,hs.swap1 (loc:=.tuple (z :: ([]++I)).toArray) M O (tl:=[m]) (λj aa=>?_) (.inr R) g.os g.tape g.output g.size ?_ ?_ ?_ Q ?_⟩
 .grind
 .exact λb c ab=>g.block b c λn=>by simp[blk]at n
 .intro b c;rcases BH.1 c with c|⟨i,u,hi,c⟩
  .rcases H with h1|h1
   .grind [blk]
   exact .inr (h1 b c)
  exact .inl ⟨m,sc,D.bk.2 (BH.2 (.inr ⟨_,u,by simpa using hi,c⟩))⟩
 .intro V' W hk;subst W;refine⟨z,[]++I,[]++J,.inl rfl,?_⟩;have:=Xa h l (λb h1 Y=>?_) B H (λb c U=>g.block b c λn=>U n.symm) hk T
  .simpa using this
  grind [BH,blk]
 intro V' N X;refine⟨N,?_⟩;show DN (plc (V'.ρ d)) _ 0 _ z;rw[X];have r:=GB B;simp only[AAt,AB6]at r;exact r
theorem jN (hs:B7 w0 K O0 nt ds σ ρ a w) (s:∀b,K b->b<w0.heap.size) (A:∀b,O0 b->b<w0.heap.size) (hT:C7 P tb) {d:Option Nat} (B:∀k,d=some k->k<nt) {u ty:TypeId} {x:Operand}
  (h:DZ tb σ d t u (Aj σ x) (Aj σ y)=some (vc,σ')) (q:vc) :
  ∃z w' ρ',(Builtin.append_ #[t,u] ty #[a.eval x,a.eval y]).run P w=.ok z w'/\B7 w0 K O0 nt ds σ' ρ' (a.put d z) w':=by
 by_cases M:∃n e hi,Aj σ x=some (.sr n e 0 hi)/\C5 (lk n σ.objs)=false
 .exact jL hs s A hT B h q M
 unfold DZ at h;split at h
 .rename_i n e hi v j r;split at h
  .rename_i d;split at h
   .rename_i p;obtain⟨rfl,I⟩:=p;cases f:lk t tb.ty with
    | none=>rw[f]at h;simp[E7]at h
    | some ti =>
     rw[f]at h;unfold E7 at h;split at h
     .rename_i Q offs el b F;cases F;split at h
      .rename_i G;subst G;obtain⟨hu,N,te,g,o⟩:=Ce (hT _ _ f) hT;rw[g]at h;unfold Ci at h;split at h
       .rename_i ti et L xs h1 hn;exact absurd ⟨n,_,hi,j,by rw[hn];rfl⟩ M
       .rename_i ti et O k L xs h1 hn;cases h1;split at h
        .rename_i c;obtain⟨rfl,rfl⟩:=c;unfold UE at h;split at h
         .rename_i m E V;unfold Ns at h;split at h
          .rename_i S ad aa R ys J;split at h
           .rename_i c;obtain⟨rfl,W,H⟩:=c;cases D:BZ (.slice (.agg (.prod k (.slice L)))) ⟨.slice (.agg (.prod aa (.slice R))),ys⟩ with
            | none=>rw[D]at h;simp[LX]at h
            | some af =>
             obtain⟨l,T⟩:=Bt D;injection l with l
             injection l with l C
             injection C with C
             subst l C;cases T;rw[D]at h;simp only[LX]at h;cases h;obtain⟨X,Y,Z⟩:=q;exact xR hs s A hT (B _ rfl) j r hn J W I H hu g o X Y Z
           cases h
          cases h
         cases h
        cases h
       cases h
      cases h
     cases h
   cases h
  cases h
 .rename_i n e i len v j r;split at h
  .rename_i d;split at h
   .rename_i p;subst p;cases f:lk t tb.ty with
    | none=>rw[f]at h;simp[O2]at h
    | some ti =>
     rw[f]at h;unfold O2 at h;split at h
     .rename_i Q offs el b F;cases F;split at h
      .rename_i G;subst G;obtain⟨hu,N,te,g,o⟩:=Ce (hT _ _ f) hT;rw[g]at h;unfold Rx at h;split at h
       .rename_i ti et O k ab xs h1 hn;cases h1;split at h
        .rename_i c;obtain⟨rfl,rfl,I⟩:=c;exact A3x hs s A hT (B _ rfl) j r hn I hu g o h q
        cases h
       cases h
      cases h
     cases h
   cases h
  cases h
 .rename_i v j r;split at h
  .rename_i d;split at h
   .rename_i p;subst p;unfold bZ at h;split at h
    .rename_i m E V ae offs el b f;obtain⟨hu,N,te,g,o⟩:=Ce (hT _ _ f) hT;rw[g]at h;unfold Rz at h;split at h
     .rename_i ti S O k e ys h1 J;cases h1;split at h
      .rename_i c;subst c;unfold Ry at h;split at h
       .rename_i c;obtain⟨U,H⟩:=c;cases h;exact A3z hs s A hT (B _ rfl) j r J (by simpa using U) H hu g o q.1 q.2
       cases h
      cases h
     cases h
    cases h
   cases h
  cases h
 cases h
theorem jO (hs:B7 w0 K O0 nt ds σ ρ a w) (t:∀b,K b->b<w0.heap.size) (u:∀b,O0 b->b<w0.heap.size) (hT:C7 P tb) {id:TypeId} {x:Operand} (h:I4 σ (lk id tb.ty) (Aj σ x) (Aj σ y)=some (vc,σ')) (F:vc) :
  ∃w' ρ',(Instr.storeAt id (a.eval x) (a.eval y)).run P w=.ok () w'/\B7 w0 K O0 nt ds σ' ρ' a w':=by
 by_cases C:∃n e i o off,Aj σ x=some (.ep n e i o off)/\C5 (lk n σ.objs)=true
 .obtain⟨n,e,i,o,off,g,f⟩:=C;unfold I4 at h;split at h
  .grind
  .rename_i ti M H i' O N v ht l G;rw[g]at l;cases l;unfold DY at h;split at h
   .rename_i hn;rw[hn]at f;cases f
   .rename_i et J k I xs j hn;split at h
    .rename_i m E hi;split at h
     .rename_i c;obtain⟨rfl,rfl,s⟩:=c;subst s;unfold Nt at h;split at h
      .rename_i c;obtain⟨D,rfl,rfl⟩:=c;unfold Nr at h;split at h
       .rename_i L p ys B;split at h
        .rename_i c;obtain⟨rfl,z,A⟩:=c;cases d:BZ (.slice E) ⟨.slice p,ys⟩ with
         | none=>rw[d]at h;simp[LV]at h
         | some Q =>
          obtain⟨q,r⟩:=Bt d;subst q;cases r;rw[d]at h;simp only[LV]at h;cases h;exact xP hs t u hT ht D g G hn B A z F
        cases h
       cases h
      cases h
     cases h
    cases h
   cases h
  cases h
 grind [sZ,C5,lk]
end
end
end Go.Proofs.YtglkoagnnnpimaaGreatDoor.Fw
