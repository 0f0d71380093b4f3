/- Calls by contract; stores; appends. -/
import Derived.Test.YtcmadlghkcjcbaaGreatGZC
import Derived.CallsIn
import Derived.TacticsIn
import Derived.OrdersIn
import Derived.RangeFuncCalls
set_option linter.unusedVariables false
set_option linter.unusedSimpArgs false
namespace Go.Proofs.YtcmadlghkcjcbaaGreat.Fw
variable {t C A M q:TypeId} {x:AV} {e k:Ty} {g y:Operand} {v:Value} {o:List Nat} {a:List Value} {Z:TI} {n:Nat} {Y:Oper} {X:Act} {s:Bool} {w:World}
section
open Go Go.RowKit
def Pw (w:World) (O:Nat->Prop):(ts:List Ty)->List Value->KU ts->Prop
 | [],a,_=>a=[]
 | t :: ts,a,ds=>∃(v:Value) (r:List Value),a=v :: r/\BU w O t v ds.1/\Pw w O ts r ds.2
def FR (r:Option Nat):Fence:={ fn:=λ_=>True,depth:=none,alive:=false,round:=r }
theorem Ou {r:Option Nat} {P:Program} {f:FuncId} {args:Array Value} {R:Ending->World->Prop} (h:Calls P f args w R):CallsIn (FR r) n P f args w R:=by
 cases r with
 | none=>exact callsIn_wide.2 h
 | some l=>exact((callsIn_wide.2 h:CallsIn Fence.wide n P f args w R).inRound l:CallsIn _ n P f args w R)
theorem G9 (r:Option Nat) (ρ:Operand->Value) (o:Oper) (h:∀c,o.op≠.defer c):o.semAt r ρ=execOp ρ o:=by
 cases r with
 | none=>exact Oper.semAt_none ρ o
 | some l=>exact Oper.semAt_some l ρ o h
def A0P (w:World) (O:Nat->Prop) (outs:List RV) (u:Value) (w':World):Prop :=
 ∀nm:Nat,∃ρ',QS w O ⟨[],[]⟩ (λ_=>undef) (H7 nm outs) (DA nm outs) u ρ' w'
def A7K (P:Program) (f:FuncId) (sp:Ab):Prop :=
 ∀(w:World) (O:Nat->Prop) (a:List Value) (ds:KU sp.ins),(∀b,O b->b<w.heap.size)->Pw w O sp.ins a ds->sp.pre ds ->
  Calls P f a.toArray w λe w'=>∃u,e=.returned u/\A0P w O (sp.out ds) u w'
def Ac (P:Program) (f:FuncId) (sp:Ab):Prop :=
 (∃ fn : Func, P.funcs[f]? = some fn /\ (fn.name == "runtime.NumGoroutine") = false /\ fn.body.isNone = false) /\ A7K P f sp
def I2 (P:Program) (tb:Tb):Prop:=∀f sp,lk f tb.fns=some sp->Ac P f sp
theorem Px {w w':World} {O O':Nat->Prop}:∀ {t:Ty} {cs:List Value} {d:t.den},t.flat=true->B1 w O t cs d->B1 w' O' t cs d
 | .int _,_,_,_,h=>h
 | .bool,_,_,_,h=>h
 | .str,_,_,_,h=>h
 | .ref _,_,_,_,h=>h
 | .slice _,_,_,hf,_=>by simp[Ty.flat]at hf
 | .prod a b,_,_,hf,h=>by
  simp only[Ty.flat,An]at hf;obtain⟨c1,c2,rfl,h1,c⟩:=h;exact⟨c1,c2,rfl,Px hf.1 h1,Px hf.2 c⟩
 | .agg t,cs,d,hf,h=>by
  simp only[Ty.flat]at hf;have h:B1 w O t cs d:=h;exact(Px hf h:B1 w' O' t cs d)
theorem Yu {w':World} {O O':Nat->Prop} {t:Ty} {d:t.den} (hf:t.flat=true) (h:BU w O t v d):BU w' O' t v d :=
 let ⟨cs,h1,a⟩:=h
 ⟨cs,Px hf h1,a⟩
theorem TY:∀ {l:List RV} (nm:Nat),l.all RV.flat=true->DA nm l=[]
 | [],_,_=>rfl
 | .p t d :: l,nm,h=>by
  simp only[ABi,An]at h;simp[DA,VZ,TY (nm+10000) h.2]
 | .own _ _ _ :: l,nm,h=>by simp[RV.flat]at h
theorem A0Q {r:RV} (h:r.flat=true) (nm:Nat):∃t d,m9 nm r=.p t d/\t.flat=true:=by
 cases r with
 | p t d=>exact⟨t,d,rfl,h⟩
 | own _ _ _=>simp[RV.flat]at h
theorem A0R {V V':Vw}:∀ {l:List RV} {nm:Nat} {a:List Value},l.all RV.flat=true->H9 V (I0 nm l) a->H9 V' (I0 nm l) a
 | [],_,_,_,h=>h
 | r :: l,nm,a,hf,h=>by
  simp only[ABi,An]at hf;obtain⟨v,c,rfl,h1,b⟩:=h;obtain⟨t,d,e,ht⟩:=A0Q hf.1 nm;refine⟨v,c,rfl,?_,A0R hf.2 b⟩;rw[e]at h1 ⊢;exact Yu ht h1
theorem A0S {V V':Vw} {l:List RV} {nm:Nat} {u:Value} (hf:l.all RV.flat=true) (h:B7 V (H7 nm l) u):B7 V' (H7 nm l) u:=by
 match l,hf,h with
 | [],_,h=>exact h
 | [r],hf,h =>
  simp only[ABi,List.all_nil,Bool.and_true]at hf;obtain⟨t,d,e,ht⟩:=A0Q hf nm;simp only[H7]at h ⊢;rw[e]at h ⊢;exact Yu ht h
 | b :: c :: l,hf,h =>
  obtain⟨a,rfl,h1⟩:=h;exact⟨a,rfl,A0R hf h1⟩
section
variable {P:Program} {tb:Tb} {w:World} {O0:Nat->Prop} {σ:St} {ρ:Nat->Value} {vc:Prop} {v:AV} {obs:List (Nat×Obj)}
theorem QS.call {outs:List RV} {nm:Nat} {u:Value} {ρ':Nat->Value} {w':World} (hf:Bh (DA nm outs) σ=true)
  (h:QS w (own O0 σ ρ) ⟨[],[]⟩ (λ_=>undef) (H7 nm outs) (DA nm outs) u ρ' w') :
  QS w O0 σ ρ (H7 nm outs) (DA nm outs) u (λn=>if (lk n (DA nm outs)).isSome then ρ' n else ρ n) w':=by
 have d:∀n,HK (EM ⟨[],[]⟩ (DA nm outs)) n↔∃o,lk n (DA nm outs)=some o:=λn=>by simp[HK,EM]
 have hk:Cu (vw w' (own O0 σ ρ) (EM ⟨[],[]⟩ (DA nm outs)) ρ') (vw w' O0 (EM σ (DA nm outs)) (λn=>if (lk n (DA nm outs)).isSome then ρ' n else ρ n)):=by
  refine⟨?_,?_,?_,λ_ _ _=>rfl⟩
  .intro b _ hb c;rcases c with h0|⟨n,hl,hn⟩
   .exact hb (.inl (.inl h0))
   rcases L3 hl with ⟨o,a⟩|⟨g,f⟩
   .refine hb (.inr ⟨n,(d n).2 ⟨o,a⟩,?_⟩);simpa[a] using hn
   refine hb (.inl (.inr ⟨n,f,?_⟩));simpa[g] using hn
  .intro n hn;obtain⟨o,a⟩:=(d n).1 hn;exact⟨o,by simp[EM,A2,a]⟩
  intro n hn;obtain⟨o,a⟩:=(d n).1 hn;simp[vw,a]
 refine⟨h.below,λn hn=>by simp[hn],h.av.keeps hk,λn o a=>?_,λn o b a hb=>?_,λn m o i b a e hb c=>?_⟩
 .simp only[a,ACt,AAF];exact(h.obj n o a).keeps hk (λ_ _=>rfl)
 .simp only[a,ACt,AAF]at hb;exact h.new n o b a hb
 simp only[a,e,ACt,AAF]at hb c;exact h.dist n m o i b a e hb c
theorem bJ {V:Vw} {O':Nat->Prop} {l:Bool} (a:∀b,¬V.O b->¬O' b) (e:l=true->∀b,¬O' b) (d:∀n o,lk n σ.objs=some o->A6 V o (V.ρ n)) {ev:Operand->Value} (c:Hl V σ ev) :
  ∀ {ts:List Ty} {xs:List Operand} {ds:KU ts},G5 l σ ts xs=some ds->Pw V.w O' ts (xs.map ev) ds
 | [],[],ds,h=>rfl
 | [],_ :: _,ds,h=>by simp[G5]at h
 | _ :: _,[],ds,h=>by simp[G5]at h
 | t :: ts,x :: xs,ds,h=>by
  simp only[G5]at h;cases hx:Aq σ x with
  | none=>rw[hx]at h;cases h
  | some av =>
   rw[hx]at h;simp only at h;split at h
   .rename_i y ys hy f;cases h;exact⟨ev x,xs.map ev,rfl,LS a e d hy (c x av hx),bJ a e d c f⟩
   cases h
theorem A7L (G:I2 P tb) (y:∀n o,lk n σ.objs=some o->A6 (vw w O0 σ ρ) o (ρ n)) (L:∀b,own O0 σ ρ b->b<w.heap.size) {a:Act} (l:Hl (vw w O0 σ ρ) σ a.eval) {d:Nat} {xs:List Operand} 
  {o:Oper} {ts:Array TypeId} (x:o.op=.call { callee:=.value g,args:=xs.toArray,argTypes:=ts })
  (h:OB tb σ d xs (Aq σ g)=some (vc,v,obs)) (A:vc) (hf:Bh obs σ=true) {next:Act->World->Prop} {Q:Exit->Act->World->Prop} {r:Option Nat}
  (hn:∀u ρ' w',QS w O0 σ ρ v obs u ρ' w'->next (a.put o.dst u) w'):o.wpIn (FR r) 0 P a w next Q:=by
 cases m:Aq σ g with
 | none=>rw[m]at h;simp[OB]at h
 | some B =>
  rw[m]at h;have I:=l g B m;unfold OB at h;split at h
  .rename_i f E;cases E;have H:a.eval g=.func (.func f) #[] #[]:=I;cases s:lk f tb.fns with
   | none=>rw[s]at h;simp[Kg]at h
   | some sp =>
    rw[s]at h;simp only[Kg]at h;cases i:G5 sp.lend σ sp.ins xs with
    | none=>rw[i]at h;simp[Ls]at h
    | some ds =>
     rw[i]at h;simp only[Ls]at h;split at h
     .rename_i hl;cases h;obtain⟨⟨fn,F,K,D⟩,z⟩:=G f sp s;have M:(execOp a.eval o).run P w=.ok (.enter f (xs.map a.eval).toArray) w:=by
       have h1 : ¬ fn.name = "runtime.NumGoroutine" := by simpa using K
       have C:¬fn.body=none:=by intro e;simp[e]at D
       simp[execOp,x,resolve,Deferred.ofValue,H,invoke,callFunc,F,h1,C]
      refine⟨λ_ _=>trivial,?_⟩;rw[G9 _ _ _ (λc e=>by rw[x]at e;cases e),M,Oper.uponIn_enter];refine⟨λh=>(by simp[FR]at h),Ou ?_⟩;by_cases p:sp.lend=true
      .rw[p]at i;have t:(sp.out ds).all RV.flat=true:=by
        rcases hl with hl|hl
        .rw[p]at hl;cases hl
        exact hl
       have k:=bJ (V:=vw w O0 σ ρ) (O':=λ_=>False) (λ_ _ h=>h) (λ_ _ h=>h) y l i;refine(z w (λ_=>False) _ ds (λ_ h=>h.elim) k A).mono λe w' hh=>?_;obtain⟨u,rfl,q⟩:=hh;obtain⟨ρ',j⟩:=q d;refine hn u ρ w' ?_;rw[TY d t]at j ⊢;exact⟨j.below,λ_ _=>rfl,A0S t j.av,(λ_ _ h=>by cases h),(λ_ _ _ h=>by cases h),(λ_ _ _ _ _ h=>by cases h)⟩
      have J:sp.lend=false:=by simpa using p
      rw[J]at i;have k:=bJ (V:=vw w O0 σ ρ) (O':=own O0 σ ρ) (λ_ h=>h) (λh=>by cases h) y l i;refine(z w (own O0 σ ρ) _ ds L k A).mono λe w' hh=>?_;obtain⟨u,rfl,q⟩:=hh;obtain⟨ρ',j⟩:=q d;exact hn u _ w' (QS.call hf j)
     cases h
  cases h
end
end
section
open Go Go.RowKit
section
variable {P:Program} {tb:Tb} {w:World} {O0:Nat->Prop} {σ:St} {ρ:Nat->Value} {vc:Prop} {v:AV} {obs:List (Nat×Obj)}
theorem A0 {o:Oper} {a:Act} {u:Value} {w':World} {next:Act->World->Prop} {Q:Exit->Act->World->Prop} {r:Option Nat} (h:(execOp a.eval o).run P w=.ok (.value u) w') (hn:next (a.put o.dst u) w') (b:∀c,o.op≠.defer c:=by intro c e;cases e):o.wpIn (FR r) 0 P a w next Q:=by
 refine⟨λ_ _=>trivial,?_⟩;rw[G9 _ _ _ b,h];exact hn
theorem A0T {V:Vw} (x:Value):B7 V (Iz x) x:=by
 unfold Iz;split
 .rename_i k n;split
  .rename_i h;exact BN h
  exact(rfl:(Value.int k n)=_)
 .exact Bq _
 .rename_i s;split
  .rename_i h;exact Vk h
  exact(rfl:(Value.string s)=_)
 exact(rfl:x=x)
theorem GA {V:Vw} {a:Act} (h:∀s v,lk s σ.env=some v->B7 V v (a.tmps.getD s undef)):Hl V σ a.eval:=by
 intro x v hx;cases x with
 | tmp t=>exact h t v hx
 | const c=>simp only[Aq]at hx;cases hx;exact A0T c
 | global g=>simp[Aq]at hx
 | func f=>simp only[Aq]at hx;cases hx;rfl
structure A9q (P:Program) (tb:Tb) (w:World) (O0:Nat->Prop) (σ:St) (ρ:Nat->Value) (a:Act):Prop where
 hT:DC P tb
 hF:I2 P tb
 obj:∀n o,lk n σ.objs=some o->A6 (vw w O0 σ ρ) o (ρ n)
 own:∀b,own O0 σ ρ b->b<w.heap.size
 ev:Hl (vw w O0 σ ρ) σ a.eval
theorem QS.toP {d n:Nat} {xs:List e.den} {u:Value} {ρ':Nat->Value} {w':World} (hown:∀b,own O0 σ ρ b->b<w.heap.size) (hf:Bh [(d,.arr t e xs)] σ=true)
  (hq:QS w O0 σ ρ (.sr d e 0 n) [(d,.arr t e xs)] u ρ' w') (hn:n=xs.length):QS w O0 σ ρ (.p (.slice e) xs) [] u ρ w' where
 below:=hq.below
 rho:=λ_ _=>rfl
 av:=by
  have hO:∀b,¬own O0 (EM σ [(d,.arr t e xs)]) ρ' b->¬own O0 (EM σ []) ρ b:=by
   intro b hb hb';rcases hb' with h0|⟨m,⟨o,hm⟩,hmb⟩
   .exact hb (.inl h0)
   have hm:lk m σ.objs=some o:=hm;have hne:lk m [(d,Obj.arr t e xs)]=none:=by grind [lk,Ol]
   refine hb (.inr ⟨m,⟨o,by simp only[EM,A2,hne];simpa using hm⟩,?_⟩);rw[hq.rho m hne];exact hmb
  have hd:lk d [(d,Obj.arr t e xs)]=some (.arr t e xs):=by simp[lk]
  have hb:∀b,bk (ρ' d) b->¬own O0 (EM σ []) ρ b:=λb hb hb'=>by
   have h1:=hq.new d _ b hd hb;have h2:=hown b hb';omega
  have hr:=bB (V:=vw w' O0 (EM σ [(d,.arr t e xs)]) ρ') hO (λb hb'=>hb b (.inl hb')) (hq.obj d _ hd) hq.av.2;rw[hn,KT]at hr;obtain⟨_,_,_,_,_,_,a',c',hve,_⟩:=hq.av.2;exact⟨[u],hr,by rw[hve];rfl⟩
 obj:=λ_ _ h=>by cases h
 new:=λ_ _ _ h=>by cases h
 dist:=λ_ _ _ _ _ h=>by cases h
theorem YZ (hT:EO P tb t Z) (f:DC P tb) (q:∀n o,lk n σ.objs=some o->A6 (vw w O0 σ ρ) o (ρ n)) (z:∀b,own O0 σ ρ b->b<w.heap.size) {ev:Operand->Value} (g:Hl (vw w O0 σ ρ) σ ev) {d n:Nat} {parts:List (Nat×Operand)}
  (h:Bo s σ d n parts (some Z)=some (vc,v,obs)) (c:vc) (hf:Bh obs σ=true) :
  ∃u ρ' w',(Instr.buildSlice t n (parts.map λp=>(p.1,ev p.2)).toArray).run P w=.ok u w'/\QS w O0 σ ρ v obs u ρ' w':=by
 cases s with
 | false=>exact Pu hT f q g h c hf
 | true =>
  unfold Bo at h;split at h
  .rename_i e offs el b C;cases r:FX σ e 0 parts with
   | none=>rw[r]at h;simp[B9]at h
   | some xs =>
    rw[r]at h;simp only[B9,AAF]at h;cases h;obtain⟨a,y⟩:∃a,lk a σ.objs=none:=by
     have:∀l:List (Nat×Obj),∃m,∀k,m<=k->lk k l=none:=by
      intro l;induction l with
      | nil=>exact⟨0,λ_ _=>rfl⟩
      | cons x l B =>
       obtain⟨m,hm⟩:=B;refine⟨max m (x.1+1),λk hk=>?_⟩;have:¬k=x.1:=by omega
       obtain⟨j,o⟩:=x;simp only[lk,this,AAV];exact hm k O1
     obtain⟨m,hm⟩:=this σ.objs;exact⟨m,hm m (IN m)⟩
    have i:Bh [(a,.arr el e xs)] σ=true:=by simp[Bh,y]
    have A:Bo false σ a n parts (some Z)=some (xs.length=n/\n*e.size<=16777216,.sr a e 0 n,[(a,.arr el e xs)]):=by grind [Bo,B9]
    obtain⟨u,ρ',w',h1,ti⟩:=Pu hT f q g A c i;exact⟨u,ρ,w',h1,ti.toP z i c.1.symm⟩
  cases h
theorem fY {V:Vw} {ev:Operand->Value} (d:Hl V σ ev) (w':World) {k:IntKind}:∀(r:List Operand) (a m:Int),F4 σ k (some a) r=some m->KS k a->((r.map ev).foldlM Builtin.min2 (.int k a)).run P w'=.ok (.int k m) w'/\KS k m
 | [],a,m,h,ha=>by
  simp only[F4,AAJ]at h;subst h;exact⟨rfl,ha⟩
 | x :: r,a,m,h,ha=>by
  simp only[F4]at h;cases hx:Aq σ x with
  | none=>rw[hx]at h;cases r<;>simp[Pk,F4]at h
  | some xv =>
   rw[hx]at h;cases c:Pk k a (some xv) with
   | none=>rw[c]at h;cases r<;>simp[F4]at h
   | some g =>
    rw[c]at h;unfold Pk at c;split at c
    .rename_i i b e;cases e;split at c
     .rename_i hk;subst hk;cases c;obtain⟨hb,f⟩:=BI (d x _ hx);have:=fY d w' r _ m h (by split;exact f;exact ha);rw[Rd,List.foldlM_cons,hb];simpa[Builtin.min2] using this
     cases c
    cases c
theorem sU {a:Act} (C:A9q P tb w O0 σ ρ a) {o:Oper} (h:aq tb σ (o.dst.getD 0) o.op=some (vc,v,obs)) (q:vc) (hf:Bh obs σ=true)
  {next:Act->World->Prop} {Q:Exit->Act->World->Prop} {r:Option Nat} (hn:∀u ρ' w',QS w O0 σ ρ v obs u ρ' w'->next (a.put o.dst u) w'):o.wpIn (FR r) 0 P a w next Q:=by
 obtain⟨hT,hF,A,O,e⟩:=C;have J:∀n,(vw w O0 σ ρ).L n->∃o,A6 (vw w O0 σ ρ) o ((vw w O0 σ ρ).ρ n):=λn ⟨o,X⟩=>⟨o,A n o X⟩;obtain⟨dst,op,type,pos,after,guard⟩:=o;simp only at h hn;cases op<;>simp only[aq]at h<;>try(cases h;done)
 case move x =>
  cases hx:Aq σ x with
  | none=>rw[hx]at h;cases h
  | some xv =>
   rw[hx]at h;simp only[HN]at h;cases h;exact A0 (u:=a.eval x) (by simp[execOp]) (hn _ _ _ (QS.still (e x _ hx)))
 case assign x =>
  cases hx:Aq σ x with
  | none=>rw[hx]at h;cases h
  | some xv =>
   rw[hx]at h;simp only[HN]at h;cases h;exact A0 (u:=a.eval x) (by simp[execOp]) (hn _ _ _ (QS.still (e x _ hx)))
 case pick c x y =>
  cases C:Aq σ c with
  | none=>rw[C]at h;simp[Lo]at h
  | some I =>
   rw[C]at h;have M:=e c I C;unfold Lo at h;split at h
   .rename_i B;cases B;have hb:=EH M;cases hx:Aq σ x with
    | none=>rw[hx]at h;simp[HN]at h
    | some xv =>
     rw[hx]at h;simp only[HN]at h;cases h;exact A0 (u:=a.eval x) (by simp[execOp,hb,asBool]) (hn _ _ _ (QS.still (e x _ hx)))
   .rename_i B;cases B;have hb:=EH M;cases hy:Aq σ y with
    | none=>rw[hy]at h;simp[HN]at h
    | some D =>
     rw[hy]at h;simp only[HN]at h;cases h;exact A0 (u:=a.eval y) (by simp[execOp,hb,asBool]) (hn _ _ _ (QS.still (e y _ hy)))
   cases h
 case alloc t =>
  cases ht:lk t tb.ty with
  | none=>rw[ht]at h;simp[Lp]at h
  | some ti =>
   rw[ht]at h;obtain⟨u,ρ',w',h1,d⟩:=A4Y (w:=w) (O0:=O0) (ρ:=ρ) (hT _ _ ht) h hf;exact A0 (u:=u) (w':=w') (by simp[execOp,h1]) (hn _ _ _ d)
 case box t x =>
  cases ht:lk t tb.ty with
  | none=>rw[ht]at h;simp[Va]at h
  | some ti =>
   cases hx:Aq σ x with
   | none=>rw[ht,hx]at h;simp[Va]at h
   | some xv =>
    rw[ht,hx]at h;obtain⟨u,ρ',w',h1,d⟩:=A9o (hT _ _ ht) h (e x _ hx) hf;exact A0 (u:=u) (w':=w') (by simp[execOp,h1]) (hn _ _ _ d)
 case build t parts =>
  cases ht:lk t tb.ty with
  | none=>rw[ht]at h;simp[KW]at h
  | some ti =>
   rw[ht]at h;obtain⟨rfl,u,h1,d⟩:=A50 (hT _ _ ht) A e h;have h1:(Instr.build t (parts.map λp=>(p.1,a.eval p.2))).run P w=.ok u w:=by
    rw[<-h1]
    congr 2
    apply Array.ext';simp
   exact A0 (u:=u) (w':=w) (by simp[execOp,h1]) (hn _ _ _ (QS.still d))
 case buildSlice t n parts =>
  cases N:lk (dst.getD 0) tb.nests with
  | some ah =>
   rw[N]at h;simp only[Hi]at h;cases ht:lk t tb.ty with
   | none=>rw[ht]at h;simp[KY]at h
   | some ti =>
    rw[ht]at h;obtain⟨u,ρ',w',h1,d⟩:=A7F (hT _ _ ht) hT A e h q hf;have h1:(Instr.buildSlice t n (parts.map λp=>(p.1,a.eval p.2))).run P w=.ok u w':=by
     rw[<-h1]
     congr 2
     grind
    exact A0 (u:=u) (w':=w') (by simp[execOp,h1]) (hn _ _ _ d)
  | none =>
  rw[N]at h;simp only[Hi]at h;cases ht:lk t tb.ty with
  | none=>rw[ht]at h;simp[Bo]at h
  | some ti =>
   rw[ht]at h;obtain⟨u,ρ',w',h1,d⟩:=YZ (hT _ _ ht) hT A O e h q hf;have h1:(Instr.buildSlice t n (parts.map λp=>(p.1,a.eval p.2))).run P w=.ok u w':=by
    rw[<-h1]
    congr 2
    apply Array.ext';simp
   exact A0 (u:=u) (w':=w') (by simp[execOp,h1]) (hn _ _ _ d)
 case load t x =>
  cases ht:lk t tb.ty with
  | none=>rw[ht]at h;simp[LP]at h
  | some ti =>
   cases hx:Aq σ x with
   | none=>rw[ht,hx]at h;simp[LP]at h
   | some xv =>
    rw[ht,hx]at h;obtain⟨rfl,u,h1,d⟩:=A0G (hT _ _ ht) A h (e x _ hx);exact A0 (u:=u) (w':=w) (by simp[execOp,h1]) (hn _ _ _ (QS.still d))
 case nilCheck x =>
  cases hx:Aq σ x with
  | none=>rw[hx]at h;simp[YV]at h
  | some xv =>
   rw[hx]at h;obtain⟨rfl,⟨ad,B⟩,d⟩:=A9n h (e x _ hx);exact A0 (u:=a.eval x) (w':=w) (by simp[execOp,B]) (hn _ _ _ (QS.still d))
 case binOp op t x y am =>
  cases hx:Aq σ x with
  | none=>rw[hx]at h;simp[UW]at h
  | some xv =>
   cases hy:Aq σ y with
   | none=>rw[hx,hy]at h;cases xv<;>simp[UW]at h
   | some D =>
    rw[hx,hy]at h;obtain⟨rfl,h1,u,d,j⟩:=A9j (P:=P) (t:=t) (λhb=>by
     cases ht:lk t tb.ty with
     | none=>rw[ht]at hb;cases hb
     | some ti =>
      have h0:=(hT _ _ ht).2;rw[ht]at hb;unfold Vb at hb;split at hb
      .grind
      cases hb) w h q (e x _ hx) (e y _ hy)
    exact A0 (u:=u) (w':=w) (by simp[execOp,h1,d]) (hn _ _ _ (QS.still j))
 case unOp op t x =>
  cases hx:Aq σ x with
  | none=>rw[hx]at h;cases op<;>simp[qUn]at h
  | some xv =>
   rw[hx]at h;obtain⟨rfl,u,d,j⟩:=AAt (P:=P) w h q (e x _ hx);exact A0 (u:=u) (w':=w) (by simp[execOp,d]) (hn _ _ _ (QS.still j))
 case convert s t x =>
  cases hs:lk s tb.ty with
  | none=>rw[hs]at h;simp[LQ]at h
  | some al =>
   cases ht:lk t tb.ty with
   | none=>rw[hs,ht]at h;simp[LQ]at h
   | some ti =>
    cases hx:Aq σ x with
    | none=>rw[hs,ht,hx]at h;simp[LQ]at h
    | some xv =>
     rw[hs,ht,hx]at h;obtain⟨rfl,u,d,j⟩:=A7B (P:=P) hT rfl (hT _ _ hs) (hT _ _ ht) h q (e x _ hx);have d:(convert s t (a.eval x)).run P w=.ok u w:=d;exact A0 (u:=u) (w':=w) (by simp[execOp,d]) (hn _ _ _ (QS.still j))
 case makeSlice t l c =>
  cases ht:lk t tb.ty with
  | none=>rw[ht]at h;simp[Jt]at h
  | some ti =>
   cases hx:Aq σ l with
   | none=>rw[ht,hx]at h;simp[Jt]at h
   | some aj =>
    cases hy:Aq σ c with
    | none=>rw[ht,hx,hy]at h;simp[Jt]at h
    | some I =>
     rw[ht,hx,hy]at h;obtain⟨u,ρ',w',h1,d⟩:=A7G (hT _ _ ht) hT h q (e l _ hx) (e c _ hy) hf;exact A0 (u:=u) (w':=w') (by simp[execOp,h1]) (hn _ _ _ d)
 case slice t x lo hi ab =>
  cases ab with
  | some m =>
   cases lo with
   | some _=>cases hi<;>simp[aq]at h
   | none =>
    cases hi with
    | none=>simp[aq]at h
    | some h1 =>
     simp only[aq]at h;cases ht:lk t tb.ty with
     | none=>rw[ht]at h;simp[EY]at h
     | some ti =>
      cases hx:Aq σ x with
      | none=>rw[ht,hx]at h;simp[EY]at h
      | some xv =>
       cases hh:Aq σ h1 with
       | none=>rw[ht,hx,hh]at h;simp[EY]at h
       | some ag =>
        cases hm:Aq σ m with
        | none=>rw[ht,hx,hh,hm]at h;simp[EY]at h
        | some ak =>
         rw[ht,hx,hh,hm]at h;obtain⟨rfl,u,d,j⟩:=A0L (P:=P) (V:=vw w O0 σ ρ) (hT _ _ ht) hT h q (e x _ hx) (e h1 _ hh) (e m _ hm);have d:(Instr.sliceAt t (a.eval x) none (some (a.eval h1)) (some (a.eval m))).run P w=.ok u w:=d;exact A0 (u:=u) (w':=w) (by simp[execOp,d]) (hn _ _ _ (QS.still j))
  | none =>
   simp only[aq]at h;cases ht:lk t tb.ty with
   | none=>rw[ht]at h;simp[F2]at h
   | some ti =>
    cases hx:Aq σ x with
    | none=>rw[ht,hx]at h;simp[F2]at h
    | some xv =>
     have K:∀ {y:Option Operand} {H:Option AV},Hd σ y=some H->fQ (V:=vw w O0 σ ρ) H (y.map a.eval):=by
      intro y H hy;cases y with
      | none=>simp only[Hd]at hy;cases hy;trivial
      | some z =>
       simp only[Hd,OS]at hy;obtain⟨T,aa,rfl⟩:=hy;exact e z T aa
     cases E:Hd σ lo with
     | none=>rw[ht,hx,E]at h;simp[F2]at h
     | some ai =>
      cases F:Hd σ hi with
      | none=>rw[ht,hx,E,F]at h;simp[F2]at h
      | some af =>
       rw[ht,hx,E,F]at h;obtain⟨rfl,u,d,j⟩:=A4X (P:=P) (V:=vw w O0 σ ρ) (hT _ _ ht) hT h q (e x _ hx) (K E) (K F);have d:(Instr.sliceAt t (a.eval x) (lo.map a.eval) (hi.map a.eval) none).run P w=.ok u w:=d;exact A0 (u:=u) (w':=w) (by simp[execOp,d]) (hn _ _ _ (QS.still j))
 case fieldAddr s x f =>
  cases hs:lk s tb.ty with
  | none=>rw[hs]at h;simp[H8]at h
  | some ti =>
   cases hx:Aq σ x with
   | none=>rw[hs,hx]at h;simp[H8]at h
   | some xv =>
    rw[hs,hx]at h;obtain⟨rfl,u,d,j⟩:=A4T (P:=P) (hT _ _ hs) w h (e x _ hx);exact A0 (u:=u) (w':=w) (by simp[execOp,d]) (hn _ _ _ (QS.still j))
 case indexAddr t x i =>
  cases ht:lk t tb.ty with
  | none=>rw[ht]at h;simp[Gj]at h
  | some ti =>
   cases hx:Aq σ x with
   | none=>rw[ht,hx]at h;simp[Gj]at h
   | some xv =>
    cases hi:Aq σ i with
    | none=>rw[ht,hx,hi]at h;simp[Gj]at h
    | some R =>
     rw[ht,hx,hi]at h;obtain⟨rfl,u,d,j⟩:=A4U (P:=P) (V:=vw w O0 σ ρ) (hT _ _ ht) hT h q (e x _ hx) (e i _ hi) J;have d:(Instr.indexAt t (a.eval x) (a.eval i)).run P w=.ok u w:=d;exact A0 (u:=u) (w':=w) (by simp[execOp,d]) (hn _ _ _ (QS.still j))
 case index t x i =>
  cases ht:lk t tb.ty with
  | none=>rw[ht]at h;simp[Ey]at h
  | some ti =>
   cases hx:Aq σ x with
   | none=>rw[ht,hx]at h;simp[Ey]at h
   | some xv =>
    cases hi:Aq σ i with
    | none=>rw[ht,hx,hi]at h;simp[Ey]at h
    | some R =>
     rw[ht,hx,hi]at h;obtain⟨rfl,u,d,j⟩:=A0I (P:=P) (hT _ _ ht) w h q (e x _ hx) (e i _ hi);exact A0 (u:=u) (w':=w) (by simp[execOp,d]) (hn _ _ _ (QS.still j))
 case extract x i =>
  cases hx:Aq σ x with
  | none=>rw[hx]at h;simp[FE]at h
  | some xv =>
   rw[hx]at h;obtain⟨rfl,u,d,j⟩:=xA (P:=P) w h (e x _ hx);exact A0 (u:=u) (w':=w) (by simp[execOp,d]) (hn _ _ _ (QS.still j))
 case makeFunc fn first W =>
  obtain⟨rfl,u,d,j⟩:=A9p (P:=P) e h;have d:(Instr.makeFunc fn (first.map a.eval) (W.map a.eval)).run P w=.ok u w:=by
   rw[<-d]
   congr 2<;>(apply Array.ext';simp)
  exact A0 (u:=u) (w':=w) (by simp[execOp,d]) (hn _ _ _ (QS.still j))
 case makeMap t res =>
  cases res with
  | some z=>simp[aq]at h
  | none =>
   simp only[aq]at h;cases ht:lk t tb.ty with
   | none=>rw[ht]at h;simp[G6]at h
   | some ti =>
    rw[ht]at h;obtain⟨u,ρ',w',h1,d⟩:=xG (w:=w) (O0:=O0) (ρ:=ρ) (hT _ _ ht) h hf;exact A0 (u:=u) (w':=w') (by simp[execOp,h1]) (hn _ _ _ d)
 case lookup t x i ok =>
  cases ht:lk t tb.ty with
  | none=>rw[ht]at h;simp[Jv]at h
  | some ti =>
   cases hx:Aq σ x with
   | none=>rw[ht,hx]at h;simp[Jv]at h
   | some xv =>
    cases hi:Aq σ i with
    | none=>rw[ht,hx,hi]at h;simp[Jv]at h
    | some R =>
     rw[ht,hx,hi]at h;obtain⟨rfl,u,d,j⟩:=A7J (P:=P) (hT _ _ ht) hT A h (e x _ hx) (e i _ hi);exact A0 (u:=u) (w':=w) (by simp[execOp,d]) (hn _ _ _ (QS.still j))
 case call c =>
  obtain⟨callee,args,argTypes⟩:=c;cases callee with
  | invoke r m=>simp[DD]at h
  | value g =>
   simp only[DD]at h;exact A7L hF A O e (xs:=args.toList) (ts:=argTypes) (o:=⟨dst,.call ⟨.value g,args,argTypes⟩,type,pos,after,guard⟩) sc h q hf hn
  | builtin b =>
   simp only[DD]at h;obtain⟨args⟩:=args;obtain⟨argTypes⟩:=argTypes;simp only at h;unfold DZ at h;split at h
   .rename_i x t;cases ht:lk t tb.ty with
    | none=>rw[ht]at h;simp[Vc]at h
    | some ti =>
     cases hx:Aq σ x with
     | none=>rw[ht,hx]at h;simp[Vc]at h
     | some xv =>
      rw[ht,hx]at h;obtain⟨rfl,u,d,j⟩:=A9k (P:=P) (ty:=type) (V:=vw w O0 σ ρ) J (hT _ _ ht) w h (e x _ hx);exact A0 (u:=u) (w':=w) (by simp[execOp,resolve,invoke,builtin,d]) (hn _ _ _ (QS.still j))
   .rename_i x y t u;cases hx:Aq σ x with
    | none=>rw[hx]at h;simp[C2]at h
    | some xv =>
     cases hy:Aq σ y with
     | none=>rw[hx,hy]at h;simp[C2]at h
     | some D =>
      rw[hx,hy]at h;obtain⟨z,ρ',w',h1,d⟩:=A0O (ty:=type) hT A h q (e x _ hx) (e y _ hy) hf;exact A0 (u:=z) (w':=w') (by simp[execOp,resolve,invoke,builtin,h1]) (hn _ _ _ d)
   .rename_i x y t u;cases hx:Aq σ x with
    | none=>rw[hx]at h;simp[UX]at h
    | some xv =>
     cases hy:Aq σ y with
     | none=>rw[hx,hy]at h;simp[UX]at h
     | some D =>
      rw[hx,hy]at h;obtain⟨rfl,z,h1,d⟩:=A9l (P:=P) (ts:=#[t,u]) (ty:=type) w h (e x _ hx) (e y _ hy);exact A0 (u:=z) (w':=w) (by simp[execOp,resolve,invoke,builtin,h1]) (hn _ _ _ (QS.still d))
   .rename_i x y t u;cases hx:Aq σ x with
    | none=>rw[hx]at h;simp[UY]at h
    | some xv =>
     cases hy:Aq σ y with
     | none=>rw[hx,hy]at h;simp[UY]at h
     | some D =>
      rw[hx,hy]at h;obtain⟨rfl,z,h1,d⟩:=A9m (P:=P) (ts:=#[t,u]) (ty:=type) w h (e x _ hx) (e y _ hy);exact A0 (u:=z) (w':=w) (by simp[execOp,resolve,invoke,builtin,h1]) (hn _ _ _ (QS.still d))
   .rename_i x y S t u ae;cases hx:Aq σ x with
    | none=>rw[hx]at h;simp[Ju]at h
    | some xv =>
     cases hy:Aq σ y with
     | none=>rw[hx,hy]at h;simp[Ju]at h
     | some D =>
      cases G:Aq σ S with
      | none=>rw[hx,hy,G]at h;simp[Ju]at h
      | some T =>
       rw[hx,hy,G]at h;obtain⟨rfl,z,h1,d⟩:=A7C (P:=P) (ts:=#[t,u,ae]) (ty:=type) w h (e x _ hx) (e y _ hy) (e S _ G);exact A0 (u:=z) (w':=w) (by simp[execOp,resolve,invoke,builtin,h1]) (hn _ _ _ (QS.still d))
   .rename_i ts x y z u r;cases hx:Aq σ x with
    | none=>rw[hx]at h;simp[Pl]at h
    | some xv =>
     rw[hx]at h;unfold Pl at h;split at h
     .rename_i k U B;cases B;cases hm:F4 σ k (some U) (y :: z :: u :: r) with
      | none=>rw[hm]at h;simp[TJ]at h
      | some m =>
       rw[hm]at h;simp only[TJ,AAJ,ACn]at h;obtain⟨rfl,rfl,rfl⟩:=h;obtain⟨Y,Z⟩:=BI (e x _ hx);obtain⟨h1,d⟩:=fY (P:=P) e w _ _ _ hm Z;have j:(Builtin.min_ ⟨argTypes⟩ type (a.eval x :: a.eval y :: a.eval z :: a.eval u :: r.map a.eval).toArray).run P w=.ok (.int k m) w:=by
        rw[Y];exact h1
       exact A0 (u:=.int _ m) (w':=w) (by simp[execOp,resolve,invoke,builtin,j]) (hn _ _ _ (QS.still (BN d)))
     cases h
   cases h
end
end
section
open Go Go.RowKit
section
variable {w0:World} {K O0:Nat->Prop} {nt:Nat} {ds:Fp} {σ:St} {ρ:Nat->Value} {a:Act} {w:World}
theorem A52 {n:Nat} {o:Obj} {env:List (Nat×AV)} (m:Nat):HK ⟨env,upd n o σ.objs⟩ m↔HK σ m:=by
 constructor
 .rintro⟨x,hx⟩;rw[Gk]at hx;split at hx
  .rename_i e;subst e;simp only[OS]at hx;obtain⟨y,hy,_⟩:=hx;exact⟨y,hy⟩
  exact⟨x,hx⟩
 rintro⟨x,hx⟩;by_cases e:m=n
 .subst e;exact⟨o,by simp[Gk,hx]⟩
 exact⟨x,by simp[Gk,e,hx]⟩
theorem CG.upd (h:CG w0 K O0 nt ds σ ρ a w) (u:∀b,K b->b<w0.heap.size) {n:Nat} {o f:Obj} (hn:lk n σ.objs=some o) {g:Nat} (hb:blk (ρ n)=some g) {w':World} (c:w.grownBy w' (some g))
  (E:A6 (vw w' O0 σ ρ) f (ρ n)):CG w0 K O0 nt ds ⟨σ.env,Fw.upd n f σ.objs⟩ ρ a w':=by
 have d:HK ⟨σ.env,Fw.upd n f σ.objs⟩=HK σ:=funext λm=>propext (A52 m);have r:vw w' O0 ⟨σ.env,Fw.upd n f σ.objs⟩ ρ=vw w' O0 σ ρ:=by
  have B:own O0 ⟨σ.env,Fw.upd n f σ.objs⟩ ρ=own O0 σ ρ:=by
   funext b;simp only[own,d]
  simp only[vw,d,B]
 have z:own O0 σ ρ g:=.inr ⟨n,⟨o,hn⟩,.inl hb⟩;have hk:Cu (vw w O0 σ ρ) (vw w' O0 σ ρ):=⟨λ_ _ h=>h,λ_ h=>h,λ_ _=>rfl,λb A y=>c.block b A (λe=>by injection e with e;subst e;exact y z)⟩;refine⟨⟨c.os.trans h.frm.os,c.tape.trans h.frm.tape,c.output.trans h.frm.output,RF h.frm.size c.size,λk l=>?_⟩,h.nt,h.defers,λp C=>by rw[d];exact h.pin p C,?_,?_,?_,?_⟩
 .refine(c.block k (AAU (u k l) h.frm.size) (λe=>?_)).trans (h.frm.block k l);injection e with e
  subst e;exact(h.free n k ⟨o,hn⟩ (.inl hb)).1 l
 .intro m x hm;rw[r];rw[Gk]at hm;split at hm
  .grind
  rename_i e;refine(h.objs m x hm).keeps hk λb i=>?_;refine c.block b ((h.objs m x hm).block_lt i) (λj=>?_);injection j with j
  subst j;exact e (h.dist m n b ⟨x,hm⟩ ⟨o,hn⟩ i (.inl hb))
 .intro m b hl i;rw[d]at hl;exact h.free m b hl i
 .intro m D b hl q h1 t;rw[d]at hl q;exact h.dist m D b hl q h1 t
 intro s v hs;rw[r];exact(h.env s v hs).keeps hk
theorem Jw (n s:Nat):∀l:List (Nat×AV),lk s (Gh n l)=(lk s l).map (AV.drp n)
 | []=>rfl
 | (j,v) :: l=>by
  simp only[Gh,lk];split
  .rfl
  exact Jw n s l
def Obj.drp (n:Nat):Obj->Obj
 | .arr et e xs=>.arr et e xs
 | .box et st fs=>.box et st (AV.drps n fs)
 | .mapo k v l=>.mapo k v l
 | .nest et b k e xs h=>.nest et b k e xs h
 | .frame i fs=>.frame i (Gh n fs)
 | .loop L=>.loop L
 | .itr c g d f a=>.itr c g d f a
 | .dfr=>.dfr
theorem Bm (n s:Nat):∀l:List (Nat×Obj),lk s (Bj n l)=(lk s l).map (Obj.drp n)
 | []=>rfl
 | (j,.arr et e xs) :: l=>by
  simp only[Bj,lk];split
  .rfl
  exact Bm n s l
 | (j,.box et st fs) :: l=>by
  simp only[Bj,lk];split
  .rfl
  exact Bm n s l
 | (j,.mapo k v x) :: l=>by
  simp only[Bj,lk];split
  .rfl
  exact Bm n s l
 | (j,.nest et b k e xs h) :: l=>by
  simp only[Bj,lk];split
  .rfl
  exact Bm n s l
 | (j,.frame i fs) :: l=>by
  simp only[Bj,lk];split
  .rfl
  exact Bm n s l
 | (j,.loop L) :: l=>by
  simp only[Bj,lk];split
  .rfl
  exact Bm n s l
 | (j,.itr c g d f a) :: l=>by
  simp only[Bj,lk];split
  .rfl
  exact Bm n s l
 | (j,.dfr) :: l=>by
  simp only[Bj,lk];split
  .rfl
  exact Bm n s l
def Vw.but (V:Vw) (n:Nat):Vw:=⟨V.w,V.O,λm=>V.L m/\m≠n,V.ρ⟩
def seat (v:Value):Prop:=(∃a m c,v=.slice a m c)\/∃b,v=.tuple b
theorem I3 {V:Vw} {n:Nat} (hn:seat (V.ρ n)) {v:Value} (h:Ve V x v):Ve (V.but n) (x.drp n) v:=by
 cases x;case sr m e lo hi =>
  simp only[AV.drp];split
  .trivial
  rename_i d;exact⟨⟨h.1,d⟩,h.2⟩
 case ep m e i k off =>
  simp only[AV.drp];split
  .trivial
  rename_i d;exact⟨⟨h.1,d⟩,h.2⟩
 case nin m e i len =>
  simp only[AV.drp];split
  .trivial
  rename_i d;exact⟨⟨h.1,d⟩,h.2⟩
 case bp m k off =>
  simp only[AV.drp];refine⟨⟨h.1,λe=>?_⟩,h.2⟩;subst e;obtain⟨_,b,hb,_⟩:=h;rcases hn with ⟨a,g,c,hs⟩|⟨j,hs⟩<;>(rw[hs]at hb;cases hb)
 case clo f ns =>
  simp only[AV.drp];refine⟨h.1,λm hm=>?_⟩;obtain⟨h1,b,hb⟩:=h.2 m hm;refine⟨⟨h1,λe=>?_⟩,b,hb⟩;subst e;rcases hn with ⟨a,g,c,hs⟩|⟨j,hs⟩<;>(rw[hs]at hb;cases hb)
 case mp m =>
  simp only[AV.drp];refine⟨⟨h.1,λe=>?_⟩,h.2⟩;subst e;obtain⟨_,b,hb,_⟩:=h;rcases hn with ⟨a,g,c,hs⟩|⟨j,hs⟩<;>(rw[hs]at hb;cases hb)
 case yl m =>
  simp only[AV.drp];refine⟨⟨h.1,λe=>?_⟩,h.2⟩;subst e;obtain⟨_,b,hb,_⟩:=h;rcases hn with ⟨a,g,c,hs⟩|⟨j,hs⟩<;>(rw[hs]at hb;cases hb)
 case ag l=>exact h.elim
 case tup l=>exact h.elim
 all_goals simp only[AV.drp];exact h
theorem A53 {V:Vw} {n:Nat} (hn:seat (V.ρ n)) {cs:List Value} (h:N3 V x cs):N3 (V.but n) (x.drp n) cs:=by
 cases x;case p t d=>simp only[AV.drp];exact h
 case ag l=>obtain⟨v,_,_,hf⟩:=h;exact hf.elim
 case tup l=>obtain⟨v,_,_,hf⟩:=h;exact hf.elim
 all_goals
  obtain⟨v,rfl,h1,c⟩:=h;have a:=I3 hn c;simp only[AV.drp]at a ⊢;first
   | exact⟨v,rfl,h1,a⟩
   | (split at a<;>rename_i b<;>first|(rw[BY b];exact⟨v,rfl,h1,a⟩)|(rw[At b];exact⟨v,rfl,h1,a⟩))
theorem Py {V:Vw} {n:Nat} (hn:seat (V.ρ n)):∀ {l:List AV} {cs:List Value},Da V l cs->Da (V.but n) (AV.drps n l) cs
 | [],cs,h=>(h:cs=[])
 | x :: r,cs,h=>by
  obtain⟨c1,c2,rfl,h1,a⟩:=h;simp only[AV.drps];exact⟨c1,c2,rfl,A53 hn h1,Py hn a⟩
theorem A54 {V:Vw} {n:Nat} (hn:seat (V.ρ n)) {v:Value} (hx:TR V x v):TR (V.but n) (x.drp n) v:=by
 cases x;case ag l=>obtain⟨cs,h1,a⟩:=hx;simp only[AV.drp];exact⟨cs,h1,Py hn a⟩
 all_goals exact TR.of1 (I3 hn hx)
theorem fZ {V:Vw} {n:Nat} (hn:seat (V.ρ n)):∀ {l:List AV} {a:List Value},H9 V l a->H9 (V.but n) (AV.drps n l) a
 | [],a,h=>(h:a=[])
 | x :: r,a,h=>by
  obtain⟨v,c,rfl,h1,b⟩:=h;simp only[AV.drps];exact⟨v,c,rfl,A54 hn h1,fZ hn b⟩
theorem A55 {V:Vw} {v:Value} (h:Ve V x v):B7 V x v:=by
 cases x;case ag l=>exact h.elim
 case tup l=>exact h.elim
 all_goals exact h
theorem sV {V:Vw} {n:Nat} (hn:seat (V.ρ n)) {v:Value} (h:B7 V x v):B7 (V.but n) (x.drp n) v:=by
 cases x;case ag l=>obtain⟨cs,h1,a⟩:=h;simp only[AV.drp];exact⟨cs,h1,Py hn a⟩
 case tup l=>obtain⟨b,h1,a⟩:=h;simp only[AV.drp];exact⟨b,h1,fZ hn a⟩
 all_goals exact A55 (I3 hn h)
theorem TZ (n:Nat):∀l:List AV,(AV.drps n l).length=l.length
 | []=>rfl
 | _ :: r=>by simp[AV.drps,TZ n r]
theorem A56 {n:Nat} {a:Obj} {env:List (Nat×AV)} (m:Nat):HK ⟨env,upd n a (Bj n σ.objs)⟩ m↔HK σ m:=by
 constructor
 .rintro⟨x,hx⟩;rw[Gk,Bm,Bm]at hx;split at hx
  .rename_i e;subst e;simp only[Option.map_map,OS]at hx;obtain⟨y,hy,_⟩:=hx;exact⟨y,hy⟩
  simp only[OS]at hx;obtain⟨y,hy,_⟩:=hx;exact⟨y,hy⟩
 rintro⟨x,hx⟩;by_cases e:m=n
 .subst e;exact⟨a,by simp[Gk,Bm,hx]⟩
 exact⟨x.drp n,by simp[Gk,Bm,e,hx]⟩
theorem CG.app (h:CG w0 K O0 nt ds σ ρ a w) (Z:∀b,K b->b<w0.heap.size) (an:∀b,O0 b->b<w0.heap.size) {n:Nat} (ad:HL n=false) {et:TypeId} {xs ys:List e.den} (hn:lk n σ.objs=some (.arr et e xs)) {loc:Value} {w':World} {cells:List Value}
  (B:w.grownBy w' (blk (ρ n))) (Q:blk loc=blk (ρ n)\/∀b,blk loc=some b->w.heap.size<=b) (hm:ys.length<=AQ)
  (M:w'.ownsRow 0 et e.size loc ys.length cells) (ab:Dh w (own O0 σ ρ) e cells ys) {d:Nat} (hd:d<nt) {hi:Nat} (ae:hi=ys.length) :
  CG w0 K O0 nt ds ⟨(d,.sr n e 0 hi) :: Gh n σ.env,Fw.upd n (.arr et e ys) (Bj n σ.objs)⟩ (FA ρ n loc) (a.put (some d) loc) w':=by
 subst ae;have F:∃a m c,(vw w O0 σ ρ).ρ n=.slice a m c:=by
  obtain⟨_,cells',ah,_⟩:=h.objs n _ hn;rcases ah.2 with ⟨A,_⟩|⟨g,cap,S,A,_⟩
  .exact⟨_,_,_,A⟩
  exact⟨_,_,_,A⟩
 let σ':St:=⟨(d,.sr n e 0 ys.length) :: Gh n σ.env,Fw.upd n (.arr et e ys) (Bj n σ.objs)⟩
 have C:∀m,HK σ' m↔HK σ m:=λm=>A56 m;have E:∀b,bk loc b↔blk loc=some b:=λb=>by
  rcases M.2 with ⟨A,_⟩|⟨g,cap,S,A,_⟩
  .rw[A];exact L2
  rw[A];exact L2
 have ao:∀b,bk (ρ n) b↔blk (ρ n)=some b:=λb=>by
  obtain⟨W,al,c2,j⟩:=F;have j:ρ n=_:=j;rw[j];exact L2
 have af:∀b,bk loc b->own O0 σ ρ b\/w.heap.size<=b:=by
  intro b hb;replace hb:=(E b).1 hb;rcases Q with h1|h1
  .exact .inl (.inr ⟨n,⟨_,hn⟩,.inl (by rw[<-h1];exact hb)⟩)
  exact .inr (h1 b hb)
 have hk:Cu ((vw w O0 σ ρ).but n) (vw w' O0 σ' (FA ρ n loc)):=by
  refine⟨?_,λm hm=>(C m).2 hm.1,λm hm=>?_,?_⟩
  .intro b I hb u;rcases u with h0|⟨m,hl,H⟩
   .exact hb (.inl h0)
   by_cases J:m=n
   .subst J;rw[Bp]at H;rcases af b H with h1|h1
    .exact hb h1
    have I:b<w.heap.size:=I;omega
   have:FA ρ n loc m=ρ m:=by simp[FA,J]
   rw[this]at H;exact hb (.inr ⟨m,(C m).1 hl,H⟩)
  .have:m≠n:=hm.2;show FA ρ n loc m=ρ m;simp[FA,this]
  intro b I hb;exact B.block b I (λf=>hb (.inr ⟨n,⟨_,hn⟩,.inl f.symm⟩))
 refine⟨⟨B.os.trans h.frm.os,B.tape.trans h.frm.tape,B.output.trans h.frm.output,RF h.frm.size B.size,λk O=>?_⟩,by rw[Pp];exact h.nt,by rw[Kh];exact h.defers,λp ai=>?_,?_,?_,?_,?_⟩
 .refine(B.block k (AAU (Z k O) h.frm.size) (λf=>?_)).trans (h.frm.block k O);exact(h.free n k ⟨_,hn⟩ (.inl f.symm)).1 O
 .obtain⟨h1,D,t⟩:=h.pin p ai;have aq:p.1≠n:=by
   intro i;obtain⟨W,al,c2,j⟩:=F;have j:ρ n=_:=j;rw[<-i,D]at j;rw[j]at t;rcases t with t|t
   .cases t
   rw[i,ad]at t;cases t
  grind [FA]
 .intro m x q;show A6 (vw w' O0 σ' (FA ρ n loc)) x (FA ρ n loc m);rw[Gk]at q;split at q
  .rename_i f;subst f;rw[Bm,hn]at q;simp only[ABj]at q;cases q;rw[Bp];exact⟨hm,cells,M,ab.keeps (V:=(vw w O0 σ ρ).but m) hk⟩
  rename_i f;rw[Bm]at q;simp only[OS]at q;obtain⟨y,hy,rfl⟩:=q;have:FA ρ n loc m=ρ m:=by simp[FA,f]
  rw[this];have hb:∀b,bk (ρ m) b->w'.heap[b]?=w.heap[b]?:=λb u=>by
   refine B.block b ((h.objs m y hy).block_lt u) (λi=>?_);exact f (h.dist m n b ⟨y,hy⟩ ⟨_,hn⟩ u (.inl i.symm))
  have r:=h.objs m y hy;cases y with
  | arr U i ay=>exact A6.keeps (V:=(vw w O0 σ ρ).but n) hk hb r
  | box U st fs =>
   obtain⟨h0,b,cs,hl,hh,aa⟩:=r;exact A6.keeps (V:=(vw w O0 σ ρ).but n) (o:=.box U st (AV.drps n fs)) hk hb ⟨λaj=>by rw[TZ];exact h0 aj,b,cs,hl,hh,Py (.inl F) aa⟩
  | mapo k v l=>exact A6.keeps (V:=(vw w O0 σ ρ).but n) hk hb r
  | nest et ak k e xs hl=>exact A6.keeps (V:=(vw w O0 σ ρ).but n) (o:=.nest et ak k e xs hl) hk hb (NF (V:=vw w O0 σ ρ) (V':=(vw w O0 σ ρ).but n) rfl rfl r)
  | frame am fs =>
   obtain⟨h0,h1⟩:=r;refine A6.keeps (V:=(vw w O0 σ ρ).but n) (o:=.frame am (Gh n fs)) hk hb ⟨h0,λs z R=>?_⟩;rw[Jw]at R;simp only[OS]at R;obtain⟨y,hy,rfl⟩:=R;exact sV (.inl F) (h1 s y hy)
  | loop L=>exact A6.keeps (V:=(vw w O0 σ ρ).but n) hk hb r
  | itr au ax av aw ar=>exact A6.keeps (V:=(vw w O0 σ ρ).but n) hk hb r
  | dfr=>exact A6.keeps (V:=(vw w O0 σ ρ).but n) hk hb r
 .intro m b hl hb;replace hl:=(C m).1 hl;by_cases f:m=n
  .subst f;rw[Bp]at hb;rcases Q with h1|h1
   .exact h.free m b hl (.inl (by rw[<-h1];exact(E b).1 hb))
   have:=h1 b ((E b).1 hb);have:=h.frm.size;grind
  have:FA ρ n loc m=ρ m:=by simp[FA,f]
  rw[this]at hb;exact h.free m b hl hb
 .have key:∀m b,HK σ m->m≠n->bk (ρ m) b->bk loc b->False:=by
   intro m b hl J hb u;rcases Q with h1|h1
   .exact J (h.dist m n b hl ⟨_,hn⟩ hb (.inl (by rw[<-h1];exact(E b).1 u)))
   have D:=h1 b ((E b).1 u);obtain⟨y,hy⟩:=hl;have:=(h.objs m y hy).block_lt hb;have:b<w.heap.size:=this;omega
  intro m G b hl P h1 D;replace hl:=(C m).1 hl;replace P:=(C G).1 P;by_cases T:m=n<;>by_cases i:G=n
  .rw[T,i]
  .grind [FA,Bp]
  .grind [FA,Bp]
  have X:FA ρ n loc m=ρ m:=by simp[FA,T]
  have Y:FA ρ n loc G=ρ G:=by simp[FA,i]
  rw[X]at h1;rw[Y]at D;exact h.dist m G b hl P h1 D
 intro s v hs;show B7 (vw w' O0 σ' (FA ρ n loc)) v _;rw[NE a d loc s (by rw[h.nt];exact hd)];simp only[lk]at hs;split at hs
 .rename_i N;cases hs;rw[BY N];refine⟨(C n).2 ⟨_,hn⟩,?_⟩;show DM (plc (FA ρ n loc n)) e.size 0 ys.length loc;rw[Bp,Hk M];rcases M.2 with ⟨rfl,ag⟩|⟨g,cap,S,rfl,_,_,ap,_⟩
  .exact⟨none,0,0,rfl,by omega,by omega,none,0,by rw[ag],by omega,λ_=>⟨rfl,rfl⟩,λh=>by omega⟩
  exact⟨some ⟨g,0,none⟩,ys.length,cap,rfl,by omega,by omega,some ⟨g,0,none⟩,cap,by simp,by omega,λ_=>⟨rfl,rfl⟩,λ_=>by simp[NC]⟩
 rename_i N;rw[At N];rw[Jw]at hs;simp only[OS]at hs;obtain⟨y,hy,rfl⟩:=hs;exact(sV (.inl F) (h.env s y hy)).keeps hk
end
end
section
open Go Go.RowKit
def Vw.buts (V:Vw) (hs:List Nat):Vw:=⟨V.w,V.O,λm=>V.L m/\Ad m hs=false,V.ρ⟩
theorem bK {V:Vw} {hs:List Nat} (h:Ve V x v):Ve (V.buts hs) (x.fgt hs) v:=by
 cases x;case clo f ns =>
  simp only[AV.fgt];split
  .trivial
  rename_i a;refine⟨h.1,λn hn=>⟨⟨(h.2 n hn).1,?_⟩,(h.2 n hn).2⟩⟩;grind
 case ag l=>exact h.elim
 case tup l=>exact h.elim
 case p t d=>simp only[AV.fgt];exact h
 case pc e d=>simp only[AV.fgt];exact h
 case raw u=>simp only[AV.fgt];exact h
 case ip t d=>simp only[AV.fgt];exact h
 case fn f=>simp only[AV.fgt];exact h
 case top=>trivial
 all_goals
  simp only[AV.fgt];split
  .trivial
  rename_i a;exact⟨⟨h.1,by simpa using a⟩,h.2⟩
theorem A57 {V:Vw} {hs:List Nat} {cs:List Value} (h:N3 V x cs):N3 (V.buts hs) (x.fgt hs) cs:=by
 cases x;case p t d=>simp only[AV.fgt];exact h
 case ag l=>obtain⟨v,_,_,hf⟩:=h;exact hf.elim
 case tup l=>obtain⟨v,_,_,hf⟩:=h;exact hf.elim
 all_goals
  obtain⟨v,rfl,h1,c⟩:=h;have a:=bK (hs:=hs) c;simp only[AV.fgt]at a ⊢;first
   | exact⟨v,rfl,h1,a⟩
   | (split at a<;>rename_i b<;>first|(rw[BY b];exact⟨v,rfl,h1,a⟩)|(rw[At b];exact⟨v,rfl,h1,a⟩))
theorem Pz {V:Vw} {hs:List Nat}:∀ {l:List AV} {cs:List Value},Da V l cs->Da (V.buts hs) (AV.fgts hs l) cs
 | [],cs,h=>(h:cs=[])
 | x :: r,cs,h=>by
  obtain⟨c1,c2,rfl,h1,a⟩:=h;simp only[AV.fgts];exact⟨c1,c2,rfl,A57 h1,Pz a⟩
theorem A58 {V:Vw} {hs:List Nat} (hx:TR V x v):TR (V.buts hs) (x.fgt hs) v:=by
 cases x;case ag l=>obtain⟨cs,h1,a⟩:=hx;simp only[AV.fgt];exact⟨cs,h1,Pz a⟩
 all_goals exact TR.of1 (bK hx)
theorem f5 {V:Vw} {hs:List Nat}:∀ {l:List AV} {a:List Value},H9 V l a->H9 (V.buts hs) (AV.fgts hs l) a
 | [],a,h=>(h:a=[])
 | x :: r,a,h=>by
  obtain⟨v,c,rfl,h1,b⟩:=h;simp only[AV.fgts];exact⟨v,c,rfl,A58 h1,f5 b⟩
theorem Ur {V:Vw} {hs:List Nat} (h:B7 V x v):B7 (V.buts hs) (x.fgt hs) v:=by
 cases x;case ag l=>obtain⟨cs,h1,a⟩:=h;simp only[AV.fgt];exact⟨cs,h1,Pz a⟩
 case tup l=>obtain⟨b,h1,a⟩:=h;simp only[AV.fgt];exact⟨b,h1,f5 a⟩
 all_goals exact A55 (bK h)
theorem Ez (hs:List Nat) (s:Nat):∀l:List (Nat×AV),lk s (Cc hs l)=(lk s l).map (AV.fgt hs)
 | []=>rfl
 | (j,v) :: l=>by
  simp only[Cc,lk];split
  .rfl
  exact Ez hs s l
theorem Ta (hs:List Nat):∀l:List AV,(AV.fgts hs l).length=l.length
 | []=>rfl
 | _ :: r=>by simp[AV.fgts,Ta hs r]
theorem CD (hd hs:List Nat) (n:Nat):∀l:List (Nat×Obj),lk n (Az hd hs l)=if Ad n hd=true then none else (lk n l).map (Obj.fgt hs)
 | []=>by simp[Az,lk]
 | (j,o) :: l=>by
  simp only[Az];by_cases a:Ad j hd=true
  .rw[BY a,CD hd hs n l];grind [lk]
  rw[At a];simp only[lk];by_cases hn:n=j
  .subst hn;simp[a]
  simp[hn,CD hd hs n l]
theorem bL {V V':Vw} {hs:List Nat} (hk:Cu (V.buts hs) V') {o:Obj} {loc:Value} (hb:∀b,bk loc b->V'.w.heap[b]?=V.w.heap[b]?) (h:A6 V o loc):A6 V' (o.fgt hs) loc:=by
 cases o with
 | arr et e xs=>exact A6.keeps (V:=V.buts hs) hk hb h
 | box et st fs =>
  obtain⟨h0,b,cs,hl,hh,c⟩:=h;exact A6.keeps (V:=V.buts hs) (o:=.box et st (AV.fgts hs fs)) hk hb ⟨λd=>by rw[Ta];exact h0 d,b,cs,hl,hh,Pz c⟩
 | mapo k v l=>exact A6.keeps (V:=V.buts hs) hk hb h
 | nest et f k e xs hl=>exact A6.keeps (V:=V.buts hs) (o:=.nest et f k e xs hl) hk hb (NF (V:=V) (V':=V.buts hs) rfl rfl h)
 | frame g fs =>
  obtain⟨h0,h1⟩:=h;refine A6.keeps (V:=V.buts hs) (o:=.frame g (Cc hs fs)) hk hb ⟨h0,λs z a=>?_⟩;rw[Ez]at a;simp only[OS]at a;obtain⟨y,hy,rfl⟩:=a;exact Ur (h1 s y hy)
 | loop L=>exact A6.keeps (V:=V.buts hs) hk hb h
 | itr j p m n i=>exact A6.keeps (V:=V.buts hs) hk hb h
 | dfr=>exact A6.keeps (V:=V.buts hs) hk hb h
section
variable {w0:World} {K O0:Nat->Prop} {nt:Nat} {ds:Fp} {σ:St} {ρ:Nat->Value} {a:Act} {w:World}
theorem CG.swap (h:CG w0 K O0 nt ds σ ρ a w) (E:∀b,K b->b<w0.heap.size) (Y:∀b,O0 b->b<w0.heap.size) {T:Nat->Prop} (hT:∀n,T n->HL n=false/\∃o,lk n σ.objs=some o/\seat (ρ n))
  {new:List (Nat×Obj)} {σ':St} {ρ':Nat->Value} {w':World} {dst:Option Nat} {u:Value}
  (R:w'.os=w.os) (W:w'.tape=w.tape) (S:w'.output=w.output) (V:w.heap.size<=w'.heap.size)
  (I:∀b,b<w.heap.size->(∀n,T n->¬bk (ρ n) b)->w'.heap[b]?=w.heap[b]?)
  (l:∀n o,lk n σ'.objs=some o->lk n new=none->¬T n/\∃c,lk n σ.objs=some c)
  (J:∀n o,lk n σ.objs=some o->¬T n->lk n new=none/\∃c,lk n σ'.objs=some c)
  (i:∀n,lk n new=none->ρ' n=ρ n)
  (A:∀n o b,lk n new=some o->bk (ρ' n) b->(∃m,T m/\bk (ρ m) b)\/w.heap.size<=b)
  (F:∀n m o q b,lk n new=some o->lk m new=some q->bk (ρ' n) b->bk (ρ' m) b->n=m)
  (Q:∀n o,lk n σ'.objs=some o->A6 (vw w' O0 σ' ρ') o (ρ' n))
  (G:∀s v,lk s σ'.env=some v->B7 (vw w' O0 σ' ρ') v ((a.put dst u).tmps.getD s undef)) :
  CG w0 K O0 nt ds σ' ρ' (a.put dst u) w':=by
 have Z:∀m,T m->∀b,bk (ρ m) b->b<w.heap.size:=λm hm b hb=>by
  obtain⟨_,o,f,_⟩:=hT m hm;exact(h.objs m o f).block_lt hb
 have x:∀m,T m->∀b,bk (ρ m) b->¬K b/\¬O0 b:=λm hm b hb=>by
  obtain⟨_,o,f,_⟩:=hT m hm;exact h.free m b ⟨o,f⟩ hb
 refine⟨⟨R.trans h.frm.os,W.trans h.frm.tape,S.trans h.frm.output,RF h.frm.size V,λk hk=>?_⟩,by rw[Pp];exact h.nt,by rw[Kh];exact h.defers,λp U=>?_,Q,?_,?_,G⟩
 .exact(I k (AAU (E k hk) h.frm.size) λn hn hb=>(x n hn k hb).1 hk).trans (h.frm.block k hk)
 .obtain⟨⟨o,h1⟩,e,g⟩:=h.pin p U;have M:¬T p.1:=λht=>by
   obtain⟨hf,_,_,hs⟩:=hT _ ht;rw[e]at hs;rcases g with g|g
   .rcases hs with ⟨_,_,_,t⟩|⟨_,t⟩<;>rw[t]at g<;>cases g
   rw[hf]at g;cases g
  obtain⟨C,D⟩:=J p.1 o h1 M;exact⟨D,(i _ C).trans e,g⟩
 .intro n b hl hb;obtain⟨o,f⟩:=hl;cases hn:lk n new with
  | none =>
   obtain⟨_,c,h1⟩:=l n o f hn;rw[i n hn]at hb;exact h.free n b ⟨c,h1⟩ hb
  | some d =>
   rcases A n d b hn hb with ⟨m,hm,r⟩|H
   .exact x m hm b r
   have:=h.frm.size;grind
 have key:∀n m o d b,lk n σ'.objs=some o->lk n new=none->lk m new=some d->bk (ρ' n) b->bk (ρ' m) b->False:=by
  intro n m o d b f hn hm h1 e;obtain⟨N,c,j⟩:=l n o f hn;rw[i n hn]at h1;rcases A m d b hm e with ⟨B,y,r⟩|H
  .obtain⟨_,X,P,_⟩:=hT B y;have:=h.dist n B b ⟨c,j⟩ ⟨X,P⟩ h1 r;exact N (this▸y)
  have aa:b<w.heap.size:=(h.objs n c j).block_lt h1;omega
 intro n m b hl L h1 e;obtain⟨o,f⟩:=hl;obtain⟨q,z⟩:=L;cases hn:lk n new with
 | none =>
  cases hm:lk m new with
  | none =>
   obtain⟨_,c,j⟩:=l n o f hn;obtain⟨_,d,O⟩:=l m q z hm;rw[i n hn]at h1;rw[i m hm]at e;exact h.dist n m b ⟨c,j⟩ ⟨d,O⟩ h1 e
  | some d=>exact(key n m o d b f hn hm h1 e).elim
 | some c =>
  cases hm:lk m new with
  | none=>exact(key m n q c b z hm hn e h1).elim
  | some d=>exact F n m c d b hn hm h1 e
end
end
section
open Go Go.RowKit
structure Rq (V V':Vw) (n:Nat) (hs:List Nat):Prop where
 O:∀b,b<V.w.heap.size->¬V.O b->¬V'.O b
 L:∀m,V.L m->Ad m hs=false->V'.L m
 ρ:∀m,V.L m->Ad m hs=false->m≠n->V'.ρ m=V.ρ m
 tup:∃vs,V.ρ n=.tuple vs
 plc:plc (V'.ρ n)=plc (V.ρ n)
 heap:∀b,b<V.w.heap.size->¬V.O b->V'.w.heap[b]?=V.w.heap[b]?
section
variable {V V':Vw} {n:Nat} {hs:List Nat}
theorem Rq.pl (h:Rq V V' n hs) {m:Nat} (a:V.L m) (hm:Ad m hs=false):Fw.plc (V'.ρ m)=Fw.plc (V.ρ m):=by
 by_cases e:m=n
 .subst e;exact h.plc
 rw[h.ρ m a hm e]
theorem Rq.ptr (h:Rq V V' n hs) {m:Nat} (b:V.L m) (hm:Ad m hs=false) (c:V.ρ m=v) (d:∀a,v≠.tuple a):V'.ρ m=v:=by
 have e:m≠n:=λe=>by
  obtain⟨a,h1⟩:=h.tup;grind
 rw[h.ρ m b hm e,c]
theorem bM (h:Rq V V' n hs) (hx:Ve V x v):Ve V' (x.trn n hs) v:=by
 cases x;case ag l=>exact hx.elim
 case tup l=>exact hx.elim
 case p t d=>simp only[AV.trn];exact BU.mono h.O h.heap hx
 case pc e d=>simp only[AV.trn];exact⟨BU.mono h.O h.heap hx.1,hx.2⟩
 case raw u=>simp only[AV.trn];exact hx
 case fn f=>simp only[AV.trn];exact hx
 case top=>trivial
 case ip t d =>
  simp only[AV.trn];obtain⟨ad,cs,c,g,k,y⟩:=hx;have o:ad.block<V.w.heap.size:=by
   have D:=t.size_pos;have hl:=y.length;have:=block_lt_of_cell (k 0 (cs[0]'(by omega)) (AT O1))
   rwa [CP]at this
  refine⟨ad,cs,c,h.O _ o g,λj u z=>?_,B1.mono h.O h.heap y⟩;rw[ACm (w:=V.w) (w':=V'.w)]
  .exact k j u z
  rw[CP];exact h.heap _ o g
 case sr m e lo hi =>
  simp only[AV.trn];split
  .trivial
  rename_i hm;have hm:Ad m hs=false:=by simpa using hm
  exact⟨h.L m hx.1 hm,by rw[h.pl hx.1 hm];exact hx.2⟩
 case ep m e i B off =>
  simp only[AV.trn];split
  .trivial
  rename_i hm;have hm:Ad m hs=false:=by simpa using hm
  exact⟨h.L m hx.1 hm,by rw[h.pl hx.1 hm];exact hx.2⟩
 case nin m e i len =>
  simp only[AV.trn];split
  .trivial
  rename_i hm;have A:m≠n:=λe=>hm (.inl e);have q:Ad m hs=false:=by grind
  exact⟨h.L m hx.1 q,by rw[h.ρ m hx.1 q A];exact hx.2⟩
 case bp m B off =>
  simp only[AV.trn];split
  .trivial
  rename_i hm;have hm:Ad m hs=false:=by simpa using hm
  obtain⟨a,b,hb,c⟩:=hx;exact⟨h.L m a hm,b,h.ptr a hm hb (λ_ e=>by cases e),c⟩
 case mp m =>
  simp only[AV.trn];split
  .trivial
  rename_i hm;have hm:Ad m hs=false:=by simpa using hm
  obtain⟨a,b,hb,c⟩:=hx;exact⟨h.L m a hm,b,h.ptr a hm hb (λ_ e=>by cases e),c⟩
 case yl m =>
  simp only[AV.trn];split
  .trivial
  rename_i hm;have hm:Ad m hs=false:=by simpa using hm
  obtain⟨a,b,hb,c⟩:=hx;exact⟨h.L m a hm,b,h.ptr a hm hb (λ_ e=>by cases e),c⟩
 case clo f ns =>
  simp only[AV.trn];split
  .trivial
  rename_i C;have r:∀m∈ns,Ad m hs=false:=λm hm=>by grind
  have s:∀m∈ns,V'.ρ m=V.ρ m:=λm hm=>by
   obtain⟨a,b,hb⟩:=hx.2 m hm;rw[h.ptr a (r m hm) hb (λ_ e=>by cases e),hb]
  refine⟨?_,λm hm=>⟨h.L m (hx.2 m hm).1 (r m hm),by rw[s m hm];exact(hx.2 m hm).2⟩⟩;rw[hx.1]
  congr 2
  exact RN λm hm=>(s m hm).symm
theorem A59 (h:Rq V V' n hs) {cs:List Value} (hx:N3 V x cs):N3 V' (x.trn n hs) cs:=by
 cases x;case p t d=>simp only[AV.trn];exact(B1.mono h.O h.heap hx:B1 V'.w V'.O t cs d)
 case ag l=>obtain⟨v,_,_,hf⟩:=hx;exact hf.elim
 case tup l=>obtain⟨v,_,_,hf⟩:=hx;exact hf.elim
 all_goals
  obtain⟨v,rfl,h1,c⟩:=hx;have a:=bM h c;simp only[AV.trn]at a ⊢;first
   | exact⟨v,rfl,h1,a⟩
   | (split at a<;>rename_i b<;>first|(rw[BY b];exact⟨v,rfl,h1,a⟩)|(rw[At b];exact⟨v,rfl,h1,a⟩))
theorem P0 (h:Rq V V' n hs):∀ {l:List AV} {cs:List Value},Da V l cs->Da V' (AV.trns n hs l) cs
 | [],cs,hx=>(hx:cs=[])
 | x :: r,cs,hx=>by
  obtain⟨c1,c2,rfl,h1,a⟩:=hx;simp only[AV.trns];exact⟨c1,c2,rfl,A59 h h1,P0 h a⟩
theorem A5a (h:Rq V V' n hs) (hx:TR V x v):TR V' (x.trn n hs) v:=by
 cases x;case ag l=>obtain⟨cs,h1,a⟩:=hx;simp only[AV.trn];exact⟨cs,h1,P0 h a⟩
 all_goals exact TR.of1 (bM h hx)
theorem f6 (h:Rq V V' n hs):∀ {l:List AV} {a:List Value},H9 V l a->H9 V' (AV.trns n hs l) a
 | [],a,hx=>(hx:a=[])
 | x :: r,a,hx=>by
  obtain⟨v,c,rfl,h1,b⟩:=hx;simp only[AV.trns];exact⟨v,c,rfl,A5a h h1,f6 h b⟩
theorem bN (h:Rq V V' n hs) (hx:B7 V x v):B7 V' (x.trn n hs) v:=by
 cases x;case ag l=>obtain⟨cs,h1,a⟩:=hx;simp only[AV.trn];exact⟨cs,h1,P0 h a⟩
 case tup l=>obtain⟨b,h1,a⟩:=hx;simp only[AV.trn];exact⟨b,h1,f6 h a⟩
 all_goals exact A55 (bM h hx)
theorem Fi (n:Nat) (hs:List Nat) (s:Nat):∀l:List (Nat×AV),lk s (Eh n hs l)=(lk s l).map (AV.trn n hs)
 | []=>rfl
 | (j,v) :: l=>by
  simp only[Eh,lk];split
  .rfl
  exact Fi n hs s l
theorem Tc (n:Nat) (hs:List Nat):∀l:List AV,(AV.trns n hs l).length=l.length
 | []=>rfl
 | _ :: r=>by simp[AV.trns,Tc n hs r]
theorem DN (n:Nat) (hs:List Nat) (m:Nat):∀l:List (Nat×Obj),lk m (C1 n hs l)=if Ad m (n :: hs)=true then none else (lk m l).map (Obj.trn n hs)
 | []=>by simp[C1,lk]
 | (j,o) :: l=>by
  simp only[C1];by_cases a:Ad j (n :: hs)=true
  .rw[BY a,DN n hs m l];grind [lk]
  rw[At a];simp only[lk];by_cases hm:m=j
  .subst hm;simp[a]
  simp[hm,DN n hs m l]
theorem sW (h:Rq V V' n hs) {o:Obj} {loc:Value} (hb:∀b,bk loc b->V'.w.heap[b]?=V.w.heap[b]?) (hx:A6 V o loc):A6 V' (o.trn n hs) loc:=by
 have hk:Cu ⟨V.w,V.O,λ_=>False,V.ρ⟩ V':=⟨h.O,λ_ h=>h.elim,λ_ h=>h.elim,h.heap⟩;cases o with
 | arr et e xs=>exact A6.keeps (V:=⟨V.w,V.O,λ_=>False,V.ρ⟩) (o:=.arr et e xs) hk hb hx
 | box et st fs =>
  obtain⟨h0,b,cs,rfl,h1,c⟩:=hx;exact⟨λd=>by rw[Tc];exact h0 d,b,cs,rfl,(hb b (.inl rfl)).trans h1,P0 h c⟩
 | mapo k v l=>exact A6.keeps (V:=⟨V.w,V.O,λ_=>False,V.ρ⟩) (o:=.mapo k v l) hk hb hx
 | nest et g k e xs hl=>exact A6.keeps (V:=⟨V.w,V.O,λ_=>False,V.ρ⟩) (o:=.nest et g k e xs hl) hk hb (NF (V:=V) (V':=⟨V.w,V.O,λ_=>False,V.ρ⟩) rfl rfl hx)
 | frame q fs =>
  obtain⟨h0,h1⟩:=hx;refine⟨h0,λs z a=>?_⟩;rw[Fi]at a;simp only[OS]at a;obtain⟨y,hy,rfl⟩:=a;exact bN h (h1 s y hy)
 | loop L=>exact A6.keeps (V:=⟨V.w,V.O,λ_=>False,V.ρ⟩) (o:=.loop L) hk hb hx
 | itr i p j m f=>exact A6.keeps (V:=⟨V.w,V.O,λ_=>False,V.ρ⟩) (o:=.itr i p j m f) hk hb hx
 | dfr=>exact A6.keeps (V:=⟨V.w,V.O,λ_=>False,V.ρ⟩) (o:=.dfr) hk hb hx
end
end
section
open Go Go.RowKit
theorem nE {t:Ty} (h:t.cell1=true):t.size=1:=by cases t<;>simp[Ty.cell1]at h<;>rfl
theorem Yv {V:Vw} {ty:Ty} (hx:N3 V x a) (hf:Pj ty x=true):a.length=ty.size:=by
 by_cases ht:x=.top
 .subst ht;obtain⟨v,rfl,_⟩:=hx;grind [Pj,nE]
 have hf:Cj ty x=true:=by cases x<;>first|exact hf|exact absurd rfl ht
 exact(nA hx hf).1
theorem xH {V:Vw} {ty:Ty} {fs j:List AV} {off:Nat} {u v:AV} {cs c:List Value} (f:Da V fs cs) (F:s=false->fs.length=1)
  (h:Lu s fs v o=some j) (g:Rj fs o=some off) (hl:LO s fs o=some u) (hu:Pj ty u=true) (M:Cj ty v=true)
  (I:∀l,v=.ag l->Da V l c) (n:(∀l,v≠.ag l)->N3 V v c) (J:c.length=ty.size) :
  off+c.length<=cs.length/\Da V j (A1 cs off c)/\(s=false->j.length=1):=by
 unfold Lu at h;split at h
 .simp only[Rj]at g;cases g;simp only[LO]at hl;cases s with
  | true =>
   simp only[AAF]at h hl;cases hl;have L:cs.length=ty.size:=by
    have:=f.length;cases ty<;>simp only[Pj,Cj]at hu<;>try(cases hu;done)
    grind [Ty.size]
   rw[Dq O1];split at h
   .grind [N3,B1,A0N]
   .grind
   cases h
  | false =>
   simp only[oF,AAV]at h hl;split at h
   .rename_i b;have b:∀l,v≠.ag l:=λl e=>by subst e;simp[TL]at b
    cases h;obtain⟨x,rfl⟩:=ABy.1 (F rfl);simp at hl;subst hl;obtain⟨c1,c2,rfl,h1,a⟩:=f;have a:c2=[]:=a;subst a;have A:=Yv h1 hu;rw[S6,Dq O1];exact⟨by omega,⟨c,[],by simp,n b,rfl⟩,by simp⟩
   cases h
 .rename_i k;split at h
  .rename_i q;simp only[An]at q;obtain⟨rfl,b⟩:=q;have b:∀l,v≠.ag l:=λl e=>by subst e;simp[TL]at b
   cases h;simp only[LO,AAF]at hl;obtain⟨h1,a⟩:=f.get hl;have A:=Yv a hu;have H:=a.length;have E:off=CS fs k:=by grind [Rj,N1]
   subst E;have i:=n b;have m:=i.length;exact⟨by omega,f.set hl i O1,by simp⟩
  cases h
 rename_i k r K;cases s with
 | false=>simp at h
 | true =>
  simp only[AAF]at h;split at h
  .rename_i t d G x hk;simp only[OS]at h;obtain⟨y,hy,rfl⟩:=h;simp only[Rj,hk,OS]at g;obtain⟨N,D,rfl⟩:=g;obtain⟨h1,a⟩:=f.get hk;have z:B1 V.w V.O t _ d:=a;have i:B1 V.w V.O G c x:=n sc;obtain⟨m,B⟩:=Vj hy D z i;have C:=a.length;simp only[AV.cells]at h1 C B m;have st:=f.set (y:=.p t y) hk (m:B1 V.w V.O t _ y) rfl;rw[OD _ _ _ _ _ O1 h1]at st;exact⟨by omega,st,by simp⟩
  cases h
section
variable {P:Program} {tb:Tb} {w0:World} {K O0:Nat->Prop} {nt:Nat} {ds:Fp} {σ σ':St} {ρ:Nat->Value} {a:Act} {w:World} {vc:Prop}
theorem Td {n:Nat} {o:Obj} (hn:lk n σ.objs=some o) {g:Nat} (hb:blk (ρ n)=some g) {w':World} (c:w.grownBy w' (some g)):Cu (vw w O0 σ ρ) (vw w' O0 σ ρ) :=
 ⟨λ_ _ h=>h,λ_ h=>h,λ_ _=>rfl,λb d a=>c.block b d (λe=>by injection e with e;subst e;exact a (.inr ⟨n,⟨o,hn⟩,.inl hb⟩))⟩
theorem GB (w:World) (g:Nat) (cs:Array Value):w.grownBy (w.setRow g cs) (some g) :=
 ⟨rfl,rfl,rfl,by simp,λk _ hk=>setRow_other w g k cs (λe=>hk (by rw[e]))⟩
theorem L7 (hT:EO P tb t Z) {g off:Nat} {cs:List Value} {et:TypeId} {xv:Value} (hh:w.heap[g]?=some (.cells cs.toArray et (0,0))) (hs:xv.cells.size=Z.ty.size)
  (hl:off+xv.cells.toList.length<=cs.length) (h1:∀u∈xv.cells.toList,u.oneCell'=true) :
  (Instr.storeAt t (.pointer (some ⟨g,off,none⟩)) xv).run P w=.ok () (w.setRow g (A1 cs off xv.cells.toList).toArray):=by
 have a:=run_storeCells_at P g off et xv.cells.toList 0 cs.toArray w hh (by simpa using hl) h1;simp only[ACV]at a;have b:¬xv.cells.size≠Z.ty.size:=by omega
 simp only[Instr.storeAt,Instr.sureAddr,storeVar,AAZ,ABO,AAl,IB w hT,At b,a];rfl
theorem sY {o:Oper} {w':World} {next:Act->World->Prop} {Q:Exit->Act->World->Prop} {r:Option Nat} (h:(execOp a.eval o).run P w=.ok .skip w') (hn:next (a.put o.dst undef) w') (b:∀c,o.op≠.defer c:=by intro c e;cases e):o.wpIn (FR r) 0 P a w next Q:=by
 refine⟨λ_ _=>trivial,?_⟩;rw[G9 _ _ _ b,h];exact hn
theorem xI (hs:CG w0 K O0 nt ds σ ρ a w) (ah:∀b,K b->b<w0.heap.size) (hT:DC P tb) {x:Operand} (bp:∀n e i s off,Aq σ x=some (.ep n e i s off)->C9 (lk n σ.objs)=false) (h:JS σ (lk t tb.ty) (Aq σ x) (Aq σ y)=some (vc,σ')) (cu:vc) :
  ∃w',(Instr.storeAt t (a.eval x) (a.eval y)).run P w=.ok () w'/\CG w0 K O0 nt ds σ' ρ a w':=by
 have F:Hl (vw w O0 σ ρ) σ a.eval:=GA hs.env;unfold JS at h;split at h
 .rename_i ti n s off v ht hx hy;have ab:=F x _ hx;have C:=F y _ hy;cases hn:lk n σ.objs with
  | none=>rw[hn]at h;simp[Dl]at h
  | some o =>
   rw[hn]at h;cases o with
   | arr et e xs=>simp[Dl]at h
   | mapo k v l=>simp[Dl]at h
   | frame ci fs=>simp[Dl]at h
   | loop L=>simp[Dl]at h
   | itr cd cg ce cf cb=>simp[Dl]at h
   | dfr=>simp[Dl]at h
   | nest et cc k e xs hl=>simp[Dl]at h
   | box et st fs =>
    simp only[Dl]at h;cases H:LO st fs s with
    | none=>rw[H]at h;simp[F5]at h
    | some u =>
     cases X:Lu st fs v s with
     | none=>rw[H,X]at h;simp[F5]at h
     | some cm =>
      rw[H,X]at h;simp only[F5]at h;split at h
      .rename_i au;obtain⟨hu,Z,bq,_⟩:=au;cases h;obtain⟨bv,b,cs,T,B,be⟩:=hs.objs n _ hn;obtain⟨bc,ck,f,aa⟩:=ab;have f:ρ n=_:=f;rw[T]at f;injection f with f
       injection f with f
       injection f with f
       subst f;have G:=A0F C Z (OE C Z);have ai:∀l,v=.ag l->Da (vw w O0 σ ρ) l (a.eval y).cells.toList:=by
        intro l e;subst e;obtain⟨cl,id,bf⟩:=C;rw[id];simpa[Value.cells] using bf
       obtain⟨h1,N,az⟩:=xH be bv X bq H hu Z ai (λI=>G.2 I) (by simpa using G.1);have bs:∀z∈(a.eval y).cells.toList,z.oneCell'=true:=by
        by_cases I:∃l,v=.ag l
        .obtain⟨l,e⟩:=I;exact(ai l e).one
        exact(G.2 (λl e=>I ⟨l,e⟩)).one
       have W:=L7 (hT _ _ ht) B G.1 h1 bs;rw[aa];refine⟨_,W,?_⟩;have hb:blk (ρ n)=some b:=by rw[T];rfl
       refine hs.upd ah hn hb (GB w b _) ⟨az,b,_,T,setRow_heap w b _ _ et _ B,?_⟩;exact N.keeps (Td hn hb (GB w b _))
      cases h
 .rename_i ti n e i s off v ht hx hy;have ab:=F x _ hx;have C:=F y _ hy;cases hn:lk n σ.objs with
  | none=>rw[hn]at h;simp[Dm]at h
  | some o =>
   rw[hn]at h;cases o with
   | box et st fs=>simp[Dm]at h
   | mapo k v l=>simp[Dm]at h
   | frame ci fs=>simp[Dm]at h
   | loop L=>simp[Dm]at h
   | itr cd cg ce cf cb=>simp[Dm]at h
   | dfr=>simp[Dm]at h
   | nest et cc k e xs hl=>have:=bp _ _ _ _ _ hx;rw[hn]at this;cases this
   | arr et d xs =>
    simp only[Dm]at h;cases R:BR (.slice e) ⟨.slice d,xs⟩ with
    | none=>rw[R]at h;simp[FG]at h
    | some ys =>
     obtain⟨rfl,N⟩:=Bk R;cases N;rw[R]at h;cases Q:N2 false σ ti.ty v with
     | none=>rw[Q]at h;simp[FG]at h
     | some cj =>
      rw[Q]at h;simp only[FG]at h;cases Y:YT s d (xs.getD i d.dflt) ⟨ti.ty,cj⟩ with
      | none=>rw[Y]at h;simp[G7]at h
      | some z =>
       rw[Y]at h;simp only[G7]at h;split at h
       .rename_i br;cases h;obtain⟨bn,cells,J,E⟩:=hs.objs n _ hn;obtain⟨bc,g,m,c,f,U,aa⟩:=ab;have f:plc (ρ n)=_:=f;have J:w.ownsRow 0 et d.size (ρ n) xs.length cells:=J;rw[Hk J]at f;have E:Dh w (own O0 σ ρ) d cells xs:=E;have bz:=LS (V:=vw w O0 σ ρ) (O':=own O0 σ ρ) (λ_ h=>h) (λh=>by cases h) hs.objs Q C;obtain⟨ar,aq⟩:=Yp bz;obtain⟨ap,bt⟩:=J;rcases bt with ⟨id,_⟩|⟨cn,cap,r,id,cp,B,ak,bd,S,bw⟩
        .grind
        rw[f]at id;injection id with A bg bh
        injection A with A
        injection A with A
        subst A;subst bg;have ca:xs[i]?=some (xs.getD i d.dflt):=by
         rw[AT U,AS,AT U];rfl
        obtain⟨af,bj,am,bi⟩:=E i _ ca;obtain⟨ba,bb⟩:=Vj Y br bi aq;have co:cells.length=xs.length*d.size:=ap;have bl:(i+1)*d.size<=xs.length*d.size:=Rc _ U;have cq:xs.length*d.size<=cap*d.size:=Rc _ ak;rw[AB3]at bl;have aj:i*d.size+off+(a.eval y).cells.toList.length<=r.toList.length:=by
         have bm:r.toList.length=cap*d.size:=by rw[<-S];simp
         have ct:(a.eval y).cells.toList.length=ti.ty.size:=by rw[<-ar];simp
         omega
        have bk:w.heap[g]?=some (.cells r.toList.toArray et (0,0)):=by simpa using B
        have W:=L7 (hT _ _ ht) bk ar aj aq.one;rw[aa];refine⟨_,W,?_⟩;have hb:blk (ρ n)=some g:=by rw[f];rfl
        have bu:(A1 r.toList (i*d.size+off) (a.eval y).cells.toList).length=r.size:=by rw[FI aj];simp
        have bx:(A1 r.toList (i*d.size+off) (a.eval y).cells.toList).take (xs.length*d.size)=A1 cells (i*d.size+off) (a.eval y).cells.toList:=by
         rw[<-bw];apply ABL;intro j;simp only[A1,RI,TD,AAE,On,AAd,List.take_take];have ad:min (i*d.size+off) r.toList.length=i*d.size+off:=by omega
         have D:min (i*d.size+off) (xs.length*d.size)=i*d.size+off:=by omega
         have ch:min (xs.length*d.size) r.toList.length=xs.length*d.size:=by
          have bm:r.toList.length=cap*d.size:=by rw[<-S];simp
          omega
         simp only[ad,D,ch];by_cases c1:j<i*d.size+off
         .simp[c1,show j<xs.length*d.size by omega]
         by_cases c2:j-(i*d.size+off)<(a.eval y).cells.toList.length
         .simp only[c1,c2,AAV,AAF,show j<xs.length*d.size by omega]
         simp only[c1,c2,AAV];by_cases ae:j<xs.length*d.size
         .rw[BY ae,BY O1]
         rw[At ae,At O1]
        refine hs.upd ah hn hb (GB w g _) ⟨by simpa using bn,A1 cells (i*d.size+off) (a.eval y).cells.toList,⟨?_,.inr ⟨g,cap,_,by rw[f,bh];simp,OF _,setRow_heap w g _ _ et _ B,by simpa using ak,bd,by simp[bu,S],?_⟩⟩,?_⟩
        .rw[FI O1];simpa using ap
        .simpa using bx
        have hk:=Td (O0:=O0) hn hb (GB w g (A1 r.toList (i*d.size+off) (a.eval y).cells.toList).toArray);have bo:Dh (vw w O0 σ ρ).w (vw w O0 σ ρ).O d (A1 cells (i*d.size+off) (a.eval y).cells.toList) (xs.set i z):=by
         intro k q M;rw[oN]at M;split at M
         .rename_i an;subst an;cases M;refine⟨A1 af off (a.eval y).cells.toList,by rw[FI bb];exact bj,λj u p=>?_,ba⟩;simp only[A1,RI,AAE,On,TD,AAd]at p ⊢;have ad:min off af.length=off:=by omega
          have D:min (i*d.size+off) cells.length=i*d.size+off:=by omega
          simp only[ad]at p;simp only[D];by_cases c1:j<off
          .simp only[c1,AAF]at p;simp only[show i*d.size+j<i*d.size+off by omega,AAF];exact am _ _ p
          simp only[c1,AAV]at p;simp only[show ¬i*d.size+j<i*d.size+off by omega,AAV];rw[show i*d.size+j-(i*d.size+off)=j-off by omega];by_cases c2:j-off<(a.eval y).cells.toList.length
          .simp only[c2,AAF]at p ⊢;exact p
          simp only[c2,AAV]at p ⊢;have:=am _ _ p;rw[<-this]
          congr 1
          omega
         rename_i an;obtain⟨av,aw,ax,ay⟩:=E k q M;refine⟨av,aw,λj u p=>?_,ay⟩;have cr:=(RL.1 p).1;have al:=ax j u p;simp only[A1,RI,AAE,On,TD,AAd];have D:min (i*d.size+off) cells.length=i*d.size+off:=by omega
         simp only[D];rcases Nat.lt_or_ge k i with ao|ao
         .have:(k+1)*d.size<=i*d.size:=Rc _ ao;rw[AB3]at this;simp only[show k*d.size+j<i*d.size+off by omega,AAF];exact al
         have:(i+1)*d.size<=k*d.size:=Rc _ O1;rw[AB3]at this;simp only[show ¬k*d.size+j<i*d.size+off by omega,AAV,show ¬k*d.size+j-(i*d.size+off)<(a.eval y).cells.toList.length by omega];rw[<-al]
         congr 1
         omega
        exact bo.keeps hk
       cases h
 cases h
theorem xJ (hs:CG w0 K O0 nt ds σ ρ a w) (B:∀b,K b->b<w0.heap.size) (s:DC P tb) {m x y:Operand} (h:Lx tb σ (lk t tb.ty) (Aq σ m) (Aq σ x) (Aq σ y)=some (vc,σ')) :
  ∃w',(Instr.mapUpdate t (a.eval m) (a.eval x) (a.eval y)).run P w=.ok () w'/\CG w0 K O0 nt ds σ' ρ a w':=by
 have g:Hl (vw w O0 σ ρ) σ a.eval:=GA hs.env;unfold Lx at h;split at h
 .rename_i k e _ _ n xv R ht hm hx hy;have M:=g x _ hx;have N:=g y _ hy;obtain⟨T,b,d,J⟩:=g m _ hm;have d:ρ n=_:=d;cases hn:lk n σ.objs with
  | none=>rw[hn]at h;simp[G2]at h
  | some o =>
   rw[hn]at h;cases o with
   | mapo U Q l =>
    cases j:lk k tb.ty with
    | none=>simp[G2,j]at h
    | some O =>
     simp only[G2,j,ABj,AAJ]at h;split at h
     .rename_i E;obtain⟨rfl,F⟩:=E;cases f:N2 false σ O.ty xv with
      | none=>rw[f]at h;simp[Hj]at h
      | some kd =>
       cases p:N2 false σ Q R with
       | none=>rw[f,p]at h;simp[Hj]at h
       | some X =>
        rw[f,p]at h;simp only[Hj]at h;split at h
        .rename_i H;cases h;have h1:=LS (V:=vw w O0 σ ρ) (O':=own O0 σ ρ) (λ_ h=>h) (λh=>by cases h) hs.objs f M;have A:=LS (V:=vw w O0 σ ρ) (O':=own O0 σ ρ) (λ_ h=>h) (λh=>by cases h) hs.objs p N;obtain⟨S,r,q,c,L,⟨W,z⟩,G,D⟩:=A7I (w:=w) (V:=vw w O0 σ ρ) s (s _ _ ht) (n:=n) rfl rfl j rfl (hs.objs n _ hn) F H h1 A;have c:ρ n=_:=c;rw[d]at c;injection c with c
         injection c with c
         subst c;rw[J];refine⟨_,L,?_⟩;have u:blk (ρ n)=some b:=by rw[d];rfl
         have v:w.grownBy { w with heap:=w.heap.setIfInBounds b (.map r q) } (some b) :=
          ⟨rfl,rfl,rfl,by simp,λi _ hi=>(MapKept.heap_set z).2 i (λe=>hi (by rw[e]))⟩
         refine hs.upd B hn u v ⟨b,r,q,d,(MapKept.heap_set z).1,?_⟩;refine⟨?_,D⟩;exact G.mono (λ_ _ h=>h) (λb2 I C=>v.block b2 I (λe=>by injection e with e;subst e;exact C (.inr ⟨n,⟨_,hn⟩,.inl u⟩)))
        cases h
     cases h
   | _=>simp[G2]at h
 cases h
end
end
section
open Go Go.RowKit
section
variable {P:Program} {tb:Tb} {w0:World} {K O0:Nat->Prop} {nt:Nat} {ds:Fp} {σ σ':St} {ρ:Nat->Value} {a:Act} {w:World} {vc:Prop} {id:TypeId}
theorem Us {w:World} {base:Nat} {et:TypeId} {sz n:Nat} {s:Value} {xs:List Value} (h:w.ownsRow base et sz s n xs):s.ownBlock=blk s:=by
 rcases h.2 with ⟨rfl,_⟩|⟨g,cap,a,rfl,_⟩<;>rfl
theorem Hm (t:DC P tb) {el:TypeId} (hu:P.underlying id=some (.slice el)) {te:TI} (y:lk el tb.ty=some te) (H:te.ty=e) {base ty:Nat} {s xv:Value} {n:Nat} {xs B:List Value}
  (p:w.ownsRow base el e.size s n xs) {O:Nat->Prop} {ys:List e.den} (Q:Src w O e xv ys B) (R:(n+ys.length)*te.bytes<=AQ) {f:Value} {w':World}
  (h:(Builtin.append_ #[id,id] ty #[s,xv]).run P w=.ok f w'):blk f=blk s\/∀b,blk f=some b->w.heap.size<=b:=by
 subst H;obtain⟨⟨⟨_,F,_⟩,i,z,hi,k,v,A,af⟩,_⟩:=t _ _ y;have M:n+ys.length<=AQ:=by
  have:(n+ys.length)*1<=(n+ys.length)*te.bytes:=ABv _ F;omega
 have Z:AQ=140737488355328:=rfl;obtain⟨⟨a,c,rfl,E⟩,K,V,ab,Y⟩:=Q;have hs:(sizeOf el).run P w=.ok te.ty.size w:=IB w (t _ _ y);have ag:∀ {l C:Nat} {W:World},Result.ok (Value.slice (some ⟨w.heap.size,0,none⟩) l C) W=Result.ok f w'->blk f=blk s\/∀b,blk f=some b->w.heap.size<=b:=by grind [blk]
 have S:∀(ad:Addr) (m:Nat) (d:List Value),d.length=m*te.ty.size->(∀(j:Nat) (u:Value),d[j]?=some u->w.cell? (ad.add j)=some u)->(∀u∈d,u.oneCell'=true)->n+m<=AQ->(n+m)*te.bytes<=AQ ->
   (Builtin.append_ #[id,id] ty #[s,.slice (some ad) m c]).run P w=.ok f w'->blk f=blk s\/∀b,blk f=some b->w.heap.size<=b:=by
  intro ad m d hl o h1 X hb h;rcases p.2 with ⟨rfl,rfl⟩|⟨g,cap,r,rfl,T,J,aa,U,G,ae⟩
  .by_cases hm:m=0
   .subst hm;have:d=[]:=RW (by simpa using hl);simp[Builtin.append_,RR hu,hs,Builtin.lenOf,Builtin.firstCells,loadCells,loadCellsFrom]at h;grind
   have:=run_append_nil (P:=P) w id ty el i z hu hi A ad m c d (by rw[k];exact hl) o O1 O1 (by rw[v];simp at hb;omega);grind
  by_cases x:n+m<=cap
  .have I:n*i.size+d.length<=r.size:=by
    rw[hl,k,G,<-ACd];exact Rc _ x
   have:=run_append_room (P:=P) w id ty el i hu hi g n cap r J ad m c d (by rw[k];exact hl) o h1 x I;rw[this]at h;injection h with q D
   subst q;exact .inl rfl
  have N:∀j u,xs[j]?=some u->w.cell? ((⟨g,0,none⟩:Addr).add j)=some u:=p.cells (g:=g) rfl;have:=run_append_grow (P:=P) w id ty el i z hu hi A ⟨g,0,none⟩ n cap xs (by rw[k];exact p.1) N ad m c d (by rw[k];exact hl) o O1 O1 (by rw[v];exact growslice_fits O1 O1);grind
 rcases E with rfl|⟨ad,rfl,o⟩
 .have L:B=[]:=RW (by simpa using K);subst L;cases a with
  | none =>
   have:=TV (P:=P) (ty:=ty) hu hs p c;rw[show ([]:List te.ty.den).length=0 from rfl,this]at h;injection h with q D
   subst q;exact .inl rfl
  | some ad=>exact S ad 0 [] sc sc sc (by simpa using M) (by simpa using R) h
 grind
theorem nF {w:World} {O:Nat->Prop} {c:List Value} {xs:List e.den} (h:Dh w O e c xs) (n:Nat):Dh w O e (c.take (n*e.size)) (xs.take n):=by
 intro i x hi;rw[TD]at hi;split at hi
 .rename_i g;obtain⟨a,b,k,d⟩:=h i x hi;refine⟨a,b,λj u f=>?_,d⟩;have l:=(RL.1 f).1;have:(i+1)*e.size<=n*e.size:=Rc _ g;grind
 cases hi
theorem nG (hs:CG w0 K O0 nt ds σ ρ a w) (ae:∀b,K b->b<w0.heap.size) (af:∀b,O0 b->b<w0.heap.size) (hT:DC P tb) {d:Option Nat} (hd:∀k,d=some k->k<nt) {t u ty:TypeId} {x:Operand}
  (h:DV tb σ d t u (Aq σ x) (Aq σ y)=some (vc,σ')) (ap:vc) (ag:∃n e hi,Aq σ x=some (.sr n e 0 hi)/\C9 (lk n σ.objs)=false) :
  ∃z w' ρ',(Builtin.append_ #[t,u] ty #[a.eval x,a.eval y]).run P w=.ok z w'/\CG w0 K O0 nt ds σ' ρ' (a.put d z) w':=by
 have O:Hl (vw w O0 σ ρ) σ a.eval:=GA hs.env;obtain⟨n0,ab,ak,X,S⟩:=ag;unfold DV at h;split at h
 .rename_i n e hi v hx hy;obtain⟨rfl,rfl,rfl⟩:n=n0/\e=ab/\hi=ak:=by rw[hx]at X;cases X;exact⟨rfl,rfl,rfl⟩
  split at h
  .rename_i d;split at h
   .rename_i I;obtain⟨I,aj⟩:=I;subst I;cases H:lk t tb.ty with
    | none=>rw[H]at h;simp[FH]at h
    | some ti =>
     rw[H]at h;unfold FH at h;split at h
     .rename_i p offs el b i;cases i;split at h
      .rename_i ah;subst ah;obtain⟨hu,be,te,G,U⟩:=CZ (hT _ _ H) hT;rw[G]at h;cases hn:lk n σ.objs with
       | none=>rw[hn]at h;cases f:Rf σ p v<;>rw[f]at h<;>simp[Ct]at h
       | some o =>
        rw[hn]at h;cases o with
        | box et st fs=>cases f:Rf σ p v<;>rw[f]at h<;>simp[Ct]at h
        | mapo aq v1 l=>cases f:Rf σ p v<;>rw[f]at h<;>simp[Ct]at h
        | frame bn fs=>cases f:Rf σ p v<;>rw[f]at h<;>simp[Ct]at h
        | loop L=>cases f:Rf σ p v<;>rw[f]at h<;>simp[Ct]at h
        | itr bh bk bi bj bf=>cases f:Rf σ p v<;>rw[f]at h<;>simp[Ct]at h
        | nest et bg aq s xs hl=>rw[hn]at S;cases S
        | dfr=>cases f:Rf σ p v<;>rw[f]at h<;>simp[Ct]at h
        | arr et j xs =>
         simp only[Ct]at h;split at h
         .rename_i ai;subst ai;cases B:BR (.slice p) ⟨.slice j,xs⟩ with
          | none=>rw[B]at h;simp[F6]at h
          | some bo =>
           obtain⟨rfl,ad⟩:=Bk B;cases ad;rw[B]at h;cases f:Rf σ j v with
           | none=>rw[f]at h;simp[F6]at h
           | some ys =>
            rw[f]at h;simp only[F6]at h;cases h;obtain⟨bl,F⟩:=Uq hs.objs f (O y _ hy);obtain⟨bd,cells,r,C⟩:=hs.objs n _ hn;have r:w.ownsRow 0 et j.size (ρ n) xs.length cells:=r;have C:Dh w (own O0 σ ρ) j cells xs:=C;obtain⟨ay,Z,m,c,q,bc,ba,Y,aa,J,az,h0,h1⟩:=O x _ hx;have q:plc (ρ n)=.slice Z m c:=q;rw[Hk r]at q;obtain⟨rfl,rfl⟩:=h0 rfl;simp only[Nat.sub_zero]at J;have bb:=r.1;have R:hi<=xs.length:=by
             rcases r.2 with ⟨i,an⟩|⟨g,cap,M,i,_⟩
             .rw[q]at i;injection i;omega
             rw[q]at i;injection i;omega
            have am:hi*j.size<=xs.length*j.size:=Rc _ R;have E:w.ownsRow 0 et j.size (a.eval x) hi (cells.take (hi*j.size)):=by
             rw[J];refine⟨by rw[On];omega,?_⟩;rcases r.2 with ⟨i,an⟩|⟨g,cap,M,i,ar,au,bm,av,aw,ax⟩
             .rw[q]at i;injection i with s j A
              subst s;subst A;have:hi=0:=by omega
              subst this;exact .inl ⟨rfl,rfl⟩
             rw[q]at i;injection i with s j A
             subst s;subst A;refine .inr ⟨g,aa,M,rfl,ar,au,by omega,av,aw,?_⟩;rw[<-ax,List.take_take,AAI am]
            have V:(hi+ys.length)*te.bytes<=AQ:=ap;obtain⟨z,w',T,ao,Q,al⟩:=Gm (ty:=ty) hT hu G U E F V (OF _);have W:=Hm (ty:=ty) hT hu G U E F V T;have N:blk (a.eval x)=blk (ρ n):=by
             rw[J,q];cases Y<;>rfl
            rw[N]at W;rw[Us E,N]at Q;refine⟨z,w',FA ρ n z,T,?_⟩;have D:(xs.take hi++ys).length=hi+ys.length:=by simp;omega
            exact hs.app ae af aj hn Q W (by rw[D];exact al) (by rw[D];exact ao) (Kk (nF C hi) F.elems (by rw[On,On];rw[AAI R];omega)) (hd d rfl) D.symm
         cases h
      cases h
     cases h
   cases h
  cases h
 .grind
 .grind
 cases h
theorem NI (n:Nat) (e:Ty) (xs:List e.den) (s:Nat):∀l:List (Nat×AV),lk s (DY n e xs l)=(lk s l).map (AV.frz n e xs)
 | []=>rfl
 | (j,v) :: l=>by
  simp only[DY,lk];split
  .rfl
  exact NI n e xs s l
def Obj.frz (n:Nat) (e:Ty) (xs:List e.den):Obj->Obj
 | .arr et a ys=>.arr et a ys
 | .box et st fs=>.box et st (AV.frzs n e xs fs)
 | .mapo k v l=>.mapo k v l
 | .nest et c k e ys h=>.nest et c k e ys h
 | .frame j fs=>.frame j (DY n e xs fs)
 | .loop L=>.loop L
 | .itr d i f g b=>.itr d i f g b
 | .dfr=>.dfr
theorem Cd (n:Nat) (e:Ty) (xs:List e.den) (s:Nat):∀l:List (Nat×Obj),lk s (BB n e xs l)=(lk s l).map (Obj.frz n e xs)
 | []=>rfl
 | (j,.arr et a ys) :: l=>by
  simp only[BB,lk];split
  .rfl
  exact Cd n e xs s l
 | (j,.box et st fs) :: l=>by
  simp only[BB,lk];split
  .rfl
  exact Cd n e xs s l
 | (j,.mapo k v x) :: l=>by
  simp only[BB,lk];split
  .rfl
  exact Cd n e xs s l
 | (j,.nest _ _ _ _ _ _) :: l=>by
  simp only[BB,lk];split
  .rfl
  exact Cd n e xs s l
 | (j,.frame h fs) :: l=>by
  simp only[BB,lk];split
  .rfl
  exact Cd n e xs s l
 | (j,.loop L) :: l=>by
  simp only[BB,lk];split
  .rfl
  exact Cd n e xs s l
 | (j,.itr c g d f b) :: l=>by
  simp only[BB,lk];split
  .rfl
  exact Cd n e xs s l
 | (j,.dfr) :: l=>by
  simp only[BB,lk];split
  .rfl
  exact Cd n e xs s l
theorem Te (n:Nat) (e:Ty) (xs:List e.den):∀l:List AV,(AV.frzs n e xs l).length=l.length
 | []=>rfl
 | _ :: r=>by simp[AV.frzs,Te n e xs r]
section
variable {V V':Vw} {n:Nat} {et:TypeId} {e:Ty} {xs:List e.den}
structure sZ (V V':Vw) (n:Nat):Prop where
 w:V'.w=V.w
 ρ:V'.ρ=V.ρ
 L:∀m,V.L m->m≠n->V'.L m
 O:∀b,¬V.O b->¬V'.O b
 n:∀b,bk (V.ρ n) b->¬V'.O b
theorem sZ.keeps (h:sZ V V' n):Cu (V.but n) V':=⟨λb _ hb=>h.O b hb,λm hm=>h.L m hm.1 hm.2,λm _=>by rw[h.ρ];rfl,λb _ _=>by rw[h.w];rfl⟩
structure P1 (V V':Vw) (n:Nat) (e:Ty) (xs:List e.den):Prop where
 seat:seat (V.ρ n)
 read:∀lo hi v,DM (plc (V.ρ n)) e.size lo hi v->B1 V'.w V'.O (.slice e) [v] (sub xs lo hi)
theorem f7 {V:Vw} {et:TypeId} {e:Ty} {xs:List e.den} {loc:Value} (b:A6 V (.arr et e xs) loc):seat loc:=by
 obtain⟨_,cells',c,_⟩:=b;rcases c.2 with ⟨a,_⟩|⟨g,cap,d,a,_⟩
 .exact .inl ⟨_,_,_,a⟩
 exact .inl ⟨_,_,_,a⟩
theorem sZ.arr (h:sZ V V' n) (a:A6 V (.arr et e xs) (V.ρ n)):P1 V V' n e xs:=⟨f7 a,λlo hi v d=>by
 have c:=bB (V:=V) (O':=V'.O) h.O (λb hb=>h.n b (.inl hb)) a d
 rwa [<-h.w]at c⟩
theorem sZ.nest (h:sZ V V' n) {d:TypeId} {k e:Ty} {xs:List (k.den×List e.den)} (a:A6 V (.nest et d k e xs none) (V.ρ n)):P1 V V' n (.agg (.prod k (.slice e))) xs:=⟨by
 obtain⟨o,ins,cells,hl,_⟩:=a;exact hl.elim (λh=>.inr ⟨_,h⟩) (λh=>.inl ⟨_,_,_,h.1⟩),λlo hi v c=>by
 have b:=fH (V:=V) (O':=V'.O) h.O h.n a c
 rwa [<-h.w]at b⟩
theorem bO (h:sZ V V' n) (f:P1 V V' n e xs) {v:Value} (hx:Ve V x v):Ve V' (x.frz n e xs) v/\((∀t d,x≠.p t d)->∀t d,x.frz n e xs=.p t d->t.wrap [v]=v/\B1 V'.w V'.O t [v] d):=by
 have hk:=h.keeps;have b:=f.seat;cases x;case sr m c lo hi =>
  simp only[AV.frz];split
  .rename_i a;subst a;split
   .rename_i o;subst o;obtain⟨u,j⟩:=hx;have g:=f.read lo hi v j;obtain⟨_,_,_,_,_,_,r,s,k,_⟩:=j;refine⟨⟨[v],g,by rw[k];rfl⟩,λ_ t d h=>?_⟩;injection h with h1 l
    subst h1;cases l;exact⟨by rw[k];rfl,g⟩
   exact⟨trivial,λ_ t d h=>by cases h⟩
  rename_i a;have:=I3 b hx;simp only[AV.drp,At a]at this;exact⟨this.keeps hk,λ_ t d h=>by cases h⟩
 case ep m c i y off =>
  have:=I3 b hx;simp only[AV.drp]at this;simp only[AV.frz];split
  .exact⟨trivial,λ_ t d h=>by cases h⟩
  rename_i a;rw[At a]at this;exact⟨this.keeps hk,λ_ t d h=>by cases h⟩
 case nin m c i len =>
  have:=I3 b hx;simp only[AV.drp]at this;simp only[AV.frz];split
  .exact⟨trivial,λ_ t d h=>by cases h⟩
  rename_i a;rw[At a]at this;exact⟨this.keeps hk,λ_ t d h=>by cases h⟩
 case p t d=>exact⟨(I3 b hx).keeps hk,λq=>absurd rfl (q t d)⟩
 all_goals
  have:=I3 b hx;simp only[AV.drp]at this;simp only[AV.frz];exact⟨this.keeps hk,λ_ t d h=>by cases h⟩
theorem A5b (h:sZ V V' n) (i:P1 V V' n e xs) {cs:List Value} (hx:N3 V x cs):N3 V' (x.frz n e xs) cs:=by
 by_cases c:∃t d,x=.p t d
 .obtain⟨t,d,rfl⟩:=c;simp only[AV.frz];have hx:B1 V.w V.O t cs d:=hx;have:B1 V'.w V'.O t cs d:=hx.mono (λb _ hb=>h.O b hb) (λb _ _=>by rw[h.w]);exact this
 have j:∃v,cs=[v]/\v.oneCell'=true/\Ve V x v:=by
  cases x;case p t d=>exact absurd ⟨t,d,rfl⟩ c
  all_goals exact hx
 obtain⟨v,rfl,h1,g⟩:=j;obtain⟨f,a⟩:=bO h i g;have a:=a (λt d e=>c ⟨t,d,e⟩);generalize hy:x.frz n e xs=y at f a;cases y;case p t d=>exact(a t d rfl).2
 all_goals exact⟨v,rfl,h1,f⟩
theorem P2 (h:sZ V V' n) (a:P1 V V' n e xs):∀ {l:List AV} {cs:List Value},Da V l cs->Da V' (AV.frzs n e xs l) cs
 | [],cs,hx=>(hx:cs=[])
 | x :: r,cs,hx=>by
  obtain⟨c1,c2,rfl,h1,b⟩:=hx;simp only[AV.frzs];exact⟨c1,c2,rfl,A5b h a h1,P2 h a b⟩
theorem A5c (h:sZ V V' n) (a:P1 V V' n e xs) {v:Value} (hx:TR V x v):TR V' (x.frz n e xs) v:=by
 cases x;case ag l=>obtain⟨cs,h1,b⟩:=hx;simp only[AV.frz];exact⟨cs,h1,P2 h a b⟩
 all_goals
  simp only[TR]at hx;exact TR.of1 (bO h a hx).1
theorem f8 (h:sZ V V' n) (b:P1 V V' n e xs):∀ {l:List AV} {a:List Value},H9 V l a->H9 V' (AV.frzs n e xs l) a
 | [],a,hx=>(hx:a=[])
 | x :: r,a,hx=>by
  obtain⟨v,d,rfl,h1,c⟩:=hx;simp only[AV.frzs];exact⟨v,d,rfl,A5c h b h1,f8 h b c⟩
theorem s6 (h:sZ V V' n) (b:P1 V V' n e xs) {v:Value} (hx:B7 V x v):B7 V' (x.frz n e xs) v:=by
 cases x;case ag l=>obtain⟨cs,h1,a⟩:=hx;simp only[AV.frz];exact⟨cs,h1,P2 h b a⟩
 case tup l=>obtain⟨c,h1,a⟩:=hx;simp only[AV.frz];exact⟨c,h1,f8 h b a⟩
 all_goals
  simp only[B7]at hx;exact A55 (bO h b hx).1
end
theorem f9 (hs:CG w0 K O0 nt ds σ ρ a w) (n:Nat) (G:¬HL n=true) {Q:Obj} (hn:lk n σ.objs=some Q) {xs:List e.den}
  (M:sZ (vw w O0 σ ρ) (vw w O0 ⟨DY n e xs σ.env,BB n e xs (del n σ.objs)⟩ ρ) n->P1 (vw w O0 σ ρ) (vw w O0 ⟨DY n e xs σ.env,BB n e xs (del n σ.objs)⟩ ρ) n e xs) :
  CG w0 K O0 nt ds ⟨DY n e xs σ.env,BB n e xs (del n σ.objs)⟩ ρ a w:=by
 have A:∀m x,lk m (BB n e xs (del n σ.objs))=some x->m≠n/\∃y,lk m σ.objs=some y/\x=y.frz n e xs:=by
  intro m x hm;rw[Cd,Rn]at hm;split at hm
  .simp at hm
  rename_i r;simp only[OS]at hm;grind
 have d:∀m,HK ⟨DY n e xs σ.env,BB n e xs (del n σ.objs)⟩ m↔(HK σ m/\m≠n):=by
  intro m;constructor
  .rintro⟨x,hx⟩;obtain⟨h1,y,c,_⟩:=A m x hx;exact⟨⟨y,c⟩,h1⟩
  rintro⟨⟨x,hx⟩,r⟩;exact⟨x.frz n e xs,by simp[Cd,Rn,r,hx]⟩
 have hF:sZ (vw w O0 σ ρ) (vw w O0 ⟨DY n e xs σ.env,BB n e xs (del n σ.objs)⟩ ρ) n:=by
  refine⟨rfl,rfl,λm h1 c=>(d m).2 ⟨h1,c⟩,λb hb q=>?_,λb hb q=>?_⟩
  .rcases q with h0|⟨m,hl,hm⟩
   .exact hb (.inl h0)
   exact hb (.inr ⟨m,((d m).1 hl).1,hm⟩)
  have hb:bk (ρ n) b:=hb;rcases q with h0|⟨m,hl,hm⟩
  .exact(hs.free n b ⟨_,hn⟩ hb).2 h0
  exact((d m).1 hl).2 (hs.dist m n b ((d m).1 hl).1 ⟨_,hn⟩ hm hb)
 have i:=M hF;have J:∀p∈ds.pin,HK ⟨DY n e xs σ.env,BB n e xs (del n σ.objs)⟩ p.1/\ρ p.1=p.2/\(A7x p.2=true\/HL p.1=true):=by
  intro p I;obtain⟨h1,c,h⟩:=hs.pin p I;refine⟨(d p.1).2 ⟨h1,λg=>?_⟩,c,h⟩;have h:A7x p.2=true:=h.resolve_right (by rw[g];exact G);have t:seat (ρ n):=i.seat;rw[<-g,c]at t;rcases t with ⟨_,_,_,u⟩|⟨_,u⟩<;>rw[u]at h<;>cases h
 refine⟨hs.frm,hs.nt,hs.defers,J,?_,?_,?_,?_⟩
 .intro m x hm;obtain⟨r,y,hy,rfl⟩:=A m x hm;have f:=hs.objs m y hy;cases y with
  | arr j g E=>exact A6.keeps (V:=(vw w O0 σ ρ).but n) hF.keeps (λ_ _=>rfl) f
  | box j st fs =>
   obtain⟨h0,b,cs,hl,hh,F⟩:=f;exact⟨λN=>by rw[Te];exact h0 N,b,cs,hl,hh,P2 hF i F⟩
  | nest j O P g E hl=>exact A6.keeps (V:=(vw w O0 σ ρ).but n) (o:=.nest j O P g E hl) hF.keeps (λ_ _=>rfl) (NF (V:=vw w O0 σ ρ) (V':=(vw w O0 σ ρ).but n) rfl rfl f)
  | mapo k v l=>exact A6.keeps (V:=(vw w O0 σ ρ).but n) hF.keeps (λ_ _=>rfl) f
  | frame X fs =>
   obtain⟨h0,h1⟩:=f;refine⟨h0,λs z C=>?_⟩;simp only[NI,OS]at C;obtain⟨y,hy,rfl⟩:=C;exact s6 hF i (h1 s y hy)
  | loop L=>exact A6.keeps (V:=(vw w O0 σ ρ).but n) hF.keeps (λ_ _=>rfl) f
  | itr S W T U R=>exact A6.keeps (V:=(vw w O0 σ ρ).but n) hF.keeps (λ_ _=>rfl) f
  | dfr=>exact A6.keeps (V:=(vw w O0 σ ρ).but n) hF.keeps (λ_ _=>rfl) f
 .intro m b hl hb;exact hs.free m b ((d m).1 hl).1 hb
 .intro m D b hl H h1 c;exact hs.dist m D b ((d m).1 hl).1 ((d D).1 H).1 h1 c
 intro s v B;simp only[NI,OS]at B;obtain⟨y,hy,rfl⟩:=B;exact s6 hF i (hs.env s y hy)
theorem s7 (hs:CG w0 K O0 nt ds σ ρ a w) (n:Nat):CG w0 K O0 nt ds (frz n σ) ρ a w:=by
 unfold frz;split
 .exact hs
 rename_i b;cases hn:lk n σ.objs with
 | none=>exact hs
 | some c =>
 cases c with
 | box et st fs=>exact hs
 | mapo k v l=>exact hs
 | frame p fs=>exact hs
 | loop L=>exact hs
 | itr g o j m d=>exact hs
 | dfr=>exact hs
 | arr et e xs=>exact f9 hs n b hn λh=>h.arr (hs.objs n _ hn)
 | nest et f k e xs hl =>
  cases hl with
  | some i=>exact hs
  | none=>exact f9 hs n b hn λh=>h.nest (hs.objs n _ hn)
theorem Kl:∀ {l:List Nat} {σ:St},CG w0 K O0 nt ds σ ρ a w->CG w0 K O0 nt ds (DB l σ) ρ a w
 | [],_,h=>h
 | n :: r,σ,h=>Kl (l:=r) (σ:=frz n σ) (s7 h n)
end
end
section
open Go Go.RowKit
section
variable {P:Program} {tb:Tb} {w0:World} {K O0:Nat->Prop} {nt:Nat} {ds:Fp} {σ σ':St} {ρ:Nat->Value} {a:Act} {w:World} {vc:Prop}
theorem A5d (hs:CG w0 K O0 nt ds σ ρ a w) (br:∀b,K b->b<w0.heap.size) (bs:∀b,O0 b->b<w0.heap.size) (hT:DC P tb) {d:Nat} (hd:d<nt) {ty:TypeId} {x:Operand} {n i len:Nat} {v:AV}
  (hx:Aq σ x=some (.nin n e i len)) (hy:Aq σ y=some v) {et:TypeId} {xs:List (k.den×List e.den)} (hn:lk n σ.objs=some (.nest et M k e xs none)) (bx:HL n=false)
  (hu:P.underlying t=some (.slice M)) {te:TI} (am:lk M tb.ty=some te) (an:te.ty=e) (h:OC σ d n et M k e xs i te.bytes (Rf σ e v)=some (vc,σ')) (Z:vc) :
  ∃z w' ρ',(Builtin.append_ #[t,t] ty #[a.eval x,a.eval y]).run P w=.ok z w'/\CG w0 K O0 nt ds σ' ρ' (a.put (some d) z) w':=by
 have au:Hl (vw w O0 σ ρ) σ a.eval:=GA hs.env;cases ao:Rf σ e v with
 | none=>rw[ao]at h;simp[OC]at h
 | some ys =>
  rw[ao]at h;simp only[OC]at h;split at h
  .rename_i av;have ak:lk d σ.objs=none:=by simpa using av.1
   cases h;obtain⟨co,R⟩:=Uq hs.objs ao (au y _ hy);obtain⟨cs,cp,ad,c,Q,H,C,ca,cy⟩:=au x _ hx;have H:ρ n=.tuple cp:=H;have bd:=hs.objs n _ hn;have aw:=bD (z:=(k.dflt,[])) bd H C;obtain⟨o,ins,cells,ci,A⟩:=bd;obtain rfl:=ci.tup H;have C:ins[i]?=some Q:=by simpa using C
   obtain⟨c1,cz,bv,ch,p⟩:=A.row i _ _ aw C;rcases p with ⟨p,_⟩|⟨_,cu,hm,bf,L,bw⟩
   .cases p
   generalize cx:xs.getD i (k.dflt,[])=row at *;obtain⟨z,w',el,B,s,al,be⟩:∃z w',(Builtin.append_ #[t,t] ty #[a.eval x,a.eval y]).run P w=.ok z w'/\w'.ownsRow 0 M e.size z (row.2.length+ys.length) (bf++co)/\w.grownBy w' (blk Q)/\row.2.length+ys.length<=AQ/\(blk z=blk Q\/∀b,blk z=some b->w.heap.size<=b):=by
    rcases ca with E|⟨E,ap,cj⟩
    .rw[E];obtain⟨z,w',el,B,s,al⟩:=Gm (ty:=ty) hT hu am an L R Z (OF _);have be:=Hm (ty:=ty) hT hu am an L R Z el;rw[Us L]at s;exact⟨z,w',el,B,s,al,be⟩
    subst E;have bb:=Ki L;have cg:row.2=[]:=RW bb.symm;have bz:bf=[]:=RW (by rw[L.1,<-bb,ACU]);subst bz;have ck:0<ys.length:=by
     cases ys with
     | nil=>simp at av
     | cons _ _=>simp
    rw[cj];rw[cg]at Z ⊢;obtain⟨z,w',el,B,s⟩:=TW (ty:=ty) hT hu am an (xs:=([]:List e.den)) (a:=ap) (Up w (own O0 σ ρ) e ap 0) R ck Z;refine⟨z,w',el,⟨B.1,B.2.imp (λh=>h) λ⟨g,cap,af,e,_,r⟩=>⟨g,cap,af,e,OF _,r⟩⟩,s,by simpa using R.max,.inr λb hb=>?_⟩;rcases B.2 with ⟨h1,_⟩|⟨g,cap,af,h1,l,_⟩
    .rw[h1]at hb;simp[blk]at hb
    rw[h1]at hb;simp[blk]at hb;omega
   have W:∀b,bk (ρ n) b↔blk o=some b\/∃(j:Nat) (u:Value),ins[j]?=some u/\blk u=some b:=λb=>by rw[H];exact A8
   have cv:i<ins.length:=(RL.1 C).1;have bc:n≠d:=λf=>by rw[f,ak]at hn;cases hn
   generalize ay:(Value.tuple (o :: ins.set i (.slice none 0 0)).toArray)=loc;have ab:FA (FA ρ n loc) d z n=loc:=by simp[FA,bc]
   have aa:FA (FA ρ n loc) d z d=z:=Bp _ _ _;have ae:∀m,m≠n->m≠d->FA (FA ρ n loc) d z m=ρ m:=λm h1 l=>by simp[FA,h1,l]
   generalize FA (FA ρ n loc) d z=ρ' at ab aa ae;have Y:∀(j:Nat) (u:Value),(ins.set i (.slice none 0 0))[j]?=some u->(j=i/\u=.slice none 0 0)\/(j≠i/\ins[j]?=some u):=by grind
   have ar:∀b,bk loc b->blk o=some b\/∃(j:Nat) (u:Value),j≠i/\ins[j]?=some u/\blk u=some b:=by grind [A8,blk]
   have bu:∀b,bk loc b->bk (ρ n) b:=λb hb=>(W b).2 ((ar b hb).imp id λ⟨j,u,_,h1,l⟩=>⟨j,u,h1,l⟩);have X:∀b,blk Q=some b->bk (ρ n) b:=λb hb=>(W b).2 (.inr ⟨i,_,C,hb⟩);have ct:∀b,bk z b->blk z=some b:=λb hb=>by
    rcases B.2 with ⟨E,_⟩|⟨g,cap,af,E,_⟩<;>rw[E]at hb ⊢<;>exact L2.1 hb
   have cn:∀b,bk z b->blk Q=some b\/w.heap.size<=b:=λb hb=>by grind
   have az:∀b,bk (ρ n) b->b<w.heap.size:=λb hb=>(hs.objs n _ hn).block_lt hb;have cw:∀b,bk loc b->blk Q≠some b:=by
    intro b hb E;rcases ar b hb with h1|⟨j,u,h1,l,p⟩
    .exact A.out i b _ C E h1
    exact h1 (A.dist j i b u _ l C p E)
   have ax:(row.2++ys).length=row.2.length+ys.length:=by simp
   let S:St:=⟨(d,.sr d e 0 (row.2.length+ys.length)) :: Eh n [] σ.env,(d,.arr M e (row.2++ys)) :: (n,.nest et M k e xs (some i)) :: C1 n [] σ.objs⟩
   have aq:∀m F,lk m S.objs=some F->(m=d/\F=.arr M e (row.2++ys))\/(m=n/\m≠d/\F=.nest et M k e xs (some i))\/(m≠d/\m≠n/\∃q,lk m σ.objs=some q/\F=q.trn n []):=by
    intro m F hm;simp only[S,lk]at hm;split at hm
    .rename_i f;cases hm;exact .inl ⟨f,rfl⟩
    rename_i f;split at hm
    .rename_i ag;cases hm;exact .inr (.inl ⟨ag,f,rfl⟩)
    rename_i ag;rw[DN]at hm;split at hm
    .cases hm
    simp only[OS]at hm;obtain⟨q,h1,rfl⟩:=hm;exact .inr (.inr ⟨f,ag,q,h1,rfl⟩)
   have bt:∀m,m≠d->m≠n->∀q,lk m σ.objs=some q->lk m S.objs=some (q.trn n []):=by grind [lk,DN,Ad]
   have ce:∀b,b<w.heap.size->¬own O0 σ ρ b->¬own O0 S ρ' b:=by
    intro b hb G cm;rcases cm with h0|⟨m,⟨F,cd⟩,I⟩
    .exact G (.inl h0)
    rcases aq m F cd with ⟨rfl,_⟩|⟨rfl,_,_⟩|⟨h1,l,q,p,_⟩
    .rw[aa]at I;rcases cn b I with D|D
     .exact G (.inr ⟨n,⟨_,hn⟩,X b D⟩)
     omega
    .rw[ab]at I;exact G (.inr ⟨_,⟨_,hn⟩,bu b I⟩)
    rw[ae m l h1]at I;exact G (.inr ⟨m,⟨q,p⟩,I⟩)
   have cf:plc loc=o:=by rw[<-ay];rfl
   have U:Rq (vw w O0 σ ρ) (vw w' O0 S ρ') n []:=by
    refine⟨ce,λm hm _=>?_,λm hm _ cc=>?_,⟨_,H⟩,?_,λb hb G=>s.block b hb λf=>G (.inr ⟨n,⟨_,hn⟩,X b f.symm⟩)⟩
    .obtain⟨q,h1⟩:=hm;by_cases ba:m=n
     .subst ba;exact⟨.nest et M k e xs (some i),by simp[S,lk,bc]⟩
     have cb:m≠d:=λf=>by rw[f,ak]at h1;cases h1
     exact⟨_,bt m cb ba q h1⟩
    .obtain⟨q,h1⟩:=hm;exact ae m cc (λf=>by rw[f,ak]at h1;cases h1)
    show plc (ρ' n)=plc (ρ n);rw[ab,cf,H];rfl
   have J:Cu ⟨w,own O0 σ ρ,λ_=>False,ρ⟩ (vw w' O0 S ρ'):=⟨U.O,λ_ h=>h.elim,λ_ h=>h.elim,U.heap⟩;refine⟨z,w',ρ',el,hs.swap br bs (T:=λm=>m=n) (λm hm=>by obtain rfl:m=n:=hm;exact⟨bx,_,hn,by rw[H];exact .inr ⟨_,rfl⟩⟩) (new:=[(d,.arr M e (row.2++ys)),(n,.nest et M k e xs (some i))]) s.os s.tape s.output s.size ?_ ?_ ?_ ?_ ?_ ?_ ?_ ?_⟩
   .exact λb hb G=>s.block b hb λf=>G n rfl (X b f.symm)
   .grind [lk]
   .grind [lk]
   .grind [lk]
   .grind [lk]
   .grind [bk,lk]
   .intro m F hm;rcases aq m F hm with ⟨rfl,rfl⟩|⟨rfl,_,rfl⟩|⟨h1,l,q,p,rfl⟩
    .rw[aa];refine⟨by rw[ax];exact al,_,by rw[ax];exact B,?_⟩;exact Dh.keeps J (Kk bw R.elems L.1)
    .rw[ab];refine⟨o,ins.set i (.slice none 0 0),cells,.inl ay.symm,A.max,by rw[TA];exact A.len,JT (λb hb=>s.block b (az b ((W b).2 (.inl hb))) λf=>A.out i b _ C f.symm hb) A.own,λj cq u h1 l=>?_,?_,?_⟩
     .rcases Y j u l with ⟨rfl,rfl⟩|⟨p,D⟩
      .rw[aw]at h1;cases h1;exact⟨c1,_,bv,B1.mono J.O J.heap ch,.inl ⟨by simp,rfl⟩⟩
      obtain⟨c2,bl,bm,bn,ai⟩:=A.row j cq u h1 D;rcases ai with ⟨ai,_⟩|⟨_,bo,bp⟩
      .cases ai
      refine⟨c2,bl,bm,B1.mono J.O J.heap bn,.inr ⟨AAW.2 (λf=>p (by injection f with f;exact f.symm)),bo,?_⟩⟩;exact Rm.keeps (V:=⟨w,own O0 σ ρ,λ_=>False,ρ⟩) J (λb hb=>s.block b (az b ((W b).2 (.inr ⟨j,u,D,hb⟩))) λf=>p (A.dist j i b u _ D C hb f.symm)) bp
     .intro bg bh b bi bj h1 l p D;rcases Y bg bi h1 with ⟨_,rfl⟩|⟨_,aj⟩
      .simp[blk]at p
      rcases Y bh bj l with ⟨_,rfl⟩|⟨_,bq⟩
      .simp[blk]at D
      exact A.dist bg bh b bi bj aj bq p D
     intro j b u h1 l;rcases Y j u h1 with ⟨_,rfl⟩|⟨_,aj⟩
     .simp[blk]at l
     exact A.out j b u aj l
    rw[ae m l h1];refine sW U (λb hb=>s.block b ((hs.objs m q p).block_lt hb) λf=>l (hs.dist m n b ⟨_,p⟩ ⟨_,hn⟩ hb (X b f.symm))) (hs.objs m q p)
   intro s2 bl N;rw[NE a d z s2 (by rw[hs.nt];exact hd)];simp only[S,lk]at N;split at N
   .rename_i ah;cases N;rw[BY ah];refine⟨⟨.arr M e (row.2++ys),by simp[S,lk]⟩,?_⟩;show DM (plc (ρ' d)) e.size 0 _ z;rw[aa,Hk B];exact Gl B
   rename_i ah;rw[At ah];rw[Fi]at N;simp only[OS]at N;obtain⟨cr,cl,rfl⟩:=N;exact bN U (hs.env s2 cr cl)
  cases h
end
end
section
open Go Go.RowKit
theorem bP {et:TypeId} {sz len g m c:Nat} {cells:List Value} (h:w.ownsRow 0 et sz (.slice (some ⟨g,0,none⟩) m c) len cells) {p:Nat} (C:p<len*sz) (v:Value) :
  ∃a:List Value,w.heap[g]?=some (.cells a.toArray et (0,0))/\p+1<=a.length/\(w.setRow g (A1 a p [v]).toArray).ownsRow 0 et sz (.slice (some ⟨g,0,none⟩) m c) len (cells.set p v):=by
 obtain⟨t,l⟩:=h;rcases l with ⟨d,_⟩|⟨y,cap,a,d,z,i,e,o,f,u⟩
 .cases d
 injection d with b q r
 injection b with b
 injection b with b
 subst b;have A:len*sz<=cap*sz:=Rc _ e;have B:a.toList.length=cap*sz:=by rw[<-f];simp
 have n:p + [v].length<=a.toList.length:=by simp only[GO];omega
 have s:w.heap[g]?=some (.cells a.toList.toArray et (0,0)):=by simpa using i
 have k:A1 a.toList p [v]=a.toList.set p v:=by
  apply ABL;intro j;simp only[A1,RI,AAE,On,TD,AAd,GO,oN];have x:min p a.toList.length=p:=by omega
  simp only[x];by_cases c1:j<p
  .grind
  grind
 refine⟨a.toList,s,by simpa using n,?_,.inr ⟨g,cap,_,by rw[q,r],OF _,setRow_heap w g _ _ et _ i,e,o,?_,?_⟩⟩
 .rw[TA];exact t
 .rw[k];simp[f]
 rw[k,<-u];simp[List.take_set]
section
variable {P:Program} {tb:Tb} {w0:World} {K O0:Nat->Prop} {nt:Nat} {ds:Fp} {σ σ':St} {ρ:Nat->Value} {a:Act} {w:World} {vc:Prop}
theorem A0U (hs:CG w0 K O0 nt ds σ ρ a w) (bi:∀b,K b->b<w0.heap.size) (bj:∀b,O0 b->b<w0.heap.size) (hT:DC P tb) (ht:lk t tb.ty=some Z) {x:Operand} {n m i hi:Nat} {k e:Ty} (hty:Z.ty=.slice e) {cl:List Nat}
  (hx:Aq σ x=some (.ep n (.agg (.prod k (.slice e))) i cl k.size)) (hy:Aq σ y=some (.sr m e 0 hi)) {et:TypeId} {xs:List (k.den×List e.den)} {ys:List e.den} (hn:lk n σ.objs=some (.nest et A k e xs (some i))) (hm:lk m σ.objs=some (.arr A e ys))
  (br:HL n=false) (cs:HL m=false) (cw:hi=ys.length) :
  ∃w' ρ',(Instr.storeAt t (a.eval x) (a.eval y)).run P w=.ok () w'/\CG w0 K O0 nt ds ⟨Eh n [m] σ.env,(n,.nest et A k e (xs.set i ((xs.getD i (k.dflt,[])).1,ys)) none) :: C1 n [m] σ.objs⟩ ρ' a w':=by
 have ao:Hl (vw w O0 σ ρ) σ a.eval:=GA hs.env;have bz:m≠n:=λd=>by rw[d,hn]at hm;cases hm
 obtain⟨cq,g,bb,c,ai,bv,cf⟩:=ao x _ hx;obtain⟨cr,be,ck,bf,L,_,cu,cn,co,cx,_,h0,_⟩:=ao y _ hy;obtain⟨o,ins,cells,ax,s⟩:=hs.objs n _ hn;have al:Rm (vw w O0 σ ρ) A e ys (ρ m):=hs.objs m _ hm;have ar:=hs.objs m _ hm;have L:plc (ρ m)=.slice be ck bf:=L;rw[Uo ar]at L;have cj:a.eval y=ρ m:=by
  obtain⟨rfl,rfl⟩:=h0 rfl;obtain⟨_,cy,cv,_⟩:=al;grind [Ki]
 have ai:plc (ρ n)=.slice (some ⟨g,0,none⟩) bb c:=ai;have ca:o=.slice (some ⟨g,0,none⟩) bb c:=by rw[<-ax.plc];exact ai
 subst ca;have bx:=Ki s.own;subst bx;have J:i<xs.length:=bv;have ag:i<ins.length:=by rw[s.len];exact J
 have X:ρ n=.tuple ((.slice (some ⟨g,0,none⟩) xs.length c) :: ins).toArray:=ax.resolve_right λh=>by rw[h.2.2]at ag;simp at ag
 have au:i*(k.size+1)+k.size<xs.length*(k.size+1):=by
  have:(i+1)*(k.size+1)<=xs.length*(k.size+1):=Rc _ J;rw[AB3]at this;omega
 obtain⟨M,bs,bo,U⟩:=bP s.own au (ρ m);have cc:(ρ m).oneCell'=true:=by rw[L];rfl
 have R:(a.eval y).cells=#[ρ m]:=by rw[cj,L];rfl
 have aw:=L7 (P:=P) (xv:=a.eval y) (hT _ _ ht) bs (off:=i*(k.size+1)+k.size) (by rw[R,hty];rfl) (by rw[R];simpa using bo) (by rw[R];intro u hu;simp at hu;subst hu;exact cc);rw[R]at aw;refine⟨_,FA ρ n (.tuple ((.slice (some ⟨g,0,none⟩) xs.length c) :: ins.set i (ρ m)).toArray),by rw[cf];exact aw,?_⟩;have D:=GB w g (A1 M (i*(k.size+1)+k.size) [ρ m]).toArray;change CG w0 K O0 nt ds _ _ a (w.setRow g (A1 M (i*(k.size+1)+k.size) [ρ m]).toArray);have U:(w.setRow g (A1 M (i*(k.size+1)+k.size) [ρ m]).toArray).ownsRow 0 et (k.size+1) (.slice (some ⟨g,0,none⟩) xs.length c) xs.length (cells.set (i*(k.size+1)+k.size) (ρ m)):=U;generalize w.setRow g (A1 M (i*(k.size+1)+k.size) [ρ m]).toArray=w' at D U;generalize aq:(Value.tuple ((.slice (some ⟨g,0,none⟩) xs.length c) :: ins.set i (ρ m)).toArray)=loc;have Y:FA ρ n loc n=loc:=Bp _ _ _;have id:∀j,j≠n->FA ρ n loc j=ρ j:=λj h1=>by simp[FA,h1]
 generalize FA ρ n loc=ρ' at Y id;have an:∀b,bk (ρ n) b↔blk (.slice (some ⟨g,0,none⟩) xs.length c)=some b\/∃(j:Nat) (u:Value),ins[j]?=some u/\blk u=some b:=λb=>by rw[X];exact A8
 have W:∀(j:Nat) (u:Value),(ins.set i (ρ m))[j]?=some u->(j=i/\u=ρ m)\/(j≠i/\ins[j]?=some u):=by grind
 have ad:∀b,blk (ρ m)=some b->bk (ρ m) b:=λb hb=>.inl hb;have bm:∀b,bk loc b->bk (ρ n) b\/blk (ρ m)=some b:=by grind [A8]
 have bp:∀b,bk (ρ n) b->blk (ρ m)=some b->False:=λb h1 r=>bz (hs.dist m n b ⟨_,hm⟩ ⟨_,hn⟩ (ad b r) h1);have ae:bk (ρ n) g:=(an g).2 (.inl rfl);have bu:∀b,bk (ρ n) b->b<w.heap.size:=λb hb=>(hs.objs n _ hn).block_lt hb;have bw:∀b,blk (ρ m)=some b->b<w.heap.size:=λb hb=>ar.block_lt (ad b hb)
 let S:St:=⟨Eh n [m] σ.env,(n,.nest et A k e (xs.set i ((xs.getD i (k.dflt,[])).1,ys)) none) :: C1 n [m] σ.objs⟩
 have am:∀j B,lk j S.objs=some B->(j=n/\B=.nest et A k e (xs.set i ((xs.getD i (k.dflt,[])).1,ys)) none)\/(j≠n/\j≠m/\∃p,lk j σ.objs=some p/\B=p.trn n [m]):=by
  intro j B l;simp only[S,lk]at l;split at l
  .grind
  rename_i d;rw[DN]at l;split at l
  .cases l
  rename_i cp;simp only[OS]at l;grind [Ad]
 have bl:∀j,j≠n->j≠m->∀p,lk j σ.objs=some p->lk j S.objs=some (p.trn n [m]):=by grind [lk,DN,Ad]
 have cd:∀b,b<w.heap.size->¬own O0 σ ρ b->¬own O0 S ρ' b:=by
  intro b hb F ci;rcases ci with h0|⟨j,⟨B,cb⟩,Q⟩
  .exact F (.inl h0)
  rcases am j B cb with ⟨rfl,_⟩|⟨h1,r,p,f,_⟩
  .rw[Y]at Q;rcases bm b Q with ti|ti
   .exact F (.inr ⟨_,⟨_,hn⟩,ti⟩)
   exact F (.inr ⟨m,⟨_,hm⟩,ad b ti⟩)
  rw[id j h1]at Q;exact F (.inr ⟨j,⟨p,f⟩,Q⟩)
 have N:Rq (vw w O0 σ ρ) (vw w' O0 S ρ') n [m]:=by
  refine⟨cd,λj l bt=>?_,λj _ _ ah=>id j ah,⟨_,X⟩,?_,λb hb F=>D.block b hb λd=>?_⟩
  .obtain⟨p,h1⟩:=l;by_cases ap:j=n
   .exact⟨.nest et A k e (xs.set i ((xs.getD i (k.dflt,[])).1,ys)) none,by simp[S,lk,ap]⟩
   exact⟨_,bl j ap (λd=>by simp[Ad,d]at bt) p h1⟩
  .show plc (ρ' n)=plc (ρ n);rw[Y,<-aq,X];rfl
  injection d with d
  subst d;exact F (.inr ⟨n,⟨_,hn⟩,ae⟩)
 have E:Cu ⟨w,own O0 σ ρ,λ_=>False,ρ⟩ (vw w' O0 S ρ'):=⟨N.O,λ_ h=>h.elim,λ_ h=>h.elim,N.heap⟩;have af:∀b,b<w.heap.size->b≠g->w'.heap[b]?=w.heap[b]?:=λb h1 r=>D.block b h1 λd=>r (by injection d);refine hs.swap bi bj (T:=λj=>j=n\/j=m) (dst:=none) (u:=undef) (λj l=>?_) (new:=[(n,.nest et A k e (xs.set i ((xs.getD i (k.dflt,[])).1,ys)) none)]) D.os D.tape D.output D.size ?_ ?_ ?_ ?_ ?_ ?_ ?_ ?_
 .rcases l with rfl|rfl
  .exact⟨br,_,hn,by rw[X];exact .inr ⟨_,rfl⟩⟩
  grind [f7]
 .grind
 .grind [lk]
 .grind [lk]
 .grind [lk]
 .grind [lk]
 .grind [lk]
 .intro j B l;rcases am j B l with ⟨rfl,rfl⟩|⟨h1,r,p,f,rfl⟩
  .rw[Y];have bn:cells.length=xs.length*(k.size+1):=s.own.1;refine⟨_,ins.set i (ρ m),cells.set (i*(k.size+1)+k.size) (ρ m),.inl aq.symm,by rw[TA];exact s.max,by rw[TA,TA];exact s.len,by rw[TA];exact U,λj ak u h1 r=>?_,?_,?_⟩
   .have bq:∀(c2:List Value) (C:Value),j≠i->c2.length=k.size->(∀(q:Nat) (z:Value),(c2++[C])[q]?=some z->cells[j*(k.size+1)+q]?=some z)->∀(q:Nat) (z:Value),(c2++[C])[q]?=some z->(cells.set (i*(k.size+1)+k.size) (ρ m))[j*(k.size+1)+q]?=some z:=by
     intro c2 C ct hl G q z v;have aj:=(RL.1 v).1;simp only[By,GO,hl]at aj;have ah:i*(k.size+1)+k.size≠j*(k.size+1)+q:=by
      intro d;rcases Nat.lt_or_ge i j with f|f
      .have:(i+1)*(k.size+1)<=j*(k.size+1):=Rc _ f;rw[AB3]at this;omega
      have:(j+1)*(k.size+1)<=i*(k.size+1):=Rc _ O1;rw[AB3]at this;omega
     rw[oN,At ah];exact G q z v
    rcases W j u r with ⟨rfl,rfl⟩|⟨f,ti⟩
    .have cg:xs[j]?=some (xs.getD j (k.dflt,[])):=by
      rw[AT J,AS,AT J];rfl
     obtain⟨c2,C,G,H,_⟩:=s.row j _ ins[j] cg (AT ag);have ce:ak=((xs.getD j (k.dflt,[])).1,ys):=by
      rw[List.getElem?_set_self J]at h1;exact(ACq h1).symm
     subst ce;have hl:c2.length=k.size:=H.length;refine⟨c2,ρ m,λq z v=>?_,B1.mono E.O E.heap H,.inr ⟨rfl,.inl rfl,?_⟩⟩
     .have aj:=(RL.1 v).1;simp only[By,GO,hl]at aj;rw[oN];by_cases av:q=k.size
      .rw[av,BY rfl,BY (by rw[bn];exact au)];rw[av,<-hl,RS (IN _),AAD]at v;exact v
      rw[At O1];refine G q z ?_;rw[RU O1]at v ⊢;exact v
     exact Rm.keeps (V:=⟨w,own O0 σ ρ,λ_=>False,ρ⟩) E (λb hb=>af b (bw b hb) λd=>bp b (by rw[d];exact ae) hb) al
    have h1:xs[j]?=some ak:=by
     rw[oN,At (λd=>f d.symm)]at h1;exact h1
    obtain⟨c2,C,G,H,aa⟩:=s.row j ak u h1 ti;rcases aa with ⟨aa,_⟩|⟨_,bg,bh⟩
    .exact absurd (by simpa using aa) (λd:i=j=>f d.symm)
    refine⟨c2,C,bq c2 C f H.length G,B1.mono E.O E.heap H,.inr ⟨rfl,bg,?_⟩⟩;exact Rm.keeps (V:=⟨w,own O0 σ ρ,λ_=>False,ρ⟩) E (λb hb=>af b (bu b ((an b).2 (.inr ⟨j,u,ti,hb⟩))) λd=>s.out j b u ti hb (by rw[d];rfl)) bh
   .intro az ba b bc bd h1 r f ti;rcases W az bc h1 with ⟨I,rfl⟩|⟨_,I⟩<;>rcases W ba bd r with ⟨ab,rfl⟩|⟨_,ab⟩
    .rw[I,ab]
    .grind
    .grind
    exact s.dist az ba b bc bd I ab f ti
   intro j b u h1 r f;rcases W j u h1 with ⟨_,rfl⟩|⟨_,I⟩
   .grind
   exact s.out j b u I r f
  rw[id j h1];refine sW N (λb hb=>af b ((hs.objs j p f).block_lt hb) λd=>h1 (hs.dist j n b ⟨_,f⟩ ⟨_,hn⟩ hb (by rw[d];exact ae))) (hs.objs j p f)
 intro s2 C ay;simp only[Fi,OS]at ay;obtain⟨cm,ch,rfl⟩:=ay;exact bN N (hs.env s2 cm ch)
end
end
section
open Go Go.RowKit
section
variable {P:Program} {tb:Tb} {w0:World} {K O0:Nat->Prop} {nt:Nat} {ds:Fp} {σ σ':St} {ρ:Nat->Value} {a:Act} {w:World} {vc:Prop}
theorem CG.swap1 (h:CG w0 K O0 nt ds σ ρ a w) (G:∀b,K b->b<w0.heap.size) (H:∀b,O0 b->b<w0.heap.size) {tl:List Nat} (hT:∀n,n∈tl->HL n=false/\∃o,lk n σ.objs=some o/\seat (ρ n))
  {e:Nat} (Z:e∈tl\/lk e σ.objs=none) {i:Obj} {loc:Value} {w':World}
  (Q:w'.os=w.os) (V:w'.tape=w.tape) (R:w'.output=w.output) (U:w.heap.size<=w'.heap.size)
  (A:∀b,b<w.heap.size->(∀n,n∈tl->¬bk (ρ n) b)->w'.heap[b]?=w.heap[b]?)
  (N:∀b,bk loc b->(∃m,m∈tl/\bk (ρ m) b)\/w.heap.size<=b)
  (P:∀V':Vw,V'.w=w'->Cu ⟨w,own O0 σ ρ,λ_=>False,ρ⟩ V'->A6 V' i loc)
  {d:Nat} (hd:d<nt) {v:AV} {u:Value} (J:∀V':Vw,V'.L e->V'.ρ e=loc->B7 V' v u) :
  CG w0 K O0 nt ds ⟨(d,v) :: Cc tl σ.env,(e,i) :: Az tl tl σ.objs⟩ (FA ρ e loc) (a.put (some d) u) w':=by
 let S:St:=⟨(d,v) :: Cc tl σ.env,(e,i) :: Az tl tl σ.objs⟩
 have C:∀m o,lk m S.objs=some o->(m=e/\o=i)\/(m≠e/\m∉tl/\∃c,lk m σ.objs=some c/\o=c.fgt tl):=by
  intro m o hm;simp only[S,lk]at hm;split at hm
  .grind
  rename_i X;rw[CD]at hm;split at hm
  .cases hm
  rename_i Y;simp only[OS]at hm;grind [Al]
 have I:∀m,m≠e->m∉tl->∀c,lk m σ.objs=some c->lk m S.objs=some (c.fgt tl):=by grind [lk,CD,Al]
 have E:∀m,m∉tl->(∃o,lk m σ.objs=some o)->m≠e:=by grind
 have p:FA ρ e loc e=loc:=Bp _ _ _;have q:∀m,m≠e->FA ρ e loc m=ρ m:=λm h1=>by simp[FA,h1]
 generalize FA ρ e loc=ρ' at p q;have F:∀b,b<w.heap.size->¬own O0 σ ρ b->¬own O0 S ρ' b:=by
  intro b hb k W;rcases W with h0|⟨m,⟨o,O⟩,l⟩
  .exact k (.inl h0)
  rcases C m o O with ⟨rfl,_⟩|⟨h1,g,c,f,_⟩
  .rw[p]at l;rcases N b l with ⟨t,ht,B⟩|B
   .obtain⟨_,c,j,_⟩:=hT t ht;exact k (.inr ⟨t,⟨c,j⟩,B⟩)
   omega
  rw[q m h1]at l;exact k (.inr ⟨m,⟨c,f⟩,l⟩)
 have D:∀b,b<w.heap.size->¬own O0 σ ρ b->w'.heap[b]?=w.heap[b]?:=λb hb k=>A b hb λn hn z=>by
  obtain⟨_,c,j,_⟩:=hT n hn;exact k (.inr ⟨n,⟨c,j⟩,z⟩)
 have M:Cu ⟨w,own O0 σ ρ,λ_=>False,ρ⟩ (vw w' O0 S ρ'):=⟨F,λ_ h=>h.elim,λ_ h=>h.elim,D⟩;have hk:Cu ((vw w O0 σ ρ).buts tl) (vw w' O0 S ρ'):=by
  refine⟨F,λm hm=>?_,λm hm=>?_,D⟩
  .obtain⟨⟨c,h1⟩,g⟩:=hm;have f:m∉tl:=λh=>by rw[(Al _ _).2 h]at g;cases g
   exact⟨_,I m (E m f ⟨c,h1⟩) f c h1⟩
  obtain⟨⟨c,h1⟩,g⟩:=hm;have f:m∉tl:=λh=>by rw[(Al _ _).2 h]at g;cases g
  exact q m (E m f ⟨c,h1⟩)
 refine h.swap G H (T:=λm=>m∈tl) hT (new:=[(e,i)]) Q V R U A ?_ ?_ ?_ ?_ ?_ ?_ ?_
 .grind [lk]
 .grind [lk]
 .grind [lk]
 .grind [lk]
 .grind [lk]
 .intro m o hm;rcases C m o hm with ⟨rfl,rfl⟩|⟨h1,g,c,f,rfl⟩
  .rw[p];exact P _ rfl M
  rw[q m h1];refine bL hk (λb hb=>A b ((h.objs m c f).block_lt hb) λn hn z=>?_) (h.objs m c f);obtain⟨_,aa,j,_⟩:=hT n hn;exact g ((h.dist m n b ⟨_,f⟩ ⟨_,j⟩ hb z)▸hn)
 intro s x hs;rw[NE a d u s (by rw[h.nt];exact hd)];simp only[S,lk]at hs;split at hs
 .rename_i r;cases hs;rw[BY r];exact J _ ⟨i,by simp[S,lk]⟩ p
 rename_i r;rw[At r];rw[Ez]at hs;simp only[OS]at hs;obtain⟨y,hy,rfl⟩:=hs;exact(Ur (h.env s y hy)).keeps hk
theorem aZ.move {V:Vw} {a:TypeId} {k e:Ty} {cells cells':List Value} {i i':Nat} {x:k.den×List e.den} {u:Value} (h:aZ V a k e s cells i x u)
  (c:∀(j:Nat) (z:Value),cells[i*(k.size+1)+j]?=some z->cells'[i'*(k.size+1)+j]?=some z):aZ V a k e s cells' i' x u :=
 let ⟨c1,v,h1,b⟩:=h
 ⟨c1,v,λj z d=>c j z (h1 j z d),b⟩
theorem Yw {V V':Vw} {et t:TypeId} {k e:Ty} {xs ys:List (k.den×List e.den)} {o B z:Value} {ins d cells g:List Value} (h1:LR V et t k e xs none o ins cells) (m:LR V C t k e ys none B d g)
  (p:∀b,bk (.tuple (o :: ins).toArray) b->bk (.tuple (B :: d).toArray) b->False)
  (I:V'.w.ownsRow 0 et (k.size+1) z (xs.length+ys.length) (cells++g)) (J:blk z=blk o\/∀b,blk z=some b->V.w.heap.size<=b)
  (y:∀b,b<V.w.heap.size->blk o≠some b->V'.w.heap[b]?=V.w.heap[b]?) (hk:Cu ⟨V.w,V.O,λ_=>False,V.ρ⟩ V') (G:xs.length+ys.length<=AQ) :
  LR V' et t k e (xs++ys) none z (ins++d) (cells++g):=by
 have D:cells.length=xs.length*(k.size+1):=h1.own.1;have E:∀(i b:Nat) (u:Value),ins[i]?=some u->blk u=some b->b<V.w.heap.size:=λi b u hi hb=>h1.block_lt (A8.2 (.inr ⟨i,u,hi,hb⟩));have F:∀(i b:Nat) (u:Value),d[i]?=some u->blk u=some b->b<V.w.heap.size:=λi b u hi hb=>m.block_lt (A8.2 (.inr ⟨i,u,hi,hb⟩));have A:∀(i b:Nat) (u:Value),d[i]?=some u->blk u=some b->blk o≠some b:=λi b u hi hb H=>p b (A8.2 (.inl H)) (A8.2 (.inr ⟨i,u,hi,hb⟩));have s:∀(i:Nat) (u:Value),(ins++d)[i]?=some u->(i<xs.length/\ins[i]?=some u)\/(xs.length<=i/\d[i-xs.length]?=some u):=by
  intro i u hi;rw[AAE]at hi;split at hi
  .rename_i h;rw[h1.len]at h;exact .inl ⟨h,hi⟩
  rename_i h;rw[h1.len]at h hi;exact .inr ⟨by omega,hi⟩
 have K:∀b,blk z=some b->(∃(i:Nat) (u:Value),ins[i]?=some u/\blk u=some b)\/(∃(i:Nat) (u:Value),d[i]?=some u/\blk u=some b)->False:=by
  intro b hb hi;rcases J with c|c
  .rw[c]at hb;rcases hi with ⟨i,u,a,f⟩|⟨i,u,a,f⟩
   .exact h1.out i b u a f hb
   exact A i b u a f hb
  grind
 refine⟨by rw[By];exact G,by rw[By,By,h1.len,m.len],by rw[By];exact I,λi x u hx hu=>?_,λi j b u v hi q hu n=>?_,λi b u hi hb L=>?_⟩
 .rcases s i u hu with ⟨c,a⟩|⟨c,a⟩
  .have hx:xs[i]?=some x:=by rwa [RU c]at hx
   have r:=(h1.row i x u hx a).move (cells':=cells++g) (i':=i) λj z q=>by grind
   exact aZ.keeps (V:=⟨V.w,V.O,λ_=>False,V.ρ⟩) hk (λb hb=>y b (E i b u a hb) (h1.out i b u a hb)) r
  have hx:ys[i-xs.length]?=some x:=by rwa [RS c]at hx
  have r:=(m.row _ x u hx a).move (cells':=cells++g) (i':=i) λj z q=>by
   have f:i*(k.size+1)=cells.length+(i-xs.length)*(k.size+1):=by
    rw[D,<-ACd];congr 1;omega
   grind
  exact aZ.keeps (V:=⟨V.w,V.O,λ_=>False,V.ρ⟩) hk (λb hb=>y b (F _ b u a hb) (A _ b u a hb)) r
 .rcases s i u hi with ⟨c,a⟩|⟨c,a⟩<;>rcases s j v q with ⟨f,l⟩|⟨f,l⟩
  .exact h1.dist i j b u v a l hu n
  .exact(p b (A8.2 (.inr ⟨i,u,a,hu⟩)) (A8.2 (.inr ⟨_,v,l,n⟩))).elim
  .exact(p b (A8.2 (.inr ⟨j,v,l,n⟩)) (A8.2 (.inr ⟨_,u,a,hu⟩))).elim
  have:=m.dist _ _ b u v a l hu n;omega
 grind
theorem A0V (V:Vw) (et a:TypeId) (k e:Ty):LR V et a k e [] none (.slice none 0 0) [] [] :=
 ⟨by simp[AQ],rfl,ABM V.w 0 et _,λi x u h=>by simp at h,λi j b u v h=>by simp at h,λi b u h=>by simp at h⟩
theorem L8 {w:World} {base:Nat} {et:TypeId} {sz b n:Nat} {loc v:Value} {cells:List Value} (f:w.ownsRow base et sz loc n cells) (h:DM loc b 0 n v):v=loc:=by
 obtain⟨a,m,c,rfl,_,_,d,e,rfl,_,h0,_⟩:=h;grind [Ki]
theorem A5e {w:World} {O:Nat->Prop} {et:TypeId} {xs:List e.den} {loc:Value} {cells:List Value} (hm:xs.length<=AQ) (a:w.ownsRow 0 et e.size loc xs.length cells) (c:Dh w O e cells xs):Src w O e loc xs cells:=by
 refine⟨?_,a.1,c,Yr (V:=⟨w,O,λ_=>False,λ_=>undef⟩) a c,hm⟩;rcases a.2 with ⟨b,hn⟩|⟨g,cap,d,b,_⟩
 .grind
 subst b;exact⟨some ⟨g,0,none⟩,cap,rfl,.inr ⟨_,rfl,a.cells (g:=g) rfl⟩⟩
theorem P3 {V:Vw} {et a:TypeId} {k e:Ty} {xs:List (k.den×List e.den)} {o:Value} {ins cells:List Value} (h:LR V et a k e xs none o ins cells):Src V.w (λ_=>False) (.agg (.prod k (.slice e))) o xs cells :=
 A5e (e:=.agg (.prod k (.slice e))) (xs:=xs) h.max h.own (Oo (λ_ _ h=>h) h λ_ _ _ _ _ h=>h)
theorem Rr {V:Vw} {et b:TypeId} {k e:Ty} {xs:List (k.den×List e.den)} {hl:Option Nat} {loc:Value} (a:A6 V (.nest et b k e xs hl) loc):seat loc:=by
 obtain⟨o,ins,cells,hl,_⟩:=a;exact hl.elim (λh=>.inr ⟨_,h⟩) (λh=>.inl ⟨_,_,_,h.1⟩)
theorem A0W (hs:CG w0 K O0 nt ds σ ρ a w) (O:∀b,K b->b<w0.heap.size) (R:∀b,O0 b->b<w0.heap.size) (hT:DC P tb) {d:Nat} (hd:d<nt) {ty:TypeId} {x:Operand} {n m hi v:Nat} {E r:Ty} {k e:Ty}
  (hx:Aq σ x=some (.sr n E 0 hi)) (hy:Aq σ y=some (.sr m r 0 v)) {et:TypeId} {xs ys:List (k.den×List e.den)} (hn:lk n σ.objs=some (.nest et q k e xs none)) (hm:lk m σ.objs=some (.nest M q k e ys none)) (U:n≠m)
  (ab:HL n=false) (aa:HL m=false) (hu:P.underlying t=some (.slice et)) {te:TI} (F:lk et tb.ty=some te) (G:te.ty=.agg (.prod k (.slice e))) (W:hi=xs.length) (X:v=ys.length) (H:(xs.length+ys.length)*te.bytes<=AQ) :
  ∃z w' ρ',(Builtin.append_ #[t,t] ty #[a.eval x,a.eval y]).run P w=.ok z w' /\
   CG w0 K O0 nt ds ⟨(d,.sr n (.agg (.prod k (.slice e))) 0 (xs.length+ys.length)) :: Cc [n,m] σ.env,(n,.nest et q k e (xs++ys) none) :: Az [n,m] [n,m] σ.objs⟩ ρ' (a.put (some d) z) w':=by
 subst W X;have s:Hl (vw w O0 σ ρ) σ a.eval:=GA hs.env;have A:=hs.objs n _ hn;have B:=hs.objs m _ hm;have ae:=Rr A;have af:=Rr B;obtain⟨o,ins,cells,g,f⟩:=A;obtain⟨ag,J,L,p,h⟩:=B;obtain⟨_,hx⟩:=s x _ hx;obtain⟨_,hy⟩:=s y _ hy;have hx:DM (plc (ρ n)) E.size 0 xs.length (a.eval x):=hx;have hy:DM (plc (ρ m)) r.size 0 ys.length (a.eval y):=hy;rw[g.plc]at hx;rw[p.plc]at hy;have hx:=L8 f.own hx;have hy:=L8 h.own hy;rw[hx,hy];obtain⟨z,w',D,C,c,S⟩:=Gm (ty:=ty) hT hu F G f.own (P3 h) H (OF _);have I:=Hm (ty:=ty) hT hu F G f.own (P3 h) H D;rw[Us f.own]at c;refine⟨z,w',_,D,hs.swap1 (loc:=.tuple (z :: (ins++J)).toArray) O R (tl:=[n,m]) (λj ad=>?_) (.inl sc) c.os c.tape c.output c.size ?_ ?_ ?_ hd ?_⟩
 .grind
 .exact λb hb V=>c.block b hb λl=>V n sc (g.bk.2 (A8.2 (.inl l.symm)))
 .intro b hb;rcases A8.1 hb with hb|⟨i,u,hi,hb⟩
  .rcases I with h1|h1
   .exact .inl ⟨n,by simp,g.bk.2 (A8.2 (.inl (by rw[<-h1];exact hb)))⟩
   exact .inr (h1 b hb)
  rw[AAE]at hi;split at hi
  .exact .inl ⟨n,by simp,g.bk.2 (A8.2 (.inr ⟨_,u,hi,hb⟩))⟩
  exact .inl ⟨m,by simp,p.bk.2 (A8.2 (.inr ⟨_,u,hi,hb⟩))⟩
 .intro V' Y hk;subst Y;refine⟨z,ins++J,cells++L,.inl rfl,Yw f h (λb h1 N=>?_) C I (λb hb T=>c.block b hb λl=>T l.symm) hk S⟩;exact U (hs.dist n m b ⟨_,hn⟩ ⟨_,hm⟩ (g.bk.2 h1) (p.bk.2 N))
 intro V' Q Z;refine⟨Q,?_⟩;show DM (plc (V'.ρ n)) _ 0 _ z;rw[Z];exact Gl C
theorem A5f (hs:CG w0 K O0 nt ds σ ρ a w) (I:∀b,K b->b<w0.heap.size) (L:∀b,O0 b->b<w0.heap.size) (hT:DC P tb) {d:Nat} (hd:d<nt) {ty:TypeId} {x:Operand} {m q:Nat} {n:Ty} {e:Ty}
  (hx:Aq σ x=some (.raw (.slice none 0 0))) (hy:Aq σ y=some (.sr m n 0 q)) {et l:TypeId} {ys:List (k.den×List e.den)} (hm:lk m σ.objs=some (.nest M l k e ys none)) (H:lk d σ.objs=none)
  (U:HL m=false) (hu:P.underlying t=some (.slice et)) {te:TI} (B:lk et tb.ty=some te) (C:te.ty=.agg (.prod k (.slice e))) (Q:q=ys.length) (D:ys.length*te.bytes<=AQ) :
  ∃z w' ρ',(Builtin.append_ #[t,t] ty #[a.eval x,a.eval y]).run P w=.ok z w' /\
   CG w0 K O0 nt ds ⟨(d,.sr d (.agg (.prod k (.slice e))) 0 ys.length) :: Cc [m] σ.env,(d,.nest et l k e ys none) :: Az [m] [m] σ.objs⟩ ρ' (a.put (some d) z) w':=by
 subst Q;have p:Hl (vw w O0 σ ρ) σ a.eval:=GA hs.env;have r:=hs.objs m _ hm;have X:=Rr r;obtain⟨Y,F,G,A,g⟩:=r;have hx:a.eval x=.slice none 0 0:=p x _ hx;obtain⟨_,hy⟩:=p y _ hy;have hy:DM (plc (ρ m)) n.size 0 ys.length (a.eval y):=hy;rw[A.plc]at hy;have hy:=L8 g.own hy;rw[hx,hy];have f:=A0V (vw w O0 σ ρ) et l k e;obtain⟨z,w',v,s,c,N⟩:=Gm (ty:=ty) hT hu B C f.own (P3 g) (by simpa using D) (OF _);have E:=Hm (ty:=ty) hT hu B C f.own (P3 g) (by simpa using D) v;rw[Us f.own]at c;refine⟨z,w',_,v,hs.swap1 (loc:=.tuple (z :: ([]++F)).toArray) I L (tl:=[m]) (λj V=>?_) (.inr H) c.os c.tape c.output c.size ?_ ?_ ?_ hd ?_⟩
 .grind
 .exact λb hb W=>c.block b hb λh=>by simp[blk]at h
 .intro b hb;rcases A8.1 hb with hb|⟨i,u,hi,hb⟩
  .rcases E with h1|h1
   .grind [blk]
   exact .inr (h1 b hb)
  exact .inl ⟨m,by simp,A.bk.2 (A8.2 (.inr ⟨_,u,by simpa using hi,hb⟩))⟩
 .intro V' R hk;subst R;refine⟨z,[]++F,[]++G,.inl rfl,?_⟩;have:=Yw f g (λb h1 T=>?_) s E (λb hb O=>c.block b hb λh=>O h.symm) hk N
  .simpa using this
  grind [A8,blk]
 intro V' J S;refine⟨J,?_⟩;show DM (plc (V'.ρ d)) _ 0 _ z;rw[S];have o:=Gl s;simp only[nO,AB8]at o;exact o
theorem nH (hs:CG w0 K O0 nt ds σ ρ a w) (q:∀b,K b->b<w0.heap.size) (r:∀b,O0 b->b<w0.heap.size) (hT:DC P tb) {d:Option Nat} (hd:∀k,d=some k->k<nt) {u ty:TypeId} {x:Operand}
  (h:DV tb σ d t u (Aq σ x) (Aq σ y)=some (vc,σ')) (p:vc) :
  ∃z w' ρ',(Builtin.append_ #[t,u] ty #[a.eval x,a.eval y]).run P w=.ok z w'/\CG w0 K O0 nt ds σ' ρ' (a.put d z) w':=by
 by_cases H:∃n e hi,Aq σ x=some (.sr n e 0 hi)/\C9 (lk n σ.objs)=false
 .exact nG hs q r hT hd h p H
 unfold DV at h;split at h
 .rename_i n e hi v hx hy;split at h
  .rename_i d;split at h
   .rename_i o;obtain⟨rfl,F⟩:=o;cases f:lk t tb.ty with
    | none=>rw[f]at h;simp[FH]at h
    | some ti =>
     rw[f]at h;unfold FH at h;split at h
     .rename_i L offs el b B;cases B;split at h
      .rename_i C;subst C;obtain⟨hu,I,te,g,l⟩:=CZ (hT _ _ f) hT;rw[g]at h;unfold Ct at h;split at h
       .rename_i ti et G xs h1 hn;exact absurd ⟨n,_,hi,hx,by rw[hn];rfl⟩ H
       .rename_i ti et J k G xs h1 hn;cases h1;split at h
        .rename_i c;obtain⟨rfl,rfl⟩:=c;unfold Vd at h;split at h
         .rename_i m E R;unfold Oh at h;split at h
          .rename_i N Y W M ys hm;split at h
           .rename_i c;obtain⟨rfl,S,D⟩:=c;cases A:BR (.slice (.agg (.prod k (.slice G)))) ⟨.slice (.agg (.prod W (.slice M))),ys⟩ with
            | none=>rw[A]at h;simp[Lw]at h
            | some aa =>
             obtain⟨j,O⟩:=Bk A;injection j with j
             injection j with j s
             injection s with s
             subst j s;cases O;rw[A]at h;simp only[Lw]at h;cases h;obtain⟨T,U,V⟩:=p;exact A0W hs q r hT (hd _ rfl) hx hy hn hm S F D hu g l T U V
           cases h
          cases h
         cases h
        cases h
       cases h
      cases h
     cases h
   cases h
  cases h
 .rename_i n e i len v hx hy;split at h
  .rename_i d;split at h
   .rename_i o;subst o;cases f:lk t tb.ty with
    | none=>rw[f]at h;simp[Pm]at h
    | some ti =>
     rw[f]at h;unfold Pm at h;split at h
     .rename_i L offs el b B;cases B;split at h
      .rename_i C;subst C;obtain⟨hu,I,te,g,l⟩:=CZ (hT _ _ f) hT;rw[g]at h;unfold TM at h;split at h
       .rename_i ti et J k X xs h1 hn;cases h1;split at h
        .rename_i c;obtain⟨rfl,rfl,F⟩:=c;exact A5d hs q r hT (hd _ rfl) hx hy hn F hu g l h p
        cases h
       cases h
      cases h
     cases h
   cases h
  cases h
 .rename_i v hx hy;split at h
  .rename_i d;split at h
   .rename_i o;subst o;unfold fG at h;split at h
    .rename_i m E R Z offs el b f;obtain⟨hu,I,te,g,l⟩:=CZ (hT _ _ f) hT;rw[g]at h;unfold TP at h;split at h
     .rename_i ti N J k e ys h1 hm;cases h1;split at h
      .rename_i c;subst c;unfold TN at h;split at h
       .rename_i c;obtain⟨Q,D⟩:=c;cases h;exact A5f hs q r hT (hd _ rfl) hx hy hm (by simpa using Q) D hu g l p.1 p.2
       cases h
      cases h
     cases h
    cases h
   cases h
  cases h
 cases h
theorem nI (hs:CG w0 K O0 nt ds σ ρ a w) (s:∀b,K b->b<w0.heap.size) (t:∀b,O0 b->b<w0.heap.size) (hT:DC P tb) {id:TypeId} {x:Operand} (h:JS σ (lk id tb.ty) (Aq σ x) (Aq σ y)=some (vc,σ')) (B:vc) :
  ∃w' ρ',(Instr.storeAt id (a.eval x) (a.eval y)).run P w=.ok () w'/\CG w0 K O0 nt ds σ' ρ' a w':=by
 by_cases A:∃n e i l off,Aq σ x=some (.ep n e i l off)/\C9 (lk n σ.objs)=true
 .obtain⟨n,e,i,l,off,hx,f⟩:=A;unfold JS at h;split at h
  .grind
  .rename_i ti H C i' J I v ht g hy;rw[hx]at g;cases g;unfold Dm at h;split at h
   .rename_i hn;rw[hn]at f;cases f
   .rename_i et F k D xs j hn;split at h
    .rename_i m E hi;split at h
     .rename_i c;obtain⟨rfl,rfl,r⟩:=c;subst r;unfold Oi at h;split at h
      .rename_i c;obtain⟨hty,rfl,rfl⟩:=c;unfold Og at h;split at h
       .rename_i G o ys hm;split at h
        .rename_i c;obtain⟨rfl,u,z⟩:=c;cases d:BR (.slice E) ⟨.slice o,ys⟩ with
         | none=>rw[d]at h;simp[Lv]at h
         | some L =>
          obtain⟨p,q⟩:=Bk d;subst p;cases q;rw[d]at h;simp only[Lv]at h;cases h;exact A0U hs s t hT ht hty hx hy hn hm z u B
        cases h
       cases h
      cases h
     cases h
    cases h
   cases h
  cases h
 grind [xI,C9,lk]
end
end
end Go.Proofs.YtcmadlghkcjcbaaGreat.Fw
