/- Calls by contract; stores; appends. -/
import Derived.Test.YtapkhdkbkodbjaaGreatFZC
import Derived.CallsIn
import Derived.TacticsIn
import Derived.OrdersIn
import Derived.RangeFuncCalls
set_option linter.unusedVariables false
set_option linter.unusedSimpArgs false
namespace Go.Proofs.YtapkhdkbkodbjaaGreat.Fw
section
open Go Go.RowKit
def Pc (w:World) (O:Nat->Prop):(ts:List Ty)->List Value->KI ts->Prop
 | [],a,_=>a=[]
 | t :: ts,a,ds=>∃(v:Value) (r:List Value),a=v :: r/\BV w O t v ds.1/\Pc w O ts r ds.2
def FR (r:Option Nat):Fence:={ fn:=λ_=>True,depth:=none,alive:=false,round:=r }
theorem OO {r:Option Nat} {n:Nat} {P:Program} {f:FuncId} {args:Array Value} {w:World} {R:Ending->World->Prop} (h:Calls P f args w R):CallsIn (FR r) n P f args w R:=by
 cases r with
 | none=>exact callsIn_wide.2 h
 | some l=>exact((callsIn_wide.2 h:CallsIn Fence.wide n P f args w R).inRound l:CallsIn _ n P f args w R)
theorem Gk (r:Option Nat) (ρ:Operand->Value) (o:Oper) (h:∀c,o.op≠.defer c):o.semAt r ρ=execOp ρ o:=by
 cases r with
 | none=>exact Oper.semAt_none ρ o
 | some l=>exact Oper.semAt_some l ρ o h
def A03 (w:World) (O:Nat->Prop) (outs:List RV) (u:Value) (w':World):Prop :=
 ∀nm:Nat,∃ρ',QS w O ⟨[],[]⟩ (λ_=>undef) (Hy nm outs) (DB nm outs) u ρ' w'
def A6S (P:Program) (f:FuncId) (sp:Ab):Prop :=
 ∀(w:World) (O:Nat->Prop) (a:List Value) (ds:KI sp.ins),(∀b,O b->b<w.heap.size)->Pc w O sp.ins a ds->sp.pre ds ->
  Calls P f a.toArray w λe w'=>∃u,e=.returned u/\A03 w O (sp.out ds) u w'
def Ag (P:Program) (f:FuncId) (sp:Ab):Prop :=
 (∃ fn : Func, P.funcs[f]? = some fn /\ (fn.name == "runtime.NumGoroutine") = false /\ fn.body.isNone = false) /\ A6S P f sp
def Iq (P:Program) (tb:Tb):Prop:=∀f sp,lk f tb.fns=some sp->Ag P f sp
theorem Pd {w w':World} {O O':Nat->Prop}:∀ {t:Ty} {cs:List Value} {d:t.den},t.flat=true->Bx w O t cs d->Bx w' O' t cs d
 | .int _,_,_,_,h=>h
 | .bool,_,_,_,h=>h
 | .str,_,_,_,h=>h
 | .ref _,_,_,_,h=>h
 | .slice _,_,_,hf,_=>by simp[Ty.flat]at hf
 | .prod a b,_,_,hf,h=>by
  simp only[Ty.flat,An]at hf;obtain⟨c1,c2,rfl,h1,c⟩:=h;exact⟨c1,c2,rfl,Pd hf.1 h1,Pd hf.2 c⟩
 | .agg t,cs,d,hf,h=>by
  simp only[Ty.flat]at hf;have h:Bx w O t cs d:=h;exact(Pd hf h:Bx w' O' t cs d)
theorem Yk {w w':World} {O O':Nat->Prop} {t:Ty} {v:Value} {d:t.den} (hf:t.flat=true) (h:BV w O t v d):BV w' O' t v d :=
 let ⟨cs,h1,a⟩:=h
 ⟨cs,Pd hf h1,a⟩
theorem S3:∀ {l:List RV} (nm:Nat),l.all RV.flat=true->DB nm l=[]
 | [],_,_=>rfl
 | .p t d :: l,nm,h=>by
  simp only[AAz,An]at h;simp[DB,VK,S3 (nm+10000) h.2]
 | .own _ _ _ :: l,nm,h=>by simp[RV.flat]at h
theorem A04 {r:RV} (h:r.flat=true) (nm:Nat):∃t d,lO nm r=.p t d/\t.flat=true:=by
 cases r with
 | p t d=>exact⟨t,d,rfl,h⟩
 | own _ _ _=>simp[RV.flat]at h
theorem A05 {V V':Vw}:∀ {l:List RV} {nm:Nat} {a:List Value},l.all RV.flat=true->H5 V (Im nm l) a->H5 V' (Im nm l) a
 | [],_,_,_,h=>h
 | r :: l,nm,a,hf,h=>by
  simp only[AAz,An]at hf;obtain⟨v,c,rfl,h1,b⟩:=h;obtain⟨t,d,e,ht⟩:=A04 hf.1 nm;refine⟨v,c,rfl,?_,A05 hf.2 b⟩;rw[e]at h1 ⊢;exact Yk ht h1
theorem A06 {V V':Vw} {l:List RV} {nm:Nat} {u:Value} (hf:l.all RV.flat=true) (h:B2 V (Hy nm l) u):B2 V' (Hy nm l) u:=by
 match l,hf,h with
 | [],_,h=>exact h
 | [r],hf,h =>
  simp only[AAz,List.all_nil,AC5]at hf;obtain⟨t,d,e,ht⟩:=A04 hf nm;simp only[Hy]at h ⊢;rw[e]at h ⊢;exact Yk ht h
 | b :: c :: l,hf,h =>
  obtain⟨a,rfl,h1⟩:=h;exact⟨a,rfl,A05 hf h1⟩
section
variable {P:Program} {tb:Tb} {w:World} {O0:Nat->Prop} {σ:St} {ρ:Nat->Value} {vc:Prop} {v:AV} {obs:List (Nat×Obj)}
theorem QS.call {outs:List RV} {nm:Nat} {u:Value} {ρ':Nat->Value} {w':World} (hf:Bg (DB nm outs) σ=true)
  (h:QS w (own O0 σ ρ) ⟨[],[]⟩ (λ_=>undef) (Hy nm outs) (DB nm outs) u ρ' w') :
  QS w O0 σ ρ (Hy nm outs) (DB nm outs) u (λn=>if (lk n (DB nm outs)).isSome then ρ' n else ρ n) w':=by
 have d:∀n,Gz (EJ ⟨[],[]⟩ (DB nm outs)) n↔∃o,lk n (DB nm outs)=some o:=λn=>by simp[Gz,EJ]
 have hk:Cl (vw w' (own O0 σ ρ) (EJ ⟨[],[]⟩ (DB nm outs)) ρ') (vw w' O0 (EJ σ (DB nm outs)) (λn=>if (lk n (DB nm outs)).isSome then ρ' n else ρ n)):=by
  refine⟨?_,?_,?_,λ_ _ _=>rfl⟩
  .intro b _ hb c;rcases c with h0|⟨n,hl,hn⟩
   .exact hb (.inl (.inl h0))
   rcases Li hl with ⟨o,a⟩|⟨g,f⟩
   .refine hb (.inr ⟨n,(d n).2 ⟨o,a⟩,?_⟩);simpa[a] using hn
   refine hb (.inl (.inr ⟨n,f,?_⟩));simpa[g] using hn
  .intro n hn;obtain⟨o,a⟩:=(d n).1 hn;exact⟨o,by simp[EJ,A7,a]⟩
  intro n hn;obtain⟨o,a⟩:=(d n).1 hn;simp[vw,a]
 refine⟨h.below,λn hn=>by simp[hn],h.av.keeps hk,λn o a=>?_,λn o b a hb=>?_,λn m o i b a e hb c=>?_⟩
 .simp only[a,ABM,AAd];exact(h.obj n o a).keeps hk (λ_ _=>rfl)
 .simp only[a,ABM,AAd]at hb;exact h.new n o b a hb
 simp only[a,e,ABM,AAd]at hb c;exact h.dist n m o i b a e hb c
theorem aV {V:Vw} {O':Nat->Prop} {l:Bool} (a:∀b,¬V.O b->¬O' b) (e:l=true->∀b,¬O' b) (d:∀n o,lk n σ.objs=some o->A5 V o (V.ρ n)) {ev:Operand->Value} (c:HX V σ ev) :
  ∀ {ts:List Ty} {xs:List Operand} {ds:KI ts},Gg l σ ts xs=some ds->Pc V.w O' ts (xs.map ev) ds
 | [],[],ds,h=>rfl
 | [],_ :: _,ds,h=>by simp[Gg]at h
 | _ :: _,[],ds,h=>by simp[Gg]at h
 | t :: ts,x :: xs,ds,h=>by
  simp only[Gg]at h;cases hx:Aq σ x with
  | none=>rw[hx]at h;cases h
  | some av =>
   rw[hx]at h;simp only at h;split at h
   .rename_i y ys hy f;cases h;exact⟨ev x,xs.map ev,rfl,LB a e d hy (c x av hx),aV a e d c f⟩
   cases h
theorem A6T (G:Iq P tb) (y:∀n o,lk n σ.objs=some o->A5 (vw w O0 σ ρ) o (ρ n)) (L:∀b,own O0 σ ρ b->b<w.heap.size) {a:Act} (l:HX (vw w O0 σ ρ) σ a.eval) {d:Nat} {xs:List Operand} {g:Operand}
  {o:Oper} {ts:Array TypeId} (x:o.op=.call { callee:=.value g,args:=xs.toArray,argTypes:=ts })
  (h:Na tb σ d xs (Aq σ g)=some (vc,v,obs)) (A:vc) (hf:Bg obs σ=true) {next:Act->World->Prop} {Q:Exit->Act->World->Prop} {r:Option Nat}
  (hn:∀u ρ' w',QS w O0 σ ρ v obs u ρ' w'->next (a.put o.dst u) w'):o.wpIn (FR r) 0 P a w next Q:=by
 cases m:Aq σ g with
 | none=>rw[m]at h;simp[Na]at h
 | some B =>
  rw[m]at h;have I:=l g B m;unfold Na at h;split at h
  .rename_i f E;cases E;have H:a.eval g=.func (.func f) #[] #[]:=I;cases s:lk f tb.fns with
   | none=>rw[s]at h;simp[KS]at h
   | some sp =>
    rw[s]at h;simp only[KS]at h;cases i:Gg sp.lend σ sp.ins xs with
    | none=>rw[i]at h;simp[LZ]at h
    | some ds =>
     rw[i]at h;simp only[LZ]at h;split at h
     .rename_i hl;cases h;obtain⟨⟨fn,F,K,D⟩,z⟩:=G f sp s;have M:(execOp a.eval o).run P w=.ok (.enter f (xs.map a.eval).toArray) w:=by
       have h1 : ¬ fn.name = "runtime.NumGoroutine" := by simpa using K
       have C:¬fn.body=none:=by intro e;simp[e]at D
       simp[execOp,x,resolve,Deferred.ofValue,H,invoke,callFunc,F,h1,C]
      refine⟨λ_ _=>trivial,?_⟩;rw[Gk _ _ _ (λc e=>by rw[x]at e;cases e),M,Oper.uponIn_enter];refine⟨λh=>(by simp[FR]at h),OO ?_⟩;by_cases p:sp.lend=true
      .rw[p]at i;have t:(sp.out ds).all RV.flat=true:=by
        rcases hl with hl|hl
        .rw[p]at hl;cases hl
        exact hl
       have k:=aV (V:=vw w O0 σ ρ) (O':=λ_=>False) (λ_ _ h=>h) (λ_ _ h=>h) y l i;refine(z w (λ_=>False) _ ds (λ_ h=>h.elim) k A).mono λe w' hh=>?_;obtain⟨u,rfl,q⟩:=hh;obtain⟨ρ',j⟩:=q d;refine hn u ρ w' ?_;rw[S3 d t]at j ⊢;exact⟨j.below,λ_ _=>rfl,A06 t j.av,(λ_ _ h=>by cases h),(λ_ _ _ h=>by cases h),(λ_ _ _ _ _ h=>by cases h)⟩
      have J:sp.lend=false:=by simpa using p
      rw[J]at i;have k:=aV (V:=vw w O0 σ ρ) (O':=own O0 σ ρ) (λ_ h=>h) (λh=>by cases h) y l i;refine(z w (own O0 σ ρ) _ ds L k A).mono λe w' hh=>?_;obtain⟨u,rfl,q⟩:=hh;obtain⟨ρ',j⟩:=q d;exact hn u _ w' (QS.call hf j)
     cases h
  cases h
end
end
section
open Go Go.RowKit
section
variable {P:Program} {tb:Tb} {w:World} {O0:Nat->Prop} {σ:St} {ρ:Nat->Value} {vc:Prop} {v:AV} {obs:List (Nat×Obj)}
theorem Az {o:Oper} {a:Act} {u:Value} {w':World} {next:Act->World->Prop} {Q:Exit->Act->World->Prop} {r:Option Nat} (h:(execOp a.eval o).run P w=.ok (.value u) w') (hn:next (a.put o.dst u) w') (b:∀c,o.op≠.defer c:=by intro c e;cases e):o.wpIn (FR r) 0 P a w next Q:=by
 refine⟨λ_ _=>trivial,?_⟩;rw[Gk _ _ _ b,h];exact hn
theorem A07 {V:Vw} (x:Value):B2 V (Il x) x:=by
 unfold Il;split
 .rename_i k n;split
  .rename_i h;exact BO h
  exact(rfl:(Value.int k n)=_)
 .exact Br _
 .rename_i s;split
  .rename_i h;exact VX h
  exact(rfl:(Value.string s)=_)
 exact(rfl:x=x)
theorem Fs {V:Vw} {a:Act} (h:∀s v,lk s σ.env=some v->B2 V v (a.tmps.getD s undef)):HX V σ a.eval:=by
 intro x v hx;cases x with
 | tmp t=>exact h t v hx
 | const c=>simp only[Aq]at hx;cases hx;exact A07 c
 | global g=>simp[Aq]at hx
 | func f=>simp only[Aq]at hx;cases hx;rfl
structure A8p (P:Program) (tb:Tb) (w:World) (O0:Nat->Prop) (σ:St) (ρ:Nat->Value) (a:Act):Prop where
 hT:DC P tb
 hF:Iq P tb
 obj:∀n o,lk n σ.objs=some o->A5 (vw w O0 σ ρ) o (ρ n)
 own:∀b,own O0 σ ρ b->b<w.heap.size
 ev:HX (vw w O0 σ ρ) σ a.eval
theorem QS.toP {d n:Nat} {el:TypeId} {e:Ty} {xs:List e.den} {u:Value} {ρ':Nat->Value} {w':World} (hown:∀b,own O0 σ ρ b->b<w.heap.size) (hf:Bg [(d,.arr el e xs)] σ=true)
  (hq:QS w O0 σ ρ (.sr d e 0 n) [(d,.arr el e xs)] u ρ' w') (hn:n=xs.length):QS w O0 σ ρ (.p (.slice e) xs) [] u ρ w' where
 below:=hq.below
 rho:=λ_ _=>rfl
 av:=by
  have hO:∀b,¬own O0 (EJ σ [(d,.arr el e xs)]) ρ' b->¬own O0 (EJ σ []) ρ b:=by
   intro b hb hb';rcases hb' with h0|⟨m,⟨o,hm⟩,hmb⟩
   .exact hb (.inl h0)
   have hm:lk m σ.objs=some o:=hm;have hne:lk m [(d,Obj.arr el e xs)]=none:=by grind [lk,OI]
   refine hb (.inr ⟨m,⟨o,by simp only[EJ,A7,hne];simpa using hm⟩,?_⟩);rw[hq.rho m hne];exact hmb
  have hd:lk d [(d,Obj.arr el e xs)]=some (.arr el e xs):=by simp[lk]
  have hb:∀b,bk (ρ' d) b->¬own O0 (EJ σ []) ρ b:=λb hb hb'=>by
   have h1:=hq.new d _ b hd hb;have h2:=hown b hb';omega
  have hr:=aL (V:=vw w' O0 (EJ σ [(d,.arr el e xs)]) ρ') hO (λb hb'=>hb b (.inl hb')) (hq.obj d _ hd) hq.av.2;rw[hn,KH]at hr;obtain⟨_,_,_,_,_,_,a',c',hve,_⟩:=hq.av.2;exact⟨[u],hr,by rw[hve];rfl⟩
 obj:=λ_ _ h=>by cases h
 new:=λ_ _ _ h=>by cases h
 dist:=λ_ _ _ _ _ h=>by cases h
theorem YN {id:TypeId} {ti:TI} (hT:EK P tb id ti) (g:DC P tb) (r:∀n o,lk n σ.objs=some o->A5 (vw w O0 σ ρ) o (ρ n)) (A:∀b,own O0 σ ρ b->b<w.heap.size) {ev:Operand->Value} (i:HX (vw w O0 σ ρ) σ ev) {t:Bool} {d n:Nat} {parts:List (Nat×Operand)}
  (h:Bp t σ d n parts (some ti)=some (vc,v,obs)) (f:vc) (hf:Bg obs σ=true) :
  ∃u ρ' w',(Instr.buildSlice id n (parts.map λp=>(p.1,ev p.2)).toArray).run P w=.ok u w'/\QS w O0 σ ρ v obs u ρ' w':=by
 cases t with
 | false=>exact Pa hT g r i h f hf
 | true =>
  unfold Bp at h;split at h
  .rename_i e offs el b D;cases s:FJ σ e 0 parts with
   | none=>rw[s]at h;simp[B3]at h
   | some xs =>
    rw[s]at h;simp only[B3,AAd]at h;cases h;obtain⟨a,z⟩:∃a,lk a σ.objs=none:=by
     have:∀l:List (Nat×Obj),∃m,∀k,m<=k->lk k l=none:=by
      intro l;induction l with
      | nil=>exact⟨0,λ_ _=>rfl⟩
      | cons x l C =>
       obtain⟨m,c⟩:=C;refine⟨max m (x.1+1),λk hk=>?_⟩;have:¬k=x.1:=by omega
       obtain⟨j,o⟩:=x;simp only[lk,this,AAp];exact c k oa
     obtain⟨m,c⟩:=this σ.objs;exact⟨m,c m (No m)⟩
    have q:Bg [(a,.arr el e xs)] σ=true:=by simp[Bg,z]
    have B:Bp false σ a n parts (some ti)=some (xs.length=n/\n*e.size<=16777216,.sr a e 0 n,[(a,.arr el e xs)]):=by grind [Bp,B3]
    obtain⟨u,ρ',w',h1,y⟩:=Pa hT g r i B f q;exact⟨u,ρ,w',h1,y.toP A q f.1.symm⟩
  cases h
theorem eZ {V:Vw} {ev:Operand->Value} (d:HX V σ ev) (w':World) {k:IntKind}:∀(r:List Operand) (a m:Int),Fk σ k (some a) r=some m->KG k a->((r.map ev).foldlM Builtin.min2 (.int k a)).run P w'=.ok (.int k m) w'/\KG k m
 | [],a,m,h,ha=>by
  simp only[Fk,AAf]at h;subst h;exact⟨rfl,ha⟩
 | x :: r,a,m,h,ha=>by
  simp only[Fk]at h;cases hx:Aq σ x with
  | none=>rw[hx]at h;cases r<;>simp[PM,Fk]at h
  | some xv =>
   rw[hx]at h;cases c:PM k a (some xv) with
   | none=>rw[c]at h;cases r<;>simp[Fk]at h
   | some g =>
    rw[c]at h;unfold PM at c;split at c
    .rename_i i b e;cases e;split at c
     .rename_i hk;subst hk;cases c;obtain⟨hb,f⟩:=BM (d x _ hx);have:=eZ d w' r _ m h (by split;exact f;exact ha);rw[Sj,List.foldlM_cons,hb];simpa[Builtin.min2] using this
     cases c
    cases c
theorem qW {a:Act} (D:A8p P tb w O0 σ ρ a) {o:Oper} (h:aq tb σ (o.dst.getD 0) o.op=some (vc,v,obs)) (q:vc) (hf:Bg obs σ=true)
  {next:Act->World->Prop} {Q:Exit->Act->World->Prop} {r:Option Nat} (hn:∀u ρ' w',QS w O0 σ ρ v obs u ρ' w'->next (a.put o.dst u) w'):o.wpIn (FR r) 0 P a w next Q:=by
 obtain⟨hT,hF,A,R,e⟩:=D;have K:∀n,(vw w O0 σ ρ).L n->∃o,A5 (vw w O0 σ ρ) o ((vw w O0 σ ρ).ρ n):=λn ⟨o,Y⟩=>⟨o,A n o Y⟩;obtain⟨dst,op,type,pos,after,guard⟩:=o;simp only at h hn;cases op<;>simp only[aq]at h<;>try(cases h;done)
 case move x =>
  cases hx:Aq σ x with
  | none=>rw[hx]at h;cases h
  | some xv =>
   rw[hx]at h;simp only[G9]at h;cases h;exact Az (u:=a.eval x) (by simp[execOp]) (hn _ _ _ (QS.still (e x _ hx)))
 case assign x =>
  cases hx:Aq σ x with
  | none=>rw[hx]at h;cases h
  | some xv =>
   rw[hx]at h;simp only[G9]at h;cases h;exact Az (u:=a.eval x) (by simp[execOp]) (hn _ _ _ (QS.still (e x _ hx)))
 case pick c x y =>
  cases D:Aq σ c with
  | none=>rw[D]at h;simp[LU]at h
  | some J =>
   rw[D]at h;have N:=e c J D;unfold LU at h;split at h
   .rename_i B;cases B;have hb:=ED N;cases hx:Aq σ x with
    | none=>rw[hx]at h;simp[G9]at h
    | some xv =>
     rw[hx]at h;simp only[G9]at h;cases h;exact Az (u:=a.eval x) (by simp[execOp,hb,asBool]) (hn _ _ _ (QS.still (e x _ hx)))
   .rename_i B;cases B;have hb:=ED N;cases hy:Aq σ y with
    | none=>rw[hy]at h;simp[G9]at h
    | some E =>
     rw[hy]at h;simp only[G9]at h;cases h;exact Az (u:=a.eval y) (by simp[execOp,hb,asBool]) (hn _ _ _ (QS.still (e y _ hy)))
   cases h
 case alloc t =>
  cases ht:lk t tb.ty with
  | none=>rw[ht]at h;simp[LV]at h
  | some ti =>
   rw[ht]at h;obtain⟨u,ρ',w',h1,d⟩:=A46 (w:=w) (O0:=O0) (ρ:=ρ) (hT _ _ ht) h hf;exact Az (u:=u) (w':=w') (by simp[execOp,h1]) (hn _ _ _ d)
 case box t x =>
  cases ht:lk t tb.ty with
  | none=>rw[ht]at h;simp[VL]at h
  | some ti =>
   cases hx:Aq σ x with
   | none=>rw[ht,hx]at h;simp[VL]at h
   | some xv =>
    rw[ht,hx]at h;obtain⟨u,ρ',w',h1,d⟩:=A8n (hT _ _ ht) h (e x _ hx) hf;exact Az (u:=u) (w':=w') (by simp[execOp,h1]) (hn _ _ _ d)
 case build t parts =>
  cases ht:lk t tb.ty with
  | none=>rw[ht]at h;simp[KK]at h
  | some ti =>
   rw[ht]at h;obtain⟨rfl,u,h1,d⟩:=A48 (hT _ _ ht) A e h;have h1:(Instr.build t (parts.map λp=>(p.1,a.eval p.2))).run P w=.ok u w:=by
    rw[<-h1]
    congr 2
    apply Array.ext';simp
   exact Az (u:=u) (w':=w) (by simp[execOp,h1]) (hn _ _ _ (QS.still d))
 case buildSlice t n parts =>
  cases O:lk (dst.getD 0) tb.nests with
  | some ai =>
   rw[O]at h;simp only[HT]at h;cases ht:lk t tb.ty with
   | none=>rw[ht]at h;simp[KM]at h
   | some ti =>
    rw[ht]at h;obtain⟨u,ρ',w',h1,d⟩:=A6N (hT _ _ ht) hT A e h q hf;have h1:(Instr.buildSlice t n (parts.map λp=>(p.1,a.eval p.2))).run P w=.ok u w':=by
     rw[<-h1]
     congr 2
     grind
    exact Az (u:=u) (w':=w') (by simp[execOp,h1]) (hn _ _ _ d)
  | none =>
  rw[O]at h;simp only[HT]at h;cases ht:lk t tb.ty with
  | none=>rw[ht]at h;simp[Bp]at h
  | some ti =>
   rw[ht]at h;obtain⟨u,ρ',w',h1,d⟩:=YN (hT _ _ ht) hT A R e h q hf;have h1:(Instr.buildSlice t n (parts.map λp=>(p.1,a.eval p.2))).run P w=.ok u w':=by
    rw[<-h1]
    congr 2
    apply Array.ext';simp
   exact Az (u:=u) (w':=w') (by simp[execOp,h1]) (hn _ _ _ d)
 case load t x =>
  cases ht:lk t tb.ty with
  | none=>rw[ht]at h;simp[K8]at h
  | some ti =>
   cases hx:Aq σ x with
   | none=>rw[ht,hx]at h;simp[K8]at h
   | some xv =>
    rw[ht,hx]at h;obtain⟨rfl,u,h1,d⟩:=z4 (hT _ _ ht) A h (e x _ hx);exact Az (u:=u) (w':=w) (by simp[execOp,h1]) (hn _ _ _ (QS.still d))
 case nilCheck x =>
  cases hx:Aq σ x with
  | none=>rw[hx]at h;simp[YJ]at h
  | some xv =>
   rw[hx]at h;obtain⟨rfl,⟨ad,B⟩,d⟩:=A8m h (e x _ hx);exact Az (u:=a.eval x) (w':=w) (by simp[execOp,B]) (hn _ _ _ (QS.still d))
 case binOp op t x y an =>
  cases hx:Aq σ x with
  | none=>rw[hx]at h;simp[Tv]at h
  | some xv =>
   cases hy:Aq σ y with
   | none=>rw[hx,hy]at h;cases xv<;>simp[Tv]at h
   | some E =>
    rw[hx,hy]at h;obtain⟨rfl,h1,u,d,j⟩:=A8i (P:=P) (t:=t) (λhb=>by
     cases ht:lk t tb.ty with
     | none=>rw[ht]at hb;cases hb
     | some ti =>
      have h0:=(hT _ _ ht).2;rw[ht]at hb;unfold VM at hb;split at hb
      .grind
      cases hb) w h q (e x _ hx) (e y _ hy)
    exact Az (u:=u) (w':=w) (by simp[execOp,h1,d]) (hn _ _ _ (QS.still j))
 case unOp op t x =>
  cases hx:Aq σ x with
  | none=>rw[hx]at h;cases op<;>simp[qUn]at h
  | some xv =>
   rw[hx]at h;obtain⟨rfl,u,d,j⟩:=A9v (P:=P) w h q (e x _ hx);exact Az (u:=u) (w':=w) (by simp[execOp,d]) (hn _ _ _ (QS.still j))
 case convert s t x =>
  cases hs:lk s tb.ty with
  | none=>rw[hs]at h;simp[K9]at h
  | some am =>
   cases ht:lk t tb.ty with
   | none=>rw[hs,ht]at h;simp[K9]at h
   | some ti =>
    cases hx:Aq σ x with
    | none=>rw[hs,ht,hx]at h;simp[K9]at h
    | some xv =>
     rw[hs,ht,hx]at h;obtain⟨rfl,u,d,j⟩:=A6J (P:=P) hT rfl (hT _ _ hs) (hT _ _ ht) h q (e x _ hx);have d:(convert s t (a.eval x)).run P w=.ok u w:=d;exact Az (u:=u) (w':=w) (by simp[execOp,d]) (hn _ _ _ (QS.still j))
 case makeSlice t l c =>
  cases ht:lk t tb.ty with
  | none=>rw[ht]at h;simp[Jg]at h
  | some ti =>
   cases hx:Aq σ l with
   | none=>rw[ht,hx]at h;simp[Jg]at h
   | some ak =>
    cases hy:Aq σ c with
    | none=>rw[ht,hx,hy]at h;simp[Jg]at h
    | some J =>
     rw[ht,hx,hy]at h;obtain⟨u,ρ',w',h1,d⟩:=A6O (hT _ _ ht) hT h q (e l _ hx) (e c _ hy) hf;exact Az (u:=u) (w':=w') (by simp[execOp,h1]) (hn _ _ _ d)
 case slice t x lo hi ae =>
  cases ae with
  | some m =>
   cases lo with
   | some _=>cases hi<;>simp[aq]at h
   | none =>
    cases hi with
    | none=>simp[aq]at h
    | some h1 =>
     simp only[aq]at h;cases ht:lk t tb.ty with
     | none=>rw[ht]at h;simp[EM]at h
     | some ti =>
      cases hx:Aq σ x with
      | none=>rw[ht,hx]at h;simp[EM]at h
      | some xv =>
       cases hh:Aq σ h1 with
       | none=>rw[ht,hx,hh]at h;simp[EM]at h
       | some ah =>
        cases C:Aq σ m with
        | none=>rw[ht,hx,hh,C]at h;simp[EM]at h
        | some al =>
         rw[ht,hx,hh,C]at h;obtain⟨rfl,u,d,j⟩:=z9 (P:=P) (V:=vw w O0 σ ρ) (hT _ _ ht) hT h q (e x _ hx) (e h1 _ hh) (e m _ C);have d:(Instr.sliceAt t (a.eval x) none (some (a.eval h1)) (some (a.eval m))).run P w=.ok u w:=d;exact Az (u:=u) (w':=w) (by simp[execOp,d]) (hn _ _ _ (QS.still j))
  | none =>
   simp only[aq]at h;cases ht:lk t tb.ty with
   | none=>rw[ht]at h;simp[Fi]at h
   | some ti =>
    cases hx:Aq σ x with
    | none=>rw[ht,hx]at h;simp[Fi]at h
    | some xv =>
     have M:∀ {y:Option Operand} {I:Option AV},HN σ y=some I->eJ (V:=vw w O0 σ ρ) I (y.map a.eval):=by
      intro y I hy;cases y with
      | none=>simp only[HN]at hy;cases hy;trivial
      | some z =>
       simp only[HN,OR]at hy;obtain⟨U,ab,rfl⟩:=hy;exact e z U ab
     cases F:HN σ lo with
     | none=>rw[ht,hx,F]at h;simp[Fi]at h
     | some aj =>
      cases G:HN σ hi with
      | none=>rw[ht,hx,F,G]at h;simp[Fi]at h
      | some ag =>
       rw[ht,hx,F,G]at h;obtain⟨rfl,u,d,j⟩:=A45 (P:=P) (V:=vw w O0 σ ρ) (hT _ _ ht) hT h q (e x _ hx) (M F) (M G);have d:(Instr.sliceAt t (a.eval x) (lo.map a.eval) (hi.map a.eval) none).run P w=.ok u w:=d;exact Az (u:=u) (w':=w) (by simp[execOp,d]) (hn _ _ _ (QS.still j))
 case fieldAddr s x f =>
  cases hs:lk s tb.ty with
  | none=>rw[hs]at h;simp[Hz]at h
  | some ti =>
   cases hx:Aq σ x with
   | none=>rw[hs,hx]at h;simp[Hz]at h
   | some xv =>
    rw[hs,hx]at h;obtain⟨rfl,u,d,j⟩:=A41 (P:=P) (hT _ _ hs) w h (e x _ hx);exact Az (u:=u) (w':=w) (by simp[execOp,d]) (hn _ _ _ (QS.still j))
 case indexAddr t x i =>
  cases ht:lk t tb.ty with
  | none=>rw[ht]at h;simp[GL]at h
  | some ti =>
   cases hx:Aq σ x with
   | none=>rw[ht,hx]at h;simp[GL]at h
   | some xv =>
    cases hi:Aq σ i with
    | none=>rw[ht,hx,hi]at h;simp[GL]at h
    | some S =>
     rw[ht,hx,hi]at h;obtain⟨rfl,u,d,j⟩:=A42 (P:=P) (V:=vw w O0 σ ρ) (hT _ _ ht) hT h q (e x _ hx) (e i _ hi) K;have d:(Instr.indexAt t (a.eval x) (a.eval i)).run P w=.ok u w:=d;exact Az (u:=u) (w':=w) (by simp[execOp,d]) (hn _ _ _ (QS.still j))
 case index t x i =>
  cases ht:lk t tb.ty with
  | none=>rw[ht]at h;simp[Ej]at h
  | some ti =>
   cases hx:Aq σ x with
   | none=>rw[ht,hx]at h;simp[Ej]at h
   | some xv =>
    cases hi:Aq σ i with
    | none=>rw[ht,hx,hi]at h;simp[Ej]at h
    | some S =>
     rw[ht,hx,hi]at h;obtain⟨rfl,u,d,j⟩:=z6 (P:=P) (hT _ _ ht) w h q (e x _ hx) (e i _ hi);exact Az (u:=u) (w':=w) (by simp[execOp,d]) (hn _ _ _ (QS.still j))
 case extract x i =>
  cases hx:Aq σ x with
  | none=>rw[hx]at h;simp[E4]at h
  | some xv =>
   rw[hx]at h;obtain⟨rfl,u,d,j⟩:=vJ (P:=P) w h (e x _ hx);exact Az (u:=u) (w':=w) (by simp[execOp,d]) (hn _ _ _ (QS.still j))
 case makeFunc fn first X =>
  obtain⟨rfl,u,d,j⟩:=A8o (P:=P) e h;have d:(Instr.makeFunc fn (first.map a.eval) (X.map a.eval)).run P w=.ok u w:=by
   rw[<-d]
   congr 2<;>(apply Array.ext';simp)
  exact Az (u:=u) (w':=w) (by simp[execOp,d]) (hn _ _ _ (QS.still j))
 case makeMap t res =>
  cases res with
  | some z=>simp[aq]at h
  | none =>
   simp only[aq]at h;cases ht:lk t tb.ty with
   | none=>rw[ht]at h;simp[Gh]at h
   | some ti =>
    rw[ht]at h;obtain⟨u,ρ',w',h1,d⟩:=vS (w:=w) (O0:=O0) (ρ:=ρ) (hT _ _ ht) h hf;exact Az (u:=u) (w':=w') (by simp[execOp,h1]) (hn _ _ _ d)
 case lookup t x i ok =>
  cases ht:lk t tb.ty with
  | none=>rw[ht]at h;simp[Ji]at h
  | some ti =>
   cases hx:Aq σ x with
   | none=>rw[ht,hx]at h;simp[Ji]at h
   | some xv =>
    cases hi:Aq σ i with
    | none=>rw[ht,hx,hi]at h;simp[Ji]at h
    | some S =>
     rw[ht,hx,hi]at h;obtain⟨rfl,u,d,j⟩:=A6R (P:=P) (hT _ _ ht) hT A h (e x _ hx) (e i _ hi);exact Az (u:=u) (w':=w) (by simp[execOp,d]) (hn _ _ _ (QS.still j))
 case call c =>
  obtain⟨callee,args,argTypes⟩:=c;cases callee with
  | invoke r m=>simp[EO]at h
  | value g =>
   simp only[EO]at h;exact A6T hF A R e (xs:=args.toList) (ts:=argTypes) (o:=⟨dst,.call ⟨.value g,args,argTypes⟩,type,pos,after,guard⟩) sc h q hf hn
  | builtin b =>
   simp only[EO]at h;obtain⟨args⟩:=args;obtain⟨argTypes⟩:=argTypes;simp only at h;unfold E6 at h;split at h
   .rename_i x t;cases ht:lk t tb.ty with
    | none=>rw[ht]at h;simp[VN]at h
    | some ti =>
     cases hx:Aq σ x with
     | none=>rw[ht,hx]at h;simp[VN]at h
     | some xv =>
      rw[ht,hx]at h;obtain⟨rfl,u,d,j⟩:=A8j (P:=P) (ty:=type) (V:=vw w O0 σ ρ) K (hT _ _ ht) w h (e x _ hx);exact Az (u:=u) (w':=w) (by simp[execOp,resolve,invoke,builtin,d]) (hn _ _ _ (QS.still j))
   .rename_i x y t u;cases hx:Aq σ x with
    | none=>rw[hx]at h;simp[Dg]at h
    | some xv =>
     cases hy:Aq σ y with
     | none=>rw[hx,hy]at h;simp[Dg]at h
     | some E =>
      rw[hx,hy]at h;obtain⟨z,ρ',w',h1,d⟩:=A02 (ty:=type) hT A h q (e x _ hx) (e y _ hy) hf;exact Az (u:=z) (w':=w') (by simp[execOp,resolve,invoke,builtin,h1]) (hn _ _ _ d)
   .rename_i x y t u;cases hx:Aq σ x with
    | none=>rw[hx]at h;simp[Tw]at h
    | some xv =>
     cases hy:Aq σ y with
     | none=>rw[hx,hy]at h;simp[Tw]at h
     | some E =>
      rw[hx,hy]at h;obtain⟨rfl,z,h1,d⟩:=A8k (P:=P) (ts:=#[t,u]) (ty:=type) w h (e x _ hx) (e y _ hy);exact Az (u:=z) (w':=w) (by simp[execOp,resolve,invoke,builtin,h1]) (hn _ _ _ (QS.still d))
   .rename_i x y t u;cases hx:Aq σ x with
    | none=>rw[hx]at h;simp[Tx]at h
    | some xv =>
     cases hy:Aq σ y with
     | none=>rw[hx,hy]at h;simp[Tx]at h
     | some E =>
      rw[hx,hy]at h;obtain⟨rfl,z,h1,d⟩:=A8l (P:=P) (ts:=#[t,u]) (ty:=type) w h (e x _ hx) (e y _ hy);exact Az (u:=z) (w':=w) (by simp[execOp,resolve,invoke,builtin,h1]) (hn _ _ _ (QS.still d))
   .rename_i x y T t u af;cases hx:Aq σ x with
    | none=>rw[hx]at h;simp[Jh]at h
    | some xv =>
     cases hy:Aq σ y with
     | none=>rw[hx,hy]at h;simp[Jh]at h
     | some E =>
      cases H:Aq σ T with
      | none=>rw[hx,hy,H]at h;simp[Jh]at h
      | some U =>
       rw[hx,hy,H]at h;obtain⟨rfl,z,h1,d⟩:=A6K (P:=P) (ts:=#[t,u,af]) (ty:=type) w h (e x _ hx) (e y _ hy) (e T _ H);exact Az (u:=z) (w':=w) (by simp[execOp,resolve,invoke,builtin,h1]) (hn _ _ _ (QS.still d))
   .rename_i ts x y z u r;cases hx:Aq σ x with
    | none=>rw[hx]at h;simp[PN]at h
    | some xv =>
     rw[hx]at h;unfold PN at h;split at h
     .rename_i k W B;cases B;cases C:Fk σ k (some W) (y :: z :: u :: r) with
      | none=>rw[C]at h;simp[Sq]at h
      | some m =>
       rw[C]at h;simp only[Sq,AAf,AC2]at h;obtain⟨rfl,rfl,rfl⟩:=h;obtain⟨Z,aa⟩:=BM (e x _ hx);obtain⟨h1,d⟩:=eZ (P:=P) e w _ _ _ C aa;have j:(Builtin.min_ ⟨argTypes⟩ type (a.eval x :: a.eval y :: a.eval z :: a.eval u :: r.map a.eval).toArray).run P w=.ok (.int k m) w:=by
        rw[Z];exact h1
       exact Az (u:=.int _ m) (w':=w) (by simp[execOp,resolve,invoke,builtin,j]) (hn _ _ _ (QS.still (BO d)))
     cases h
   cases h
end
end
section
open Go Go.RowKit
section
variable {w0:World} {K O0:Nat->Prop} {nt:Nat} {ds:Fp} {σ:St} {ρ:Nat->Value} {a:Act} {w:World}
theorem A4a {n:Nat} {o:Obj} {env:List (Nat×AV)} (m:Nat):Gz ⟨env,upd n o σ.objs⟩ m↔Gz σ m:=by
 constructor
 .rintro⟨x,hx⟩;rw[GM]at hx;split at hx
  .rename_i e;subst e;simp only[OR]at hx;obtain⟨y,hy,_⟩:=hx;exact⟨y,hy⟩
  exact⟨x,hx⟩
 rintro⟨x,hx⟩;by_cases e:m=n
 .subst e;exact⟨o,by simp[GM,hx]⟩
 exact⟨x,by simp[GM,e,hx]⟩
theorem CA.upd (h:CA w0 K O0 nt ds σ ρ a w) (y:∀b,K b->b<w0.heap.size) {n:Nat} {o i:Obj} (hn:lk n σ.objs=some o) {g:Nat} (hb:blk (ρ n)=some g) {w':World} (c:w.grownBy w' (some g))
  (F:A5 (vw w' O0 σ ρ) i (ρ n)):CA w0 K O0 nt ds ⟨σ.env,Fw.upd n i σ.objs⟩ ρ a w':=by
 have d:Gz ⟨σ.env,Fw.upd n i σ.objs⟩=Gz σ:=funext λm=>propext (A4a m);have t:vw w' O0 ⟨σ.env,Fw.upd n i σ.objs⟩ ρ=vw w' O0 σ ρ:=by
  have C:own O0 ⟨σ.env,Fw.upd n i σ.objs⟩ ρ=own O0 σ ρ:=by
   funext b;simp only[own,d]
  simp only[vw,d,C]
 have A:own O0 σ ρ g:=.inr ⟨n,⟨o,hn⟩,.inl hb⟩;have hk:Cl (vw w O0 σ ρ) (vw w' O0 σ ρ):=⟨λ_ _ h=>h,λ_ h=>h,λ_ _=>rfl,λb B z=>c.block b B (λe=>by injection e with e;subst e;exact z A)⟩;refine⟨⟨c.os.trans h.frm.os,c.tape.trans h.frm.tape,c.output.trans h.frm.output,SX h.frm.size c.size,λk q=>?_⟩,h.nt,h.defers,λp D=>by rw[d];exact h.pin p D,?_,?_,?_,?_⟩
 .refine(c.block k (AAj (y k q) h.frm.size) (λe=>?_)).trans (h.frm.block k q);injection e with e
  subst e;exact(h.free n k ⟨o,hn⟩ (.inl hb)).1 q
 .intro m x f;rw[t];rw[GM]at f;split at f
  .grind
  rename_i e;refine(h.objs m x f).keeps hk λb j=>?_;refine c.block b ((h.objs m x f).block_lt j) (λl=>?_);injection l with l
  subst l;exact e (h.dist m n b ⟨x,f⟩ ⟨o,hn⟩ j (.inl hb))
 .intro m b hl j;rw[d]at hl;exact h.free m b hl j
 .intro m E b hl r h1 u;rw[d]at hl r;exact h.dist m E b hl r h1 u
 intro s v hs;rw[t];exact(h.env s v hs).keeps hk
theorem Jj (n s:Nat):∀l:List (Nat×AV),lk s (GJ n l)=(lk s l).map (AV.drp n)
 | []=>rfl
 | (j,v) :: l=>by
  simp only[GJ,lk];split
  .rfl
  exact Jj n s l
def Obj.drp (n:Nat):Obj->Obj
 | .arr et e xs=>.arr et e xs
 | .box et st fs=>.box et st (AV.drps n fs)
 | .mapo k v l=>.mapo k v l
 | .nest et b k e xs h=>.nest et b k e xs h
 | .frame i fs=>.frame i (GJ n fs)
 | .loop L=>.loop L
 | .itr c g d f a=>.itr c g d f a
 | .dfr=>.dfr
theorem Bo (n s:Nat):∀l:List (Nat×Obj),lk s (Bj n l)=(lk s l).map (Obj.drp n)
 | []=>rfl
 | (j,.arr et e xs) :: l=>by
  simp only[Bj,lk];split
  .rfl
  exact Bo n s l
 | (j,.box et st fs) :: l=>by
  simp only[Bj,lk];split
  .rfl
  exact Bo n s l
 | (j,.mapo k v x) :: l=>by
  simp only[Bj,lk];split
  .rfl
  exact Bo n s l
 | (j,.nest et b k e xs h) :: l=>by
  simp only[Bj,lk];split
  .rfl
  exact Bo n s l
 | (j,.frame i fs) :: l=>by
  simp only[Bj,lk];split
  .rfl
  exact Bo n s l
 | (j,.loop L) :: l=>by
  simp only[Bj,lk];split
  .rfl
  exact Bo n s l
 | (j,.itr c g d f a) :: l=>by
  simp only[Bj,lk];split
  .rfl
  exact Bo n s l
 | (j,.dfr) :: l=>by
  simp only[Bj,lk];split
  .rfl
  exact Bo n s l
def Vw.but (V:Vw) (n:Nat):Vw:=⟨V.w,V.O,λm=>V.L m/\m≠n,V.ρ⟩
def seat (v:Value):Prop:=(∃a m c,v=.slice a m c)\/∃b,v=.tuple b
theorem Ir {V:Vw} {n:Nat} (hn:seat (V.ρ n)) {x:AV} {v:Value} (h:VR V x v):VR (V.but n) (x.drp n) v:=by
 cases x;case sr m e lo hi =>
  simp only[AV.drp];split
  .trivial
  rename_i d;exact⟨⟨h.1,d⟩,h.2⟩
 case ep m e i o off =>
  simp only[AV.drp];split
  .trivial
  rename_i d;exact⟨⟨h.1,d⟩,h.2⟩
 case nin m e i len =>
  simp only[AV.drp];split
  .trivial
  rename_i d;exact⟨⟨h.1,d⟩,h.2⟩
 case bp m o off =>
  simp only[AV.drp];refine⟨⟨h.1,λe=>?_⟩,h.2⟩;subst e;obtain⟨_,b,hb,_⟩:=h;rcases hn with ⟨a,g,c,hs⟩|⟨j,hs⟩<;>(rw[hs]at hb;cases hb)
 case clo f ns =>
  simp only[AV.drp];refine⟨h.1,λm k=>?_⟩;obtain⟨h1,b,hb⟩:=h.2 m k;refine⟨⟨h1,λe=>?_⟩,b,hb⟩;subst e;rcases hn with ⟨a,g,c,hs⟩|⟨j,hs⟩<;>(rw[hs]at hb;cases hb)
 case mp m =>
  simp only[AV.drp];refine⟨⟨h.1,λe=>?_⟩,h.2⟩;subst e;obtain⟨_,b,hb,_⟩:=h;rcases hn with ⟨a,g,c,hs⟩|⟨j,hs⟩<;>(rw[hs]at hb;cases hb)
 case yl m =>
  simp only[AV.drp];refine⟨⟨h.1,λe=>?_⟩,h.2⟩;subst e;obtain⟨_,b,hb,_⟩:=h;rcases hn with ⟨a,g,c,hs⟩|⟨j,hs⟩<;>(rw[hs]at hb;cases hb)
 case ag l=>exact h.elim
 case tup l=>exact h.elim
 all_goals simp only[AV.drp];exact h
theorem A4b {V:Vw} {n:Nat} (hn:seat (V.ρ n)) {x:AV} {cs:List Value} (h:NS V x cs):NS (V.but n) (x.drp n) cs:=by
 cases x;case p t d=>simp only[AV.drp];exact h
 case ag l=>obtain⟨v,_,_,hf⟩:=h;exact hf.elim
 case tup l=>obtain⟨v,_,_,hf⟩:=h;exact hf.elim
 all_goals
  obtain⟨v,rfl,h1,c⟩:=h;have a:=Ir hn c;simp only[AV.drp]at a ⊢;first
   | exact⟨v,rfl,h1,a⟩
   | (split at a<;>rename_i b<;>first|(rw[DO b];exact⟨v,rfl,h1,a⟩)|(rw[BY b];exact⟨v,rfl,h1,a⟩))
theorem Pe {V:Vw} {n:Nat} (hn:seat (V.ρ n)):∀ {l:List AV} {cs:List Value},DX V l cs->DX (V.but n) (AV.drps n l) cs
 | [],cs,h=>(h:cs=[])
 | x :: r,cs,h=>by
  obtain⟨c1,c2,rfl,h1,a⟩:=h;simp only[AV.drps];exact⟨c1,c2,rfl,A4b hn h1,Pe hn a⟩
theorem A4c {V:Vw} {n:Nat} (hn:seat (V.ρ n)) {x:AV} {v:Value} (hx:Sx V x v):Sx (V.but n) (x.drp n) v:=by
 cases x;case ag l=>obtain⟨cs,h1,a⟩:=hx;simp only[AV.drp];exact⟨cs,h1,Pe hn a⟩
 all_goals exact Sx.of1 (Ir hn hx)
theorem e9 {V:Vw} {n:Nat} (hn:seat (V.ρ n)):∀ {l:List AV} {a:List Value},H5 V l a->H5 (V.but n) (AV.drps n l) a
 | [],a,h=>(h:a=[])
 | x :: r,a,h=>by
  obtain⟨v,c,rfl,h1,b⟩:=h;simp only[AV.drps];exact⟨v,c,rfl,A4c hn h1,e9 hn b⟩
theorem A4d {V:Vw} {x:AV} {v:Value} (h:VR V x v):B2 V x v:=by
 cases x;case ag l=>exact h.elim
 case tup l=>exact h.elim
 all_goals exact h
theorem qX {V:Vw} {n:Nat} (hn:seat (V.ρ n)) {x:AV} {v:Value} (h:B2 V x v):B2 (V.but n) (x.drp n) v:=by
 cases x;case ag l=>obtain⟨cs,h1,a⟩:=h;simp only[AV.drp];exact⟨cs,h1,Pe hn a⟩
 case tup l=>obtain⟨b,h1,a⟩:=h;simp only[AV.drp];exact⟨b,h1,e9 hn a⟩
 all_goals exact A4d (Ir hn h)
theorem S4 (n:Nat):∀l:List AV,(AV.drps n l).length=l.length
 | []=>rfl
 | _ :: r=>by simp[AV.drps,S4 n r]
theorem A4e {n:Nat} {a:Obj} {env:List (Nat×AV)} (m:Nat):Gz ⟨env,upd n a (Bj n σ.objs)⟩ m↔Gz σ m:=by
 constructor
 .rintro⟨x,hx⟩;rw[GM,Bo,Bo]at hx;split at hx
  .rename_i e;subst e;simp only[Option.map_map,OR]at hx;obtain⟨y,hy,_⟩:=hx;exact⟨y,hy⟩
  simp only[OR]at hx;obtain⟨y,hy,_⟩:=hx;exact⟨y,hy⟩
 rintro⟨x,hx⟩;by_cases e:m=n
 .subst e;exact⟨a,by simp[GM,Bo,hx]⟩
 exact⟨x.drp n,by simp[GM,Bo,e,hx]⟩
theorem CA.app (h:CA w0 K O0 nt ds σ ρ a w) (Y:∀b,K b->b<w0.heap.size) (am:∀b,O0 b->b<w0.heap.size) {n:Nat} (ab:G8 n=false) {et:TypeId} {e:Ty} {xs ys:List e.den} (hn:lk n σ.objs=some (.arr et e xs)) {loc:Value} {w':World} {cells:List Value}
  (A:w.grownBy w' (blk (ρ n))) (Q:blk loc=blk (ρ n)\/∀b,blk loc=some b->w.heap.size<=b) (E:ys.length<=AP)
  (M:w'.ownsRow 0 et e.size loc ys.length cells) (aa:De w (own O0 σ ρ) e cells ys) {d:Nat} (hd:d<nt) {hi:Nat} (ad:hi=ys.length) :
  CA w0 K O0 nt ds ⟨(d,.sr n e 0 hi) :: GJ n σ.env,Fw.upd n (.arr et e ys) (Bj n σ.objs)⟩ (Ex ρ n loc) (a.put (some d) loc) w':=by
 subst ad;have F:∃a m c,(vw w O0 σ ρ).ρ n=.slice a m c:=by
  obtain⟨_,cells',ag,_⟩:=h.objs n _ hn;rcases ag.2 with ⟨u,_⟩|⟨g,cap,S,u,_⟩
  .exact⟨_,_,_,u⟩
  exact⟨_,_,_,u⟩
 let σ':St:=⟨(d,.sr n e 0 ys.length) :: GJ n σ.env,Fw.upd n (.arr et e ys) (Bj n σ.objs)⟩
 have B:∀m,Gz σ' m↔Gz σ m:=λm=>A4e m;have D:∀b,bk loc b↔blk loc=some b:=λb=>by
  rcases M.2 with ⟨u,_⟩|⟨g,cap,S,u,_⟩
  .rw[u];exact Lh
  rw[u];exact Lh
 have an:∀b,bk (ρ n) b↔blk (ρ n)=some b:=λb=>by
  obtain⟨U,ak,c2,i⟩:=F;have i:ρ n=_:=i;rw[i];exact Lh
 have ae:∀b,bk loc b->own O0 σ ρ b\/w.heap.size<=b:=by
  intro b hb;replace hb:=(D b).1 hb;rcases Q with h1|h1
  .exact .inl (.inr ⟨n,⟨_,hn⟩,.inl (by rw[<-h1];exact hb)⟩)
  exact .inr (h1 b hb)
 have hk:Cl ((vw w O0 σ ρ).but n) (vw w' O0 σ' (Ex ρ n loc)):=by
  refine⟨?_,λm E=>(B m).2 E.1,λm E=>?_,?_⟩
  .intro b I hb t;rcases t with h0|⟨m,hl,H⟩
   .exact hb (.inl h0)
   by_cases J:m=n
   .subst J;rw[Bq]at H;rcases ae b H with h1|h1
    .exact hb h1
    have I:b<w.heap.size:=I;omega
   have:Ex ρ n loc m=ρ m:=by simp[Ex,J]
   rw[this]at H;exact hb (.inr ⟨m,(B m).1 hl,H⟩)
  .have:m≠n:=E.2;show Ex ρ n loc m=ρ m;simp[Ex,this]
  intro b I hb;exact A.block b I (λf=>hb (.inr ⟨n,⟨_,hn⟩,.inl f.symm⟩))
 refine⟨⟨A.os.trans h.frm.os,A.tape.trans h.frm.tape,A.output.trans h.frm.output,SX h.frm.size A.size,λk O=>?_⟩,by rw[PT];exact h.nt,by rw[KT];exact h.defers,λp ah=>?_,?_,?_,?_,?_⟩
 .refine(A.block k (AAj (Y k O) h.frm.size) (λf=>?_)).trans (h.frm.block k O);exact(h.free n k ⟨_,hn⟩ (.inl f.symm)).1 O
 .obtain⟨h1,C,r⟩:=h.pin p ah;have ap:p.1≠n:=by
   intro e2;obtain⟨U,ak,c2,i⟩:=F;have i:ρ n=_:=i;rw[<-e2,C]at i;rw[i]at r;rcases r with r|r
   .cases r
   rw[e2,ab]at r;cases r
  grind [Ex]
 .intro m x j;show A5 (vw w' O0 σ' (Ex ρ n loc)) x (Ex ρ n loc m);rw[GM]at j;split at j
  .rename_i f;subst f;rw[Bo,hn]at j;simp only[AAP]at j;cases j;rw[Bq];exact⟨E,cells,M,aa.keeps (V:=(vw w O0 σ ρ).but m) hk⟩
  rename_i f;rw[Bo]at j;simp only[OR]at j;obtain⟨y,hy,rfl⟩:=j;have:Ex ρ n loc m=ρ m:=by simp[Ex,f]
  rw[this];have hb:∀b,bk (ρ m) b->w'.heap[b]?=w.heap[b]?:=λb t=>by
   refine A.block b ((h.objs m y hy).block_lt t) (λe2=>?_);exact f (h.dist m n b ⟨y,hy⟩ ⟨_,hn⟩ t (.inl e2.symm))
  have q:=h.objs m y hy;cases y with
  | arr T e2 ax=>exact A5.keeps (V:=(vw w O0 σ ρ).but n) hk hb q
  | box T st fs =>
   obtain⟨h0,b,cs,hl,hh,Z⟩:=q;exact A5.keeps (V:=(vw w O0 σ ρ).but n) (o:=.box T st (AV.drps n fs)) hk hb ⟨λai=>by rw[S4];exact h0 ai,b,cs,hl,hh,Pe (.inl F) Z⟩
  | mapo k v l=>exact A5.keeps (V:=(vw w O0 σ ρ).but n) hk hb q
  | nest et aj k e xs hl=>exact A5.keeps (V:=(vw w O0 σ ρ).but n) (o:=.nest et aj k e xs hl) hk hb (Mp (V:=vw w O0 σ ρ) (V':=(vw w O0 σ ρ).but n) rfl rfl q)
  | frame al fs =>
   obtain⟨h0,h1⟩:=q;refine A5.keeps (V:=(vw w O0 σ ρ).but n) (o:=.frame al (GJ n fs)) hk hb ⟨h0,λs z R=>?_⟩;rw[Jj]at R;simp only[OR]at R;obtain⟨y,hy,rfl⟩:=R;exact qX (.inl F) (h1 s y hy)
  | loop L=>exact A5.keeps (V:=(vw w O0 σ ρ).but n) hk hb q
  | itr ar aw au av aq=>exact A5.keeps (V:=(vw w O0 σ ρ).but n) hk hb q
  | dfr=>exact A5.keeps (V:=(vw w O0 σ ρ).but n) hk hb q
 .intro m b hl hb;replace hl:=(B m).1 hl;by_cases f:m=n
  .subst f;rw[Bq]at hb;rcases Q with h1|h1
   .exact h.free m b hl (.inl (by rw[<-h1];exact(D b).1 hb))
   have:=h1 b ((D b).1 hb);have:=h.frm.size;grind
  have:Ex ρ n loc m=ρ m:=by simp[Ex,f]
  rw[this]at hb;exact h.free m b hl hb
 .have key:∀m b,Gz σ m->m≠n->bk (ρ m) b->bk loc b->False:=by
   intro m b hl J hb t;rcases Q with h1|h1
   .exact J (h.dist m n b hl ⟨_,hn⟩ hb (.inl (by rw[<-h1];exact(D b).1 t)))
   have C:=h1 b ((D b).1 t);obtain⟨y,hy⟩:=hl;have:=(h.objs m y hy).block_lt hb;have:b<w.heap.size:=this;omega
  intro m G b hl P h1 C;replace hl:=(B m).1 hl;replace P:=(B G).1 P;by_cases e1:m=n<;>by_cases e2:G=n
  .rw[e1,e2]
  .grind [Ex,Bq]
  .grind [Ex,Bq]
  have W:Ex ρ n loc m=ρ m:=by simp[Ex,e1]
  have X:Ex ρ n loc G=ρ G:=by simp[Ex,e2]
  rw[W]at h1;rw[X]at C;exact h.dist m G b hl P h1 C
 intro s v hs;show B2 (vw w' O0 σ' (Ex ρ n loc)) v _;rw[Mo a d loc s (by rw[h.nt];exact hd)];simp only[lk]at hs;split at hs
 .rename_i N;cases hs;rw[DO N];refine⟨(B n).2 ⟨_,hn⟩,?_⟩;show DP (plc (Ex ρ n loc n)) e.size 0 ys.length loc;rw[Bq,HW M];rcases M.2 with ⟨rfl,af⟩|⟨g,cap,S,rfl,_,_,ao,_⟩
  .exact⟨none,0,0,rfl,by omega,by omega,none,0,by rw[af],by omega,λ_=>⟨rfl,rfl⟩,λh=>by omega⟩
  exact⟨some ⟨g,0,none⟩,ys.length,cap,rfl,by omega,by omega,some ⟨g,0,none⟩,cap,by simp,by omega,λ_=>⟨rfl,rfl⟩,λ_=>by simp[Mm]⟩
 rename_i N;rw[BY N];rw[Jj]at hs;simp only[OR]at hs;obtain⟨y,hy,rfl⟩:=hs;exact(qX (.inl F) (h.env s y hy)).keeps hk
end
end
section
open Go Go.RowKit
def Vw.buts (V:Vw) (hs:List Nat):Vw:=⟨V.w,V.O,λm=>V.L m/\AU m hs=false,V.ρ⟩
theorem aW {V:Vw} {hs:List Nat} {x:AV} {v:Value} (h:VR V x v):VR (V.buts hs) (x.fgt hs) v:=by
 cases x;case clo f ns =>
  simp only[AV.fgt];split
  .trivial
  rename_i a;refine⟨h.1,λn hn=>⟨⟨(h.2 n hn).1,?_⟩,(h.2 n hn).2⟩⟩;grind
 case ag l=>exact h.elim
 case tup l=>exact h.elim
 case p t d=>simp only[AV.fgt];exact h
 case pc e d=>simp only[AV.fgt];exact h
 case raw u=>simp only[AV.fgt];exact h
 case ip t d=>simp only[AV.fgt];exact h
 case fn f=>simp only[AV.fgt];exact h
 case top=>trivial
 all_goals
  simp only[AV.fgt];split
  .trivial
  rename_i a;exact⟨⟨h.1,by simpa using a⟩,h.2⟩
theorem A4f {V:Vw} {hs:List Nat} {x:AV} {cs:List Value} (h:NS V x cs):NS (V.buts hs) (x.fgt hs) cs:=by
 cases x;case p t d=>simp only[AV.fgt];exact h
 case ag l=>obtain⟨v,_,_,hf⟩:=h;exact hf.elim
 case tup l=>obtain⟨v,_,_,hf⟩:=h;exact hf.elim
 all_goals
  obtain⟨v,rfl,h1,c⟩:=h;have a:=aW (hs:=hs) c;simp only[AV.fgt]at a ⊢;first
   | exact⟨v,rfl,h1,a⟩
   | (split at a<;>rename_i b<;>first|(rw[DO b];exact⟨v,rfl,h1,a⟩)|(rw[BY b];exact⟨v,rfl,h1,a⟩))
theorem Pf {V:Vw} {hs:List Nat}:∀ {l:List AV} {cs:List Value},DX V l cs->DX (V.buts hs) (AV.fgts hs l) cs
 | [],cs,h=>(h:cs=[])
 | x :: r,cs,h=>by
  obtain⟨c1,c2,rfl,h1,a⟩:=h;simp only[AV.fgts];exact⟨c1,c2,rfl,A4f h1,Pf a⟩
theorem A4g {V:Vw} {hs:List Nat} {x:AV} {v:Value} (hx:Sx V x v):Sx (V.buts hs) (x.fgt hs) v:=by
 cases x;case ag l=>obtain⟨cs,h1,a⟩:=hx;simp only[AV.fgt];exact⟨cs,h1,Pf a⟩
 all_goals exact Sx.of1 (aW hx)
theorem fA {V:Vw} {hs:List Nat}:∀ {l:List AV} {a:List Value},H5 V l a->H5 (V.buts hs) (AV.fgts hs l) a
 | [],a,h=>(h:a=[])
 | x :: r,a,h=>by
  obtain⟨v,c,rfl,h1,b⟩:=h;simp only[AV.fgts];exact⟨v,c,rfl,A4g h1,fA b⟩
theorem UV {V:Vw} {hs:List Nat} {x:AV} {v:Value} (h:B2 V x v):B2 (V.buts hs) (x.fgt hs) v:=by
 cases x;case ag l=>obtain⟨cs,h1,a⟩:=h;simp only[AV.fgt];exact⟨cs,h1,Pf a⟩
 case tup l=>obtain⟨b,h1,a⟩:=h;simp only[AV.fgt];exact⟨b,h1,fA a⟩
 all_goals exact A4d (aW h)
theorem El (hs:List Nat) (s:Nat):∀l:List (Nat×AV),lk s (CU hs l)=(lk s l).map (AV.fgt hs)
 | []=>rfl
 | (j,v) :: l=>by
  simp only[CU,lk];split
  .rfl
  exact El hs s l
theorem S5 (hs:List Nat):∀l:List AV,(AV.fgts hs l).length=l.length
 | []=>rfl
 | _ :: r=>by simp[AV.fgts,S5 hs r]
theorem B7 (hd hs:List Nat) (n:Nat):∀l:List (Nat×Obj),lk n (Ay hd hs l)=if AU n hd=true then none else (lk n l).map (Obj.fgt hs)
 | []=>by simp[Ay,lk]
 | (j,o) :: l=>by
  simp only[Ay];by_cases a:AU j hd=true
  .rw[DO a,B7 hd hs n l];grind [lk]
  rw[BY a];simp only[lk];by_cases hn:n=j
  .subst hn;simp[a]
  simp[hn,B7 hd hs n l]
theorem aX {V V':Vw} {hs:List Nat} (hk:Cl (V.buts hs) V') {o:Obj} {loc:Value} (hb:∀b,bk loc b->V'.w.heap[b]?=V.w.heap[b]?) (h:A5 V o loc):A5 V' (o.fgt hs) loc:=by
 cases o with
 | arr et e xs=>exact A5.keeps (V:=V.buts hs) hk hb h
 | box et st fs =>
  obtain⟨h0,b,cs,hl,hh,c⟩:=h;exact A5.keeps (V:=V.buts hs) (o:=.box et st (AV.fgts hs fs)) hk hb ⟨λd=>by rw[S5];exact h0 d,b,cs,hl,hh,Pf c⟩
 | mapo k v l=>exact A5.keeps (V:=V.buts hs) hk hb h
 | nest et f k e xs hl=>exact A5.keeps (V:=V.buts hs) (o:=.nest et f k e xs hl) hk hb (Mp (V:=V) (V':=V.buts hs) rfl rfl h)
 | frame g fs =>
  obtain⟨h0,h1⟩:=h;refine A5.keeps (V:=V.buts hs) (o:=.frame g (CU hs fs)) hk hb ⟨h0,λs z a=>?_⟩;rw[El]at a;simp only[OR]at a;obtain⟨y,hy,rfl⟩:=a;exact UV (h1 s y hy)
 | loop L=>exact A5.keeps (V:=V.buts hs) hk hb h
 | itr j p m n i=>exact A5.keeps (V:=V.buts hs) hk hb h
 | dfr=>exact A5.keeps (V:=V.buts hs) hk hb h
section
variable {w0:World} {K O0:Nat->Prop} {nt:Nat} {ds:Fp} {σ:St} {ρ:Nat->Value} {a:Act} {w:World}
theorem CA.swap (h:CA w0 K O0 nt ds σ ρ a w) (F:∀b,K b->b<w0.heap.size) (Z:∀b,O0 b->b<w0.heap.size) {T:Nat->Prop} (hT:∀n,T n->G8 n=false/\∃o,lk n σ.objs=some o/\seat (ρ n))
  {new:List (Nat×Obj)} {σ':St} {ρ':Nat->Value} {w':World} {dst:Option Nat} {u:Value}
  (S:w'.os=w.os) (X:w'.tape=w.tape) (U:w'.output=w.output) (W:w.heap.size<=w'.heap.size)
  (J:∀b,b<w.heap.size->(∀n,T n->¬bk (ρ n) b)->w'.heap[b]?=w.heap[b]?)
  (q:∀n o,lk n σ'.objs=some o->lk n new=none->¬T n/\∃d,lk n σ.objs=some d)
  (L:∀n o,lk n σ.objs=some o->¬T n->lk n new=none/\∃d,lk n σ'.objs=some d)
  (j:∀n,lk n new=none->ρ' n=ρ n)
  (B:∀n o b,lk n new=some o->bk (ρ' n) b->(∃m,T m/\bk (ρ m) b)\/w.heap.size<=b)
  (G:∀n m o r b,lk n new=some o->lk m new=some r->bk (ρ' n) b->bk (ρ' m) b->n=m)
  (R:∀n o,lk n σ'.objs=some o->A5 (vw w' O0 σ' ρ') o (ρ' n))
  (H:∀s v,lk s σ'.env=some v->B2 (vw w' O0 σ' ρ') v ((a.put dst u).tmps.getD s undef)) :
  CA w0 K O0 nt ds σ' ρ' (a.put dst u) w':=by
 have aa:∀m,T m->∀b,bk (ρ m) b->b<w.heap.size:=λm c b hb=>by
  obtain⟨_,o,g,_⟩:=hT m c;exact(h.objs m o g).block_lt hb
 have y:∀m,T m->∀b,bk (ρ m) b->¬K b/\¬O0 b:=λm c b hb=>by
  obtain⟨_,o,g,_⟩:=hT m c;exact h.free m b ⟨o,g⟩ hb
 refine⟨⟨S.trans h.frm.os,X.trans h.frm.tape,U.trans h.frm.output,SX h.frm.size W,λk hk=>?_⟩,by rw[PT];exact h.nt,by rw[KT];exact h.defers,λp V=>?_,R,?_,?_,H⟩
 .exact(J k (AAj (F k hk) h.frm.size) λn hn hb=>(y n hn k hb).1 hk).trans (h.frm.block k hk)
 .obtain⟨⟨o,h1⟩,f,i⟩:=h.pin p V;have N:¬T p.1:=λht=>by
   obtain⟨hf,_,_,hs⟩:=hT _ ht;rw[f]at hs;rcases i with i|i
   .rcases hs with ⟨_,_,_,x⟩|⟨_,x⟩<;>rw[x]at i<;>cases i
   rw[hf]at i;cases i
  obtain⟨D,E⟩:=L p.1 o h1 N;exact⟨E,(j _ D).trans f,i⟩
 .intro n b hl hb;obtain⟨o,g⟩:=hl;cases hn:lk n new with
  | none =>
   obtain⟨_,d,h1⟩:=q n o g hn;rw[j n hn]at hb;exact h.free n b ⟨d,h1⟩ hb
  | some e =>
   rcases B n e b hn hb with ⟨m,c,t⟩|I
   .exact y m c b t
   have:=h.frm.size;grind
 have key:∀n m o e b,lk n σ'.objs=some o->lk n new=none->lk m new=some e->bk (ρ' n) b->bk (ρ' m) b->False:=by
  intro n m o e b g hn c h1 f;obtain⟨O,d,l⟩:=q n o g hn;rw[j n hn]at h1;rcases B m e b c f with ⟨C,z,t⟩|I
  .obtain⟨_,Y,Q,_⟩:=hT C z;have:=h.dist n C b ⟨d,l⟩ ⟨Y,Q⟩ h1 t;exact O (this▸z)
  have ab:b<w.heap.size:=(h.objs n d l).block_lt h1;omega
 intro n m b hl M h1 f;obtain⟨o,g⟩:=hl;obtain⟨r,A⟩:=M;cases hn:lk n new with
 | none =>
  cases c:lk m new with
  | none =>
   obtain⟨_,d,l⟩:=q n o g hn;obtain⟨_,e,P⟩:=q m r A c;rw[j n hn]at h1;rw[j m c]at f;exact h.dist n m b ⟨d,l⟩ ⟨e,P⟩ h1 f
  | some e=>exact(key n m o e b g hn c h1 f).elim
 | some d =>
  cases c:lk m new with
  | none=>exact(key m n r d b A c hn f h1).elim
  | some e=>exact G n m d e b hn c h1 f
end
end
section
open Go Go.RowKit
structure RF (V V':Vw) (n:Nat) (hs:List Nat):Prop where
 O:∀b,b<V.w.heap.size->¬V.O b->¬V'.O b
 L:∀m,V.L m->AU m hs=false->V'.L m
 ρ:∀m,V.L m->AU m hs=false->m≠n->V'.ρ m=V.ρ m
 tup:∃vs,V.ρ n=.tuple vs
 plc:plc (V'.ρ n)=plc (V.ρ n)
 heap:∀b,b<V.w.heap.size->¬V.O b->V'.w.heap[b]?=V.w.heap[b]?
section
variable {V V':Vw} {n:Nat} {hs:List Nat}
theorem RF.pl (h:RF V V' n hs) {m:Nat} (a:V.L m) (b:AU m hs=false):Fw.plc (V'.ρ m)=Fw.plc (V.ρ m):=by
 by_cases e:m=n
 .subst e;exact h.plc
 rw[h.ρ m a b e]
theorem RF.ptr (h:RF V V' n hs) {m:Nat} (b:V.L m) (c:AU m hs=false) {v:Value} (d:V.ρ m=v) (f:∀a,v≠.tuple a):V'.ρ m=v:=by
 have e:m≠n:=λe=>by
  obtain⟨a,h1⟩:=h.tup;grind
 rw[h.ρ m b c e,d]
theorem aY (h:RF V V' n hs) {x:AV} {v:Value} (hx:VR V x v):VR V' (x.trn n hs) v:=by
 cases x;case ag l=>exact hx.elim
 case tup l=>exact hx.elim
 case p t d=>simp only[AV.trn];exact BV.mono h.O h.heap hx
 case pc e d=>simp only[AV.trn];exact⟨BV.mono h.O h.heap hx.1,hx.2⟩
 case raw u=>simp only[AV.trn];exact hx
 case fn f=>simp only[AV.trn];exact hx
 case top=>trivial
 case ip t d =>
  simp only[AV.trn];obtain⟨ad,cs,g,k,o,z⟩:=hx;have q:ad.block<V.w.heap.size:=by
   have E:=t.size_pos;have hl:=z.length;have:=block_lt_of_cell (o 0 (cs[0]'(by omega)) (AT oa))
   rwa [CH]at this
  refine⟨ad,cs,g,h.O _ q k,λj u A=>?_,Bx.mono h.O h.heap z⟩;rw[ABI (w:=V.w) (w':=V'.w)]
  .exact o j u A
  rw[CH];exact h.heap _ q k
 case sr m e lo hi =>
  simp only[AV.trn];split
  .trivial
  rename_i a;have a:AU m hs=false:=by simpa using a
  exact⟨h.L m hx.1 a,by rw[h.pl hx.1 a];exact hx.2⟩
 case ep m e i C off =>
  simp only[AV.trn];split
  .trivial
  rename_i a;have a:AU m hs=false:=by simpa using a
  exact⟨h.L m hx.1 a,by rw[h.pl hx.1 a];exact hx.2⟩
 case nin m e i len =>
  simp only[AV.trn];split
  .trivial
  rename_i a;have B:m≠n:=λe=>a (.inl e);have r:AU m hs=false:=by grind
  exact⟨h.L m hx.1 r,by rw[h.ρ m hx.1 r B];exact hx.2⟩
 case bp m C off =>
  simp only[AV.trn];split
  .trivial
  rename_i a;have a:AU m hs=false:=by simpa using a
  obtain⟨c,b,hb,g⟩:=hx;exact⟨h.L m c a,b,h.ptr c a hb (λ_ e=>by cases e),g⟩
 case mp m =>
  simp only[AV.trn];split
  .trivial
  rename_i a;have a:AU m hs=false:=by simpa using a
  obtain⟨c,b,hb,g⟩:=hx;exact⟨h.L m c a,b,h.ptr c a hb (λ_ e=>by cases e),g⟩
 case yl m =>
  simp only[AV.trn];split
  .trivial
  rename_i a;have a:AU m hs=false:=by simpa using a
  obtain⟨c,b,hb,g⟩:=hx;exact⟨h.L m c a,b,h.ptr c a hb (λ_ e=>by cases e),g⟩
 case clo f ns =>
  simp only[AV.trn];split
  .trivial
  rename_i D;have s:∀m∈ns,AU m hs=false:=λm a=>by grind
  have y:∀m∈ns,V'.ρ m=V.ρ m:=λm a=>by
   obtain⟨c,b,hb⟩:=hx.2 m a;rw[h.ptr c (s m a) hb (λ_ e=>by cases e),hb]
  refine⟨?_,λm a=>⟨h.L m (hx.2 m a).1 (s m a),by rw[y m a];exact(hx.2 m a).2⟩⟩;rw[hx.1]
  congr 2
  exact Of λm a=>(y m a).symm
theorem A4h (h:RF V V' n hs) {x:AV} {cs:List Value} (hx:NS V x cs):NS V' (x.trn n hs) cs:=by
 cases x;case p t d=>simp only[AV.trn];exact(Bx.mono h.O h.heap hx:Bx V'.w V'.O t cs d)
 case ag l=>obtain⟨v,_,_,hf⟩:=hx;exact hf.elim
 case tup l=>obtain⟨v,_,_,hf⟩:=hx;exact hf.elim
 all_goals
  obtain⟨v,rfl,h1,c⟩:=hx;have a:=aY h c;simp only[AV.trn]at a ⊢;first
   | exact⟨v,rfl,h1,a⟩
   | (split at a<;>rename_i b<;>first|(rw[DO b];exact⟨v,rfl,h1,a⟩)|(rw[BY b];exact⟨v,rfl,h1,a⟩))
theorem Pg (h:RF V V' n hs):∀ {l:List AV} {cs:List Value},DX V l cs->DX V' (AV.trns n hs l) cs
 | [],cs,hx=>(hx:cs=[])
 | x :: r,cs,hx=>by
  obtain⟨c1,c2,rfl,h1,a⟩:=hx;simp only[AV.trns];exact⟨c1,c2,rfl,A4h h h1,Pg h a⟩
theorem A4i (h:RF V V' n hs) {x:AV} {v:Value} (hx:Sx V x v):Sx V' (x.trn n hs) v:=by
 cases x;case ag l=>obtain⟨cs,h1,a⟩:=hx;simp only[AV.trn];exact⟨cs,h1,Pg h a⟩
 all_goals exact Sx.of1 (aY h hx)
theorem fB (h:RF V V' n hs):∀ {l:List AV} {a:List Value},H5 V l a->H5 V' (AV.trns n hs l) a
 | [],a,hx=>(hx:a=[])
 | x :: r,a,hx=>by
  obtain⟨v,c,rfl,h1,b⟩:=hx;simp only[AV.trns];exact⟨v,c,rfl,A4i h h1,fB h b⟩
theorem aZ (h:RF V V' n hs) {x:AV} {v:Value} (hx:B2 V x v):B2 V' (x.trn n hs) v:=by
 cases x;case ag l=>obtain⟨cs,h1,a⟩:=hx;simp only[AV.trn];exact⟨cs,h1,Pg h a⟩
 case tup l=>obtain⟨b,h1,a⟩:=hx;simp only[AV.trn];exact⟨b,h1,fB h a⟩
 all_goals exact A4d (aY h hx)
theorem Hq (n:Nat) (hs:List Nat) (s:Nat):∀l:List (Nat×AV),lk s (FI n hs l)=(lk s l).map (AV.trn n hs)
 | []=>rfl
 | (j,v) :: l=>by
  simp only[FI,lk];split
  .rfl
  exact Hq n hs s l
theorem S6 (n:Nat) (hs:List Nat):∀l:List AV,(AV.trns n hs l).length=l.length
 | []=>rfl
 | _ :: r=>by simp[AV.trns,S6 n hs r]
theorem EZ (n:Nat) (hs:List Nat) (m:Nat):∀l:List (Nat×Obj),lk m (DT n hs l)=if AU m (n :: hs)=true then none else (lk m l).map (Obj.trn n hs)
 | []=>by simp[DT,lk]
 | (j,o) :: l=>by
  simp only[DT];by_cases a:AU j (n :: hs)=true
  .rw[DO a,EZ n hs m l];grind [lk]
  rw[BY a];simp only[lk];by_cases b:m=j
  .subst b;simp[a]
  simp[b,EZ n hs m l]
theorem qY (h:RF V V' n hs) {o:Obj} {loc:Value} (hb:∀b,bk loc b->V'.w.heap[b]?=V.w.heap[b]?) (hx:A5 V o loc):A5 V' (o.trn n hs) loc:=by
 have hk:Cl ⟨V.w,V.O,λ_=>False,V.ρ⟩ V':=⟨h.O,λ_ h=>h.elim,λ_ h=>h.elim,h.heap⟩;cases o with
 | arr et e xs=>exact A5.keeps (V:=⟨V.w,V.O,λ_=>False,V.ρ⟩) (o:=.arr et e xs) hk hb hx
 | box et st fs =>
  obtain⟨h0,b,cs,rfl,h1,c⟩:=hx;exact⟨λd=>by rw[S6];exact h0 d,b,cs,rfl,(hb b (.inl rfl)).trans h1,Pg h c⟩
 | mapo k v l=>exact A5.keeps (V:=⟨V.w,V.O,λ_=>False,V.ρ⟩) (o:=.mapo k v l) hk hb hx
 | nest et g k e xs hl=>exact A5.keeps (V:=⟨V.w,V.O,λ_=>False,V.ρ⟩) (o:=.nest et g k e xs hl) hk hb (Mp (V:=V) (V':=⟨V.w,V.O,λ_=>False,V.ρ⟩) rfl rfl hx)
 | frame q fs =>
  obtain⟨h0,h1⟩:=hx;refine⟨h0,λs z a=>?_⟩;rw[Hq]at a;simp only[OR]at a;obtain⟨y,hy,rfl⟩:=a;exact aZ h (h1 s y hy)
 | loop L=>exact A5.keeps (V:=⟨V.w,V.O,λ_=>False,V.ρ⟩) (o:=.loop L) hk hb hx
 | itr i p j m f=>exact A5.keeps (V:=⟨V.w,V.O,λ_=>False,V.ρ⟩) (o:=.itr i p j m f) hk hb hx
 | dfr=>exact A5.keeps (V:=⟨V.w,V.O,λ_=>False,V.ρ⟩) (o:=.dfr) hk hb hx
end
end
section
open Go Go.RowKit
theorem lW {t:Ty} (h:t.cell1=true):t.size=1:=by cases t<;>simp[Ty.cell1]at h<;>rfl
theorem Yl {V:Vw} {ty:Ty} {x:AV} {a:List Value} (hx:NS V x a) (hf:PK ty x=true):a.length=ty.size:=by
 by_cases ht:x=.top
 .subst ht;obtain⟨v,rfl,_⟩:=hx;grind [PK,lW]
 have hf:Ca ty x=true:=by cases x<;>first|exact hf|exact absurd rfl ht
 exact(lQ hx hf).1
theorem vU {V:Vw} {ty:Ty} {st:Bool} {fs j:List AV} {o:List Nat} {off:Nat} {u v:AV} {cs c:List Value} (f:DX V fs cs) (F:st=false->fs.length=1)
  (h:Lb st fs v o=some j) (g:Q7 fs o=some off) (hl:K7 st fs o=some u) (hu:PK ty u=true) (M:Ca ty v=true)
  (I:∀l,v=.ag l->DX V l c) (n:(∀l,v≠.ag l)->NS V v c) (J:c.length=ty.size) :
  off+c.length<=cs.length/\DX V j (A4 cs off c)/\(st=false->j.length=1):=by
 unfold Lb at h;split at h
 .simp only[Q7]at g;cases g;simp only[K7]at hl;cases st with
  | true =>
   simp only[AAd]at h hl;cases hl;have L:cs.length=ty.size:=by
    have:=f.length;cases ty<;>simp only[PK,Ca]at hu<;>try(cases hu;done)
    grind [Ty.size]
   rw[Dk oa];split at h
   .grind [NS,Bx,A01]
   .grind
   cases h
  | false =>
   simp only[AA0,AAp]at h hl;split at h
   .rename_i b;have b:∀l,v≠.ag l:=λl e=>by subst e;simp[Ss]at b
    cases h;obtain⟨x,rfl⟩:=AAS.1 (F rfl);simp at hl;subst hl;obtain⟨c1,c2,rfl,h1,a⟩:=f;have a:c2=[]:=a;subst a;have A:=Yl h1 hu;rw[UL,Dk oa];exact⟨by omega,⟨c,[],by simp,n b,rfl⟩,by simp⟩
   cases h
 .rename_i k;split at h
  .rename_i q;simp only[An]at q;obtain⟨rfl,b⟩:=q;have b:∀l,v≠.ag l:=λl e=>by subst e;simp[Ss]at b
   cases h;simp only[K7,AAd]at hl;obtain⟨h1,a⟩:=f.get hl;have A:=Yl a hu;have H:=a.length;have E:off=CM fs k:=by grind [Q7,NQ]
   subst E;have i:=n b;have m:=i.length;exact⟨by omega,f.set hl i oa,by simp⟩
  cases h
 rename_i k r K;cases st with
 | false=>simp at h
 | true =>
  simp only[AAd]at h;split at h
  .rename_i t d G x hk;simp only[OR]at h;obtain⟨y,hy,rfl⟩:=h;simp only[Q7,hk,OR]at g;obtain⟨N,D,rfl⟩:=g;obtain⟨h1,a⟩:=f.get hk;have z:Bx V.w V.O t _ d:=a;have i:Bx V.w V.O G c x:=n sc;obtain⟨m,B⟩:=VW hy D z i;have C:=a.length;simp only[AV.cells]at h1 C B m;have s:=f.set (y:=.p t y) hk (m:Bx V.w V.O t _ y) rfl;rw[Nb _ _ _ _ _ oa h1]at s;exact⟨by omega,s,by simp⟩
  cases h
section
variable {P:Program} {tb:Tb} {w0:World} {K O0:Nat->Prop} {nt:Nat} {ds:Fp} {σ σ':St} {ρ:Nat->Value} {a:Act} {w:World} {vc:Prop}
theorem S7 {n:Nat} {o:Obj} (hn:lk n σ.objs=some o) {g:Nat} (hb:blk (ρ n)=some g) {w':World} (c:w.grownBy w' (some g)):Cl (vw w O0 σ ρ) (vw w' O0 σ ρ) :=
 ⟨λ_ _ h=>h,λ_ h=>h,λ_ _=>rfl,λb d a=>c.block b d (λe=>by injection e with e;subst e;exact a (.inr ⟨n,⟨o,hn⟩,.inl hb⟩))⟩
theorem Ft (w:World) (g:Nat) (cs:Array Value):w.grownBy (w.setRow g cs) (some g) :=
 ⟨rfl,rfl,rfl,by simp,λk _ hk=>setRow_other w g k cs (λe=>hk (by rw[e]))⟩
theorem Lm {id:TypeId} {ti:TI} (hT:EK P tb id ti) {g off:Nat} {cs:List Value} {et:TypeId} {xv:Value} (hh:w.heap[g]?=some (.cells cs.toArray et (0,0))) (hs:xv.cells.size=ti.ty.size)
  (hl:off+xv.cells.toList.length<=cs.length) (h1:∀u∈xv.cells.toList,u.oneCell'=true) :
  (Instr.storeAt id (.pointer (some ⟨g,off,none⟩)) xv).run P w=.ok () (w.setRow g (A4 cs off xv.cells.toList).toArray):=by
 have a:=run_storeCells_at P g off et xv.cells.toList 0 cs.toArray w hh (by simpa using hl) h1;simp only[Nat.add_zero]at a;have b:¬xv.cells.size≠ti.ty.size:=by omega
 simp only[Instr.storeAt,Instr.sureAddr,storeVar,AAm,ABa,tO,H7 w hT,BY b,a];rfl
theorem qZ {o:Oper} {w':World} {next:Act->World->Prop} {Q:Exit->Act->World->Prop} {r:Option Nat} (h:(execOp a.eval o).run P w=.ok .skip w') (hn:next (a.put o.dst undef) w') (b:∀c,o.op≠.defer c:=by intro c e;cases e):o.wpIn (FR r) 0 P a w next Q:=by
 refine⟨λ_ _=>trivial,?_⟩;rw[Gk _ _ _ b,h];exact hn
theorem vV (hs:CA w0 K O0 nt ds σ ρ a w) (ah:∀b,K b->b<w0.heap.size) (hT:DC P tb) {id:TypeId} {x y:Operand} (bp:∀n e i s off,Aq σ x=some (.ep n e i s off)->DA (lk n σ.objs)=false) (h:JE σ (lk id tb.ty) (Aq σ x) (Aq σ y)=some (vc,σ')) (cu:vc) :
  ∃w',(Instr.storeAt id (a.eval x) (a.eval y)).run P w=.ok () w'/\CA w0 K O0 nt ds σ' ρ a w':=by
 have F:HX (vw w O0 σ ρ) σ a.eval:=Fs hs.env;unfold JE at h;split at h
 .rename_i ti n s off v ht hx hy;have ab:=F x _ hx;have C:=F y _ hy;cases hn:lk n σ.objs with
  | none=>rw[hn]at h;simp[Dh]at h
  | some o =>
   rw[hn]at h;cases o with
   | arr et e xs=>simp[Dh]at h
   | mapo k v l=>simp[Dh]at h
   | frame ci fs=>simp[Dh]at h
   | loop L=>simp[Dh]at h
   | itr cd cg ce cf cb=>simp[Dh]at h
   | dfr=>simp[Dh]at h
   | nest et cc k e xs hl=>simp[Dh]at h
   | box et st fs =>
    simp only[Dh]at h;cases H:K7 st fs s with
    | none=>rw[H]at h;simp[Fl]at h
    | some u =>
     cases X:Lb st fs v s with
     | none=>rw[H,X]at h;simp[Fl]at h
     | some cm =>
      rw[H,X]at h;simp only[Fl]at h;split at h
      .rename_i au;obtain⟨hu,Z,bq,_⟩:=au;cases h;obtain⟨bv,b,cs,T,B,be⟩:=hs.objs n _ hn;obtain⟨bc,ck,f,aa⟩:=ab;have f:ρ n=_:=f;rw[T]at f;injection f with f
       injection f with f
       injection f with f
       subst f;have G:=zZ C Z (Nc C Z);have ai:∀l,v=.ag l->DX (vw w O0 σ ρ) l (a.eval y).cells.toList:=by
        intro l e;subst e;obtain⟨cl,t,bf⟩:=C;rw[t];simpa[Value.cells] using bf
       obtain⟨h1,N,az⟩:=vU be bv X bq H hu Z ai (λI=>G.2 I) (by simpa using G.1);have bs:∀z∈(a.eval y).cells.toList,z.oneCell'=true:=by
        by_cases I:∃l,v=.ag l
        .obtain⟨l,e⟩:=I;exact(ai l e).one
        exact(G.2 (λl e=>I ⟨l,e⟩)).one
       have W:=Lm (hT _ _ ht) B G.1 h1 bs;rw[aa];refine⟨_,W,?_⟩;have hb:blk (ρ n)=some b:=by rw[T];rfl
       refine hs.upd ah hn hb (Ft w b _) ⟨az,b,_,T,setRow_heap w b _ _ et _ B,?_⟩;exact N.keeps (S7 hn hb (Ft w b _))
      cases h
 .rename_i ti n e i s off v ht hx hy;have ab:=F x _ hx;have C:=F y _ hy;cases hn:lk n σ.objs with
  | none=>rw[hn]at h;simp[Di]at h
  | some o =>
   rw[hn]at h;cases o with
   | box et st fs=>simp[Di]at h
   | mapo k v l=>simp[Di]at h
   | frame ci fs=>simp[Di]at h
   | loop L=>simp[Di]at h
   | itr cd cg ce cf cb=>simp[Di]at h
   | dfr=>simp[Di]at h
   | nest et cc k e xs hl=>have:=bp _ _ _ _ _ hx;rw[hn]at this;cases this
   | arr et d xs =>
    simp only[Di]at h;cases R:BQ (.slice e) ⟨.slice d,xs⟩ with
    | none=>rw[R]at h;simp[E7]at h
    | some ys =>
     obtain⟨rfl,N⟩:=Bk R;cases N;rw[R]at h;cases Q:NR false σ ti.ty v with
     | none=>rw[Q]at h;simp[E7]at h
     | some cj =>
      rw[Q]at h;simp only[E7]at h;cases Y:YH s d (xs.getD i d.dflt) ⟨ti.ty,cj⟩ with
      | none=>rw[Y]at h;simp[Gi]at h
      | some z =>
       rw[Y]at h;simp only[Gi]at h;split at h
       .rename_i br;cases h;obtain⟨bn,cells,J,E⟩:=hs.objs n _ hn;obtain⟨bc,g,m,c,f,U,aa⟩:=ab;have f:plc (ρ n)=_:=f;have J:w.ownsRow 0 et d.size (ρ n) xs.length cells:=J;rw[HW J]at f;have E:De w (own O0 σ ρ) d cells xs:=E;have bz:=LB (V:=vw w O0 σ ρ) (O':=own O0 σ ρ) (λ_ h=>h) (λh=>by cases h) hs.objs Q C;obtain⟨ar,aq⟩:=Yf bz;obtain⟨ap,bt⟩:=J;rcases bt with ⟨t,_⟩|⟨cn,cap,r,t,cp,B,ak,bd,S,bw⟩
        .grind
        rw[f]at t;injection t with A bg bh
        injection A with A
        injection A with A
        subst A;subst bg;have ca:xs[i]?=some (xs.getD i d.dflt):=by
         rw[AT U,AS,AT U];rfl
        obtain⟨af,bj,am,bi⟩:=E i _ ca;obtain⟨ba,bb⟩:=VW Y br bi aq;have co:cells.length=xs.length*d.size:=ap;have bl:(i+1)*d.size<=xs.length*d.size:=UI _ U;have cq:xs.length*d.size<=cap*d.size:=UI _ ak;rw[AAt]at bl;have aj:i*d.size+off+(a.eval y).cells.toList.length<=r.toList.length:=by
         have bm:r.toList.length=cap*d.size:=by rw[<-S];simp
         have ct:(a.eval y).cells.toList.length=ti.ty.size:=by rw[<-ar];simp
         omega
        have bk:w.heap[g]?=some (.cells r.toList.toArray et (0,0)):=by simpa using B
        have W:=Lm (hT _ _ ht) bk ar aj aq.one;rw[aa];refine⟨_,W,?_⟩;have hb:blk (ρ n)=some g:=by rw[f];rfl
        have bu:(A4 r.toList (i*d.size+off) (a.eval y).cells.toList).length=r.size:=by rw[FA aj];simp
        have bx:(A4 r.toList (i*d.size+off) (a.eval y).cells.toList).take (xs.length*d.size)=A4 cells (i*d.size+off) (a.eval y).cells.toList:=by
         rw[<-bw];apply ABB;intro j;simp only[A4,SZ,UP,AAa,OS,AA9,List.take_take];have ad:min (i*d.size+off) r.toList.length=i*d.size+off:=by omega
         have D:min (i*d.size+off) (xs.length*d.size)=i*d.size+off:=by omega
         have ch:min (xs.length*d.size) r.toList.length=xs.length*d.size:=by
          have bm:r.toList.length=cap*d.size:=by rw[<-S];simp
          omega
         simp only[ad,D,ch];by_cases c1:j<i*d.size+off
         .simp[c1,show j<xs.length*d.size by omega]
         by_cases c2:j-(i*d.size+off)<(a.eval y).cells.toList.length
         .simp only[c1,c2,AAp,AAd,show j<xs.length*d.size by omega]
         simp only[c1,c2,AAp];by_cases ae:j<xs.length*d.size
         .rw[DO ae,DO oa]
         rw[BY ae,BY oa]
        refine hs.upd ah hn hb (Ft w g _) ⟨by simpa using bn,A4 cells (i*d.size+off) (a.eval y).cells.toList,⟨?_,.inr ⟨g,cap,_,by rw[f,bh];simp,ON _,setRow_heap w g _ _ et _ B,by simpa using ak,bd,by simp[bu,S],?_⟩⟩,?_⟩
        .rw[FA oa];simpa using ap
        .simpa using bx
        have hk:=S7 (O0:=O0) hn hb (Ft w g (A4 r.toList (i*d.size+off) (a.eval y).cells.toList).toArray);have bo:De (vw w O0 σ ρ).w (vw w O0 σ ρ).O d (A4 cells (i*d.size+off) (a.eval y).cells.toList) (xs.set i z):=by
         intro k q M;rw[AAh]at M;split at M
         .rename_i an;subst an;cases M;refine⟨A4 af off (a.eval y).cells.toList,by rw[FA bb];exact bj,λj u p=>?_,ba⟩;simp only[A4,SZ,AAa,OS,UP,AA9]at p ⊢;have ad:min off af.length=off:=by omega
          have D:min (i*d.size+off) cells.length=i*d.size+off:=by omega
          simp only[ad]at p;simp only[D];by_cases c1:j<off
          .simp only[c1,AAd]at p;simp only[show i*d.size+j<i*d.size+off by omega,AAd];exact am _ _ p
          simp only[c1,AAp]at p;simp only[show ¬i*d.size+j<i*d.size+off by omega,AAp];rw[show i*d.size+j-(i*d.size+off)=j-off by omega];by_cases c2:j-off<(a.eval y).cells.toList.length
          .simp only[c2,AAd]at p ⊢;exact p
          simp only[c2,AAp]at p ⊢;have:=am _ _ p;rw[<-this]
          congr 1
          omega
         rename_i an;obtain⟨av,aw,ax,ay⟩:=E k q M;refine⟨av,aw,λj u p=>?_,ay⟩;have cr:=(On.1 p).1;have al:=ax j u p;simp only[A4,SZ,AAa,OS,UP,AA9];have D:min (i*d.size+off) cells.length=i*d.size+off:=by omega
         simp only[D];rcases Nat.lt_or_ge k i with ao|ao
         .have:(k+1)*d.size<=i*d.size:=UI _ ao;rw[AAt]at this;simp only[show k*d.size+j<i*d.size+off by omega,AAd];exact al
         have:(i+1)*d.size<=k*d.size:=UI _ oa;rw[AAt]at this;simp only[show ¬k*d.size+j<i*d.size+off by omega,AAp,show ¬k*d.size+j-(i*d.size+off)<(a.eval y).cells.toList.length by omega];rw[<-al]
         congr 1
         omega
        exact bo.keeps hk
       cases h
 cases h
theorem vW (hs:CA w0 K O0 nt ds σ ρ a w) (B:∀b,K b->b<w0.heap.size) (s:DC P tb) {t:TypeId} {m x y:Operand} (h:Le tb σ (lk t tb.ty) (Aq σ m) (Aq σ x) (Aq σ y)=some (vc,σ')) :
  ∃w',(Instr.mapUpdate t (a.eval m) (a.eval x) (a.eval y)).run P w=.ok () w'/\CA w0 K O0 nt ds σ' ρ a w':=by
 have g:HX (vw w O0 σ ρ) σ a.eval:=Fs hs.env;unfold Le at h;split at h
 .rename_i k e _ _ n xv S ht J hx hy;have N:=g x _ hx;have O:=g y _ hy;obtain⟨U,b,d,L⟩:=g m _ J;have d:ρ n=_:=d;cases hn:lk n σ.objs with
  | none=>rw[hn]at h;simp[Ge]at h
  | some o =>
   rw[hn]at h;cases o with
   | mapo W R l =>
    cases j:lk k tb.ty with
    | none=>simp[Ge,j]at h
    | some Q =>
     simp only[Ge,j,AAP,AAf]at h;split at h
     .rename_i E;obtain⟨rfl,F⟩:=E;cases f:NR false σ Q.ty xv with
      | none=>rw[f]at h;simp[HV]at h
      | some kd =>
       cases p:NR false σ R S with
       | none=>rw[f,p]at h;simp[HV]at h
       | some Y =>
        rw[f,p]at h;simp only[HV]at h;split at h
        .rename_i H;cases h;have h1:=LB (V:=vw w O0 σ ρ) (O':=own O0 σ ρ) (λ_ h=>h) (λh=>by cases h) hs.objs f N;have A:=LB (V:=vw w O0 σ ρ) (O':=own O0 σ ρ) (λ_ h=>h) (λh=>by cases h) hs.objs p O;obtain⟨T,r,q,c,M,⟨X,z⟩,G,D⟩:=A6Q (w:=w) (V:=vw w O0 σ ρ) s (s _ _ ht) (n:=n) rfl rfl j rfl (hs.objs n _ hn) F H h1 A;have c:ρ n=_:=c;rw[d]at c;injection c with c
         injection c with c
         subst c;rw[L];refine⟨_,M,?_⟩;have u:blk (ρ n)=some b:=by rw[d];rfl
         have v:w.grownBy { w with heap:=w.heap.setIfInBounds b (.map r q) } (some b) :=
          ⟨rfl,rfl,rfl,by simp,λi _ hi=>(MapKept.heap_set z).2 i (λe=>hi (by rw[e]))⟩
         refine hs.upd B hn u v ⟨b,r,q,d,(MapKept.heap_set z).1,?_⟩;refine⟨?_,D⟩;exact G.mono (λ_ _ h=>h) (λb2 I C=>v.block b2 I (λe=>by injection e with e;subst e;exact C (.inr ⟨n,⟨_,hn⟩,.inl u⟩)))
        cases h
     cases h
   | _=>simp[Ge]at h
 cases h
end
end
section
open Go Go.RowKit
section
variable {P:Program} {tb:Tb} {w0:World} {K O0:Nat->Prop} {nt:Nat} {ds:Fp} {σ σ':St} {ρ:Nat->Value} {a:Act} {w:World} {vc:Prop} {id:TypeId}
theorem UW {w:World} {base:Nat} {et:TypeId} {sz n:Nat} {s:Value} {xs:List Value} (h:w.ownsRow base et sz s n xs):s.ownBlock=blk s:=by
 rcases h.2 with ⟨rfl,_⟩|⟨g,cap,a,rfl,_⟩<;>rfl
theorem HY (t:DC P tb) {el:TypeId} {e:Ty} (hu:P.underlying id=some (.slice el)) {te:TI} (y:lk el tb.ty=some te) (H:te.ty=e) {base ty:Nat} {s xv:Value} {n:Nat} {xs B:List Value}
  (p:w.ownsRow base el e.size s n xs) {O:Nat->Prop} {ys:List e.den} (R:Src w O e xv ys B) (S:(n+ys.length)*te.bytes<=AP) {f:Value} {w':World}
  (h:(Builtin.append_ #[id,id] ty #[s,xv]).run P w=.ok f w'):blk f=blk s\/∀b,blk f=some b->w.heap.size<=b:=by
 subst H;obtain⟨⟨⟨_,F,_⟩,i,z,hi,k,v,A,ag⟩,_⟩:=t _ _ y;have N:n+ys.length<=AP:=by
  have:(n+ys.length)*1<=(n+ys.length)*te.bytes:=AAQ _ F;omega
 have aa:AP=140737488355328:=rfl;obtain⟨⟨a,c,rfl,E⟩,K,X,ae,Z⟩:=R;have hs:(sizeOf el).run P w=.ok te.ty.size w:=H7 w (t _ _ y);have ah:∀ {l C:Nat} {W:World},Result.ok (Value.slice (some ⟨w.heap.size,0,none⟩) l C) W=Result.ok f w'->blk f=blk s\/∀b,blk f=some b->w.heap.size<=b:=by grind [blk]
 have T:∀(ad:Addr) (m:Nat) (d:List Value),d.length=m*te.ty.size->(∀(j:Nat) (u:Value),d[j]?=some u->w.cell? (ad.add j)=some u)->(∀u∈d,u.oneCell'=true)->n+m<=AP->(n+m)*te.bytes<=AP ->
   (Builtin.append_ #[id,id] ty #[s,.slice (some ad) m c]).run P w=.ok f w'->blk f=blk s\/∀b,blk f=some b->w.heap.size<=b:=by
  intro ad m d hl o h1 Y hb h;rcases p.2 with ⟨rfl,rfl⟩|⟨g,cap,r,rfl,U,J,ab,V,G,af⟩
  .by_cases L:m=0
   .subst L;have:d=[]:=Sk (by simpa using hl);simp[Builtin.append_,Sb hu,hs,Builtin.lenOf,Builtin.firstCells,loadCells,loadCellsFrom]at h;grind
   have:=run_append_nil (P:=P) w id ty el i z hu hi A ad m c d (by rw[k];exact hl) o oa oa (by rw[v];simp at hb;omega);grind
  by_cases x:n+m<=cap
  .have I:n*i.size+d.length<=r.size:=by
    rw[hl,k,G,<-ABz];exact UI _ x
   have:=run_append_room (P:=P) w id ty el i hu hi g n cap r J ad m c d (by rw[k];exact hl) o h1 x I;rw[this]at h;injection h with q D
   subst q;exact .inl rfl
  have Q:∀j u,xs[j]?=some u->w.cell? ((⟨g,0,none⟩:Addr).add j)=some u:=p.cells (g:=g) rfl;have:=run_append_grow (P:=P) w id ty el i z hu hi A ⟨g,0,none⟩ n cap xs (by rw[k];exact p.1) Q ad m c d (by rw[k];exact hl) o oa oa (by rw[v];exact growslice_fits oa oa);grind
 rcases E with rfl|⟨ad,rfl,o⟩
 .have M:B=[]:=Sk (by simpa using K);subst M;cases a with
  | none =>
   have:=S0 (P:=P) (ty:=ty) hu hs p c;rw[show ([]:List te.ty.den).length=0 from rfl,this]at h;injection h with q D
   subst q;exact .inl rfl
  | some ad=>exact T ad 0 [] sc sc sc (by simpa using N) (by simpa using S) h
 grind
theorem lY {w:World} {O:Nat->Prop} {e:Ty} {c:List Value} {xs:List e.den} (h:De w O e c xs) (n:Nat):De w O e (c.take (n*e.size)) (xs.take n):=by
 intro i x hi;rw[UP]at hi;split at hi
 .rename_i g;obtain⟨a,b,k,d⟩:=h i x hi;refine⟨a,b,λj u f=>?_,d⟩;have l:=(On.1 f).1;have:(i+1)*e.size<=n*e.size:=UI _ g;grind
 cases hi
theorem lZ (hs:CA w0 K O0 nt ds σ ρ a w) (ab:∀b,K b->b<w0.heap.size) (ad:∀b,O0 b->b<w0.heap.size) (hT:DC P tb) {d:Option Nat} (hd:∀k,d=some k->k<nt) {t u ty:TypeId} {x y:Operand}
  (h:Ek tb σ d t u (Aq σ x) (Aq σ y)=some (vc,σ')) (an:vc) (ae:∃n e hi,Aq σ x=some (.sr n e 0 hi)/\DA (lk n σ.objs)=false) :
  ∃z w' ρ',(Builtin.append_ #[t,u] ty #[a.eval x,a.eval y]).run P w=.ok z w'/\CA w0 K O0 nt ds σ' ρ' (a.put d z) w':=by
 have M:HX (vw w O0 σ ρ) σ a.eval:=Fs hs.env;obtain⟨n0,Z,ai,V,Q⟩:=ae;unfold Ek at h;split at h
 .rename_i n e hi v hx hy;obtain⟨rfl,rfl,rfl⟩:n=n0/\e=Z/\hi=ai:=by rw[hx]at V;cases V;exact⟨rfl,rfl,rfl⟩
  split at h
  .rename_i d;split at h
   .rename_i G;obtain⟨G,ah⟩:=G;subst G;cases F:lk t tb.ty with
    | none=>rw[F]at h;simp[E8]at h
    | some ti =>
     rw[F]at h;unfold E8 at h;split at h
     .rename_i j offs el b i;cases i;split at h
      .rename_i af;subst af;obtain⟨hu,bc,te,E,S⟩:=CQ (hT _ _ F) hT;rw[E]at h;cases hn:lk n σ.objs with
       | none=>rw[hn]at h;cases f:Q1 σ j v<;>rw[f]at h<;>simp[Ck]at h
       | some o =>
        rw[hn]at h;cases o with
        | box et st fs=>cases f:Q1 σ j v<;>rw[f]at h<;>simp[Ck]at h
        | mapo ao v1 l=>cases f:Q1 σ j v<;>rw[f]at h<;>simp[Ck]at h
        | frame bl fs=>cases f:Q1 σ j v<;>rw[f]at h<;>simp[Ck]at h
        | loop L=>cases f:Q1 σ j v<;>rw[f]at h<;>simp[Ck]at h
        | itr bf bi bg bh bd=>cases f:Q1 σ j v<;>rw[f]at h<;>simp[Ck]at h
        | nest et be ao e1 xs hl=>rw[hn]at Q;cases Q
        | dfr=>cases f:Q1 σ j v<;>rw[f]at h<;>simp[Ck]at h
        | arr et e2 xs =>
         simp only[Ck]at h;split at h
         .rename_i ag;subst ag;cases s:BQ (.slice j) ⟨.slice e2,xs⟩ with
          | none=>rw[s]at h;simp[Fm]at h
          | some bm =>
           obtain⟨rfl,aa⟩:=Bk s;cases aa;rw[s]at h;cases f:Q1 σ e2 v with
           | none=>rw[f]at h;simp[Fm]at h
           | some ys =>
            rw[f]at h;simp only[Fm]at h;cases h;obtain⟨bj,D⟩:=UU hs.objs f (M y _ hy);obtain⟨bb,cells,q,A⟩:=hs.objs n _ hn;have q:w.ownsRow 0 et e2.size (ρ n) xs.length cells:=q;have A:De w (own O0 σ ρ) e2 cells xs:=A;obtain⟨aw,X,m,c,p,ba,ay,W,Y,H,ax,h0,h1⟩:=M x _ hx;have p:plc (ρ n)=.slice X m c:=p;rw[HW q]at p;obtain⟨rfl,rfl⟩:=h0 rfl;simp only[Nat.sub_zero]at H;have az:=q.1;have O:hi<=xs.length:=by
             rcases q.2 with ⟨i,al⟩|⟨g,cap,I,i,_⟩
             .rw[p]at i;injection i;omega
             rw[p]at i;injection i;omega
            have ak:hi*e2.size<=xs.length*e2.size:=UI _ O;have C:w.ownsRow 0 et e2.size (a.eval x) hi (cells.take (hi*e2.size)):=by
             rw[H];refine⟨by rw[OS];omega,?_⟩;rcases q.2 with ⟨i,al⟩|⟨g,cap,I,i,ap,aq,bk,ar,au,av⟩
             .rw[p]at i;injection i with e1 e2 r
              subst e1;subst r;have:hi=0:=by omega
              subst this;exact .inl ⟨rfl,rfl⟩
             rw[p]at i;injection i with e1 e2 r
             subst e1;subst r;refine .inr ⟨g,Y,I,rfl,ap,aq,by omega,ar,au,?_⟩;rw[<-av,List.take_take,AAK ak]
            have T:(hi+ys.length)*te.bytes<=AP:=an;obtain⟨z,w',R,am,N,aj⟩:=GP (ty:=ty) hT hu E S C D T (ON _);have U:=HY (ty:=ty) hT hu E S C D T R;have J:blk (a.eval x)=blk (ρ n):=by
             rw[H,p];cases W<;>rfl
            rw[J]at U;rw[UW C,J]at N;refine⟨z,w',Ex ρ n z,R,?_⟩;have B:(xs.take hi++ys).length=hi+ys.length:=by simp;omega
            exact hs.app ab ad ah hn N U (by rw[B];exact aj) (by rw[B];exact am) (KW (lY A hi) D.elems (by rw[OS,OS];rw[AAK O];omega)) (hd d rfl) B.symm
         cases h
      cases h
     cases h
   cases h
  cases h
 .grind
 .grind
 cases h
theorem Ms (n:Nat) (e:Ty) (xs:List e.den) (s:Nat):∀l:List (Nat×AV),lk s (DW n e xs l)=(lk s l).map (AV.frz n e xs)
 | []=>rfl
 | (j,v) :: l=>by
  simp only[DW,lk];split
  .rfl
  exact Ms n e xs s l
def Obj.frz (n:Nat) (e:Ty) (xs:List e.den):Obj->Obj
 | .arr et a ys=>.arr et a ys
 | .box et st fs=>.box et st (AV.frzs n e xs fs)
 | .mapo k v l=>.mapo k v l
 | .nest et c k e ys h=>.nest et c k e ys h
 | .frame j fs=>.frame j (DW n e xs fs)
 | .loop L=>.loop L
 | .itr d i f g b=>.itr d i f g b
 | .dfr=>.dfr
theorem CV (n:Nat) (e:Ty) (xs:List e.den) (s:Nat):∀l:List (Nat×Obj),lk s (BC n e xs l)=(lk s l).map (Obj.frz n e xs)
 | []=>rfl
 | (j,.arr et a ys) :: l=>by
  simp only[BC,lk];split
  .rfl
  exact CV n e xs s l
 | (j,.box et st fs) :: l=>by
  simp only[BC,lk];split
  .rfl
  exact CV n e xs s l
 | (j,.mapo k v x) :: l=>by
  simp only[BC,lk];split
  .rfl
  exact CV n e xs s l
 | (j,.nest _ _ _ _ _ _) :: l=>by
  simp only[BC,lk];split
  .rfl
  exact CV n e xs s l
 | (j,.frame h fs) :: l=>by
  simp only[BC,lk];split
  .rfl
  exact CV n e xs s l
 | (j,.loop L) :: l=>by
  simp only[BC,lk];split
  .rfl
  exact CV n e xs s l
 | (j,.itr c g d f b) :: l=>by
  simp only[BC,lk];split
  .rfl
  exact CV n e xs s l
 | (j,.dfr) :: l=>by
  simp only[BC,lk];split
  .rfl
  exact CV n e xs s l
theorem S8 (n:Nat) (e:Ty) (xs:List e.den):∀l:List AV,(AV.frzs n e xs l).length=l.length
 | []=>rfl
 | _ :: r=>by simp[AV.frzs,S8 n e xs r]
section
variable {V V':Vw} {n:Nat} {et:TypeId} {e:Ty} {xs:List e.den}
structure q9 (V V':Vw) (n:Nat):Prop where
 w:V'.w=V.w
 ρ:V'.ρ=V.ρ
 L:∀m,V.L m->m≠n->V'.L m
 O:∀b,¬V.O b->¬V'.O b
 n:∀b,bk (V.ρ n) b->¬V'.O b
theorem q9.keeps (h:q9 V V' n):Cl (V.but n) V':=⟨λb _ hb=>h.O b hb,λm a=>h.L m a.1 a.2,λm _=>by rw[h.ρ];rfl,λb _ _=>by rw[h.w];rfl⟩
structure Ph (V V':Vw) (n:Nat) (e:Ty) (xs:List e.den):Prop where
 seat:seat (V.ρ n)
 read:∀lo hi v,DP (plc (V.ρ n)) e.size lo hi v->Bx V'.w V'.O (.slice e) [v] (sub xs lo hi)
theorem fC {V:Vw} {et:TypeId} {e:Ty} {xs:List e.den} {loc:Value} (b:A5 V (.arr et e xs) loc):seat loc:=by
 obtain⟨_,cells',c,_⟩:=b;rcases c.2 with ⟨a,_⟩|⟨g,cap,d,a,_⟩
 .exact .inl ⟨_,_,_,a⟩
 exact .inl ⟨_,_,_,a⟩
theorem q9.arr (h:q9 V V' n) (a:A5 V (.arr et e xs) (V.ρ n)):Ph V V' n e xs:=⟨fC a,λlo hi v d=>by
 have c:=aL (V:=V) (O':=V'.O) h.O (λb hb=>h.n b (.inl hb)) a d
 rwa [<-h.w]at c⟩
theorem q9.nest (h:q9 V V' n) {d:TypeId} {k e:Ty} {xs:List (k.den×List e.den)} (a:A5 V (.nest et d k e xs none) (V.ρ n)):Ph V V' n (.agg (.prod k (.slice e))) xs:=⟨by
 obtain⟨o,ins,cells,hl,_⟩:=a;exact hl.elim (λh=>.inr ⟨_,h⟩) (λh=>.inl ⟨_,_,_,h.1⟩),λlo hi v c=>by
 have b:=eE (V:=V) (O':=V'.O) h.O h.n a c
 rwa [<-h.w]at b⟩
theorem a9 (h:q9 V V' n) (f:Ph V V' n e xs) {x:AV} {v:Value} (hx:VR V x v):VR V' (x.frz n e xs) v/\((∀t d,x≠.p t d)->∀t d,x.frz n e xs=.p t d->t.wrap [v]=v/\Bx V'.w V'.O t [v] d):=by
 have hk:=h.keeps;have b:=f.seat;cases x;case sr m c lo hi =>
  simp only[AV.frz];split
  .rename_i a;subst a;split
   .rename_i o;subst o;obtain⟨u,j⟩:=hx;have g:=f.read lo hi v j;obtain⟨_,_,_,_,_,_,r,s,k,_⟩:=j;refine⟨⟨[v],g,by rw[k];rfl⟩,λ_ t d h=>?_⟩;injection h with h1 l
    subst h1;cases l;exact⟨by rw[k];rfl,g⟩
   exact⟨trivial,λ_ t d h=>by cases h⟩
  rename_i a;have:=Ir b hx;simp only[AV.drp,BY a]at this;exact⟨this.keeps hk,λ_ t d h=>by cases h⟩
 case ep m c i y off =>
  have:=Ir b hx;simp only[AV.drp]at this;simp only[AV.frz];split
  .exact⟨trivial,λ_ t d h=>by cases h⟩
  rename_i a;rw[BY a]at this;exact⟨this.keeps hk,λ_ t d h=>by cases h⟩
 case nin m c i len =>
  have:=Ir b hx;simp only[AV.drp]at this;simp only[AV.frz];split
  .exact⟨trivial,λ_ t d h=>by cases h⟩
  rename_i a;rw[BY a]at this;exact⟨this.keeps hk,λ_ t d h=>by cases h⟩
 case p t d=>exact⟨(Ir b hx).keeps hk,λq=>absurd rfl (q t d)⟩
 all_goals
  have:=Ir b hx;simp only[AV.drp]at this;simp only[AV.frz];exact⟨this.keeps hk,λ_ t d h=>by cases h⟩
theorem A4j (h:q9 V V' n) (i:Ph V V' n e xs) {x:AV} {cs:List Value} (hx:NS V x cs):NS V' (x.frz n e xs) cs:=by
 by_cases c:∃t d,x=.p t d
 .obtain⟨t,d,rfl⟩:=c;simp only[AV.frz];have hx:Bx V.w V.O t cs d:=hx;have:Bx V'.w V'.O t cs d:=hx.mono (λb _ hb=>h.O b hb) (λb _ _=>by rw[h.w]);exact this
 have j:∃v,cs=[v]/\v.oneCell'=true/\VR V x v:=by
  cases x;case p t d=>exact absurd ⟨t,d,rfl⟩ c
  all_goals exact hx
 obtain⟨v,rfl,h1,g⟩:=j;obtain⟨f,a⟩:=a9 h i g;have a:=a (λt d e=>c ⟨t,d,e⟩);generalize hy:x.frz n e xs=y at f a;cases y;case p t d=>exact(a t d rfl).2
 all_goals exact⟨v,rfl,h1,f⟩
theorem Pi (h:q9 V V' n) (a:Ph V V' n e xs):∀ {l:List AV} {cs:List Value},DX V l cs->DX V' (AV.frzs n e xs l) cs
 | [],cs,hx=>(hx:cs=[])
 | x :: r,cs,hx=>by
  obtain⟨c1,c2,rfl,h1,b⟩:=hx;simp only[AV.frzs];exact⟨c1,c2,rfl,A4j h a h1,Pi h a b⟩
theorem A4k (h:q9 V V' n) (a:Ph V V' n e xs) {x:AV} {v:Value} (hx:Sx V x v):Sx V' (x.frz n e xs) v:=by
 cases x;case ag l=>obtain⟨cs,h1,b⟩:=hx;simp only[AV.frz];exact⟨cs,h1,Pi h a b⟩
 all_goals
  simp only[Sx]at hx;exact Sx.of1 (a9 h a hx).1
theorem fD (h:q9 V V' n) (b:Ph V V' n e xs):∀ {l:List AV} {a:List Value},H5 V l a->H5 V' (AV.frzs n e xs l) a
 | [],a,hx=>(hx:a=[])
 | x :: r,a,hx=>by
  obtain⟨v,d,rfl,h1,c⟩:=hx;simp only[AV.frzs];exact⟨v,d,rfl,A4k h b h1,fD h b c⟩
theorem rB (h:q9 V V' n) (b:Ph V V' n e xs) {x:AV} {v:Value} (hx:B2 V x v):B2 V' (x.frz n e xs) v:=by
 cases x;case ag l=>obtain⟨cs,h1,a⟩:=hx;simp only[AV.frz];exact⟨cs,h1,Pi h b a⟩
 case tup l=>obtain⟨c,h1,a⟩:=hx;simp only[AV.frz];exact⟨c,h1,fD h b a⟩
 all_goals
  simp only[B2]at hx;exact A4d (a9 h b hx).1
end
theorem fE (hs:CA w0 K O0 nt ds σ ρ a w) (n:Nat) (G:¬G8 n=true) {Q:Obj} (hn:lk n σ.objs=some Q) {e:Ty} {xs:List e.den}
  (M:q9 (vw w O0 σ ρ) (vw w O0 ⟨DW n e xs σ.env,BC n e xs (del n σ.objs)⟩ ρ) n->Ph (vw w O0 σ ρ) (vw w O0 ⟨DW n e xs σ.env,BC n e xs (del n σ.objs)⟩ ρ) n e xs) :
  CA w0 K O0 nt ds ⟨DW n e xs σ.env,BC n e xs (del n σ.objs)⟩ ρ a w:=by
 have A:∀m x,lk m (BC n e xs (del n σ.objs))=some x->m≠n/\∃y,lk m σ.objs=some y/\x=y.frz n e xs:=by
  intro m x c;rw[CV,RC]at c;split at c
  .simp at c
  rename_i r;simp only[OR]at c;grind
 have f:∀m,Gz ⟨DW n e xs σ.env,BC n e xs (del n σ.objs)⟩ m↔(Gz σ m/\m≠n):=by
  intro m;constructor
  .rintro⟨x,hx⟩;obtain⟨h1,y,d,_⟩:=A m x hx;exact⟨⟨y,d⟩,h1⟩
  rintro⟨⟨x,hx⟩,r⟩;exact⟨x.frz n e xs,by simp[CV,RC,r,hx]⟩
 have hF:q9 (vw w O0 σ ρ) (vw w O0 ⟨DW n e xs σ.env,BC n e xs (del n σ.objs)⟩ ρ) n:=by
  refine⟨rfl,rfl,λm h1 d=>(f m).2 ⟨h1,d⟩,λb hb q=>?_,λb hb q=>?_⟩
  .rcases q with h0|⟨m,hl,c⟩
   .exact hb (.inl h0)
   exact hb (.inr ⟨m,((f m).1 hl).1,c⟩)
  have hb:bk (ρ n) b:=hb;rcases q with h0|⟨m,hl,c⟩
  .exact(hs.free n b ⟨_,hn⟩ hb).2 h0
  exact((f m).1 hl).2 (hs.dist m n b ((f m).1 hl).1 ⟨_,hn⟩ c hb)
 have i:=M hF;have J:∀p∈ds.pin,Gz ⟨DW n e xs σ.env,BC n e xs (del n σ.objs)⟩ p.1/\ρ p.1=p.2/\(A6F p.2=true\/G8 p.1=true):=by
  intro p I;obtain⟨h1,d,h⟩:=hs.pin p I;refine⟨(f p.1).2 ⟨h1,λe2=>?_⟩,d,h⟩;have h:A6F p.2=true:=h.resolve_right (by rw[e2];exact G);have t:seat (ρ n):=i.seat;rw[<-e2,d]at t;rcases t with ⟨_,_,_,u⟩|⟨_,u⟩<;>rw[u]at h<;>cases h
 refine⟨hs.frm,hs.nt,hs.defers,J,?_,?_,?_,?_⟩
 .intro m x c;obtain⟨r,y,hy,rfl⟩:=A m x c;have g:=hs.objs m y hy;cases y with
  | arr j e2 E=>exact A5.keeps (V:=(vw w O0 σ ρ).but n) hF.keeps (λ_ _=>rfl) g
  | box j st fs =>
   obtain⟨h0,b,cs,hl,hh,F⟩:=g;exact⟨λN=>by rw[S8];exact h0 N,b,cs,hl,hh,Pi hF i F⟩
  | nest j O P e2 E hl=>exact A5.keeps (V:=(vw w O0 σ ρ).but n) (o:=.nest j O P e2 E hl) hF.keeps (λ_ _=>rfl) (Mp (V:=vw w O0 σ ρ) (V':=(vw w O0 σ ρ).but n) rfl rfl g)
  | mapo k v l=>exact A5.keeps (V:=(vw w O0 σ ρ).but n) hF.keeps (λ_ _=>rfl) g
  | frame X fs =>
   obtain⟨h0,h1⟩:=g;refine⟨h0,λs z C=>?_⟩;simp only[Ms,OR]at C;obtain⟨y,hy,rfl⟩:=C;exact rB hF i (h1 s y hy)
  | loop L=>exact A5.keeps (V:=(vw w O0 σ ρ).but n) hF.keeps (λ_ _=>rfl) g
  | itr S W T U R=>exact A5.keeps (V:=(vw w O0 σ ρ).but n) hF.keeps (λ_ _=>rfl) g
  | dfr=>exact A5.keeps (V:=(vw w O0 σ ρ).but n) hF.keeps (λ_ _=>rfl) g
 .intro m b hl hb;exact hs.free m b ((f m).1 hl).1 hb
 .intro m D b hl H h1 d;exact hs.dist m D b ((f m).1 hl).1 ((f D).1 H).1 h1 d
 intro s v B;simp only[Ms,OR]at B;obtain⟨y,hy,rfl⟩:=B;exact rB hF i (hs.env s y hy)
theorem rD (hs:CA w0 K O0 nt ds σ ρ a w) (n:Nat):CA w0 K O0 nt ds (frz n σ) ρ a w:=by
 unfold frz;split
 .exact hs
 rename_i b;cases hn:lk n σ.objs with
 | none=>exact hs
 | some c =>
 cases c with
 | box et st fs=>exact hs
 | mapo k v l=>exact hs
 | frame p fs=>exact hs
 | loop L=>exact hs
 | itr g o j m d=>exact hs
 | dfr=>exact hs
 | arr et e xs=>exact fE hs n b hn λh=>h.arr (hs.objs n _ hn)
 | nest et f k e xs hl =>
  cases hl with
  | some i=>exact hs
  | none=>exact fE hs n b hn λh=>h.nest (hs.objs n _ hn)
theorem KX:∀ {l:List Nat} {σ:St},CA w0 K O0 nt ds σ ρ a w->CA w0 K O0 nt ds (DN l σ) ρ a w
 | [],_,h=>h
 | n :: r,σ,h=>KX (l:=r) (σ:=frz n σ) (rD h n)
end
end
section
open Go Go.RowKit
section
variable {P:Program} {tb:Tb} {w0:World} {K O0:Nat->Prop} {nt:Nat} {ds:Fp} {σ σ':St} {ρ:Nat->Value} {a:Act} {w:World} {vc:Prop}
theorem A4l (hs:CA w0 K O0 nt ds σ ρ a w) (bq:∀b,K b->b<w0.heap.size) (br:∀b,O0 b->b<w0.heap.size) (hT:DC P tb) {d:Nat} (hd:d<nt) {t ty:TypeId} {x y:Operand} {n i len:Nat} {e:Ty} {v:AV}
  (hx:Aq σ x=some (.nin n e i len)) (hy:Aq σ y=some v) {et el:TypeId} {k:Ty} {xs:List (k.den×List e.den)} (hn:lk n σ.objs=some (.nest et el k e xs none)) (bw:G8 n=false)
  (hu:P.underlying t=some (.slice el)) {te:TI} (al:lk el tb.ty=some te) (am:te.ty=e) (h:PO σ d n et el k e xs i te.bytes (Q1 σ e v)=some (vc,σ')) (Z:vc) :
  ∃z w' ρ',(Builtin.append_ #[t,t] ty #[a.eval x,a.eval y]).run P w=.ok z w'/\CA w0 K O0 nt ds σ' ρ' (a.put (some d) z) w':=by
 have ar:HX (vw w O0 σ ρ) σ a.eval:=Fs hs.env;cases an:Q1 σ e v with
 | none=>rw[an]at h;simp[PO]at h
 | some ys =>
  rw[an]at h;simp only[PO]at h;split at h
  .rename_i au;have aj:lk d σ.objs=none:=by simpa using au.1
   cases h;obtain⟨cn,R⟩:=UU hs.objs an (ar y _ hy);obtain⟨cr,co,ad,c,Q,H,C,bz,cx⟩:=ar x _ hx;have H:ρ n=.tuple co:=H;have bc:=hs.objs n _ hn;have av:=aN (z:=(k.dflt,[])) bc H C;obtain⟨o,ins,cells,ch,A⟩:=bc;obtain rfl:=ch.tup H;have C:ins[i]?=some Q:=by simpa using C
   obtain⟨c1,cy,bu,cg,p⟩:=A.row i _ _ av C;rcases p with ⟨p,_⟩|⟨_,ct,f,be,L,bv⟩
   .cases p
   generalize cw:xs.getD i (k.dflt,[])=row at *;obtain⟨z,w',M,B,s,ak,bd⟩:∃z w',(Builtin.append_ #[t,t] ty #[a.eval x,a.eval y]).run P w=.ok z w'/\w'.ownsRow 0 el e.size z (row.2.length+ys.length) (be++cn)/\w.grownBy w' (blk Q)/\row.2.length+ys.length<=AP/\(blk z=blk Q\/∀b,blk z=some b->w.heap.size<=b):=by
    rcases bz with E|⟨E,ao,ci⟩
    .rw[E];obtain⟨z,w',M,B,s,ak⟩:=GP (ty:=ty) hT hu al am L R Z (ON _);have bd:=HY (ty:=ty) hT hu al am L R Z M;rw[UW L]at s;exact⟨z,w',M,B,s,ak,bd⟩
    subst E;have ba:=KU L;have cf:row.2=[]:=Sk ba.symm;have bx:be=[]:=Sk (by rw[L.1,<-ba,AC8]);subst bx;have cj:0<ys.length:=by
     cases ys with
     | nil=>simp at au
     | cons _ _=>simp
    rw[ci];rw[cf]at Z ⊢;obtain⟨z,w',M,B,s⟩:=S1 (ty:=ty) hT hu al am (xs:=([]:List e.den)) (a:=ao) (UT w (own O0 σ ρ) e ao 0) R cj Z;refine⟨z,w',M,⟨B.1,B.2.imp (λh=>h) λ⟨g,cap,af,e,_,r⟩=>⟨g,cap,af,e,ON _,r⟩⟩,s,by simpa using R.max,.inr λb hb=>?_⟩;rcases B.2 with ⟨h1,_⟩|⟨g,cap,af,h1,l,_⟩
    .rw[h1]at hb;simp[blk]at hb
    rw[h1]at hb;simp[blk]at hb;omega
   have W:∀b,bk (ρ n) b↔blk o=some b\/∃(j:Nat) (u:Value),ins[j]?=some u/\blk u=some b:=λb=>by rw[H];exact A8
   have cu:i<ins.length:=(On.1 C).1;have bb:n≠d:=λe1=>by rw[e1,aj]at hn;cases hn
   generalize ax:(Value.tuple (o :: ins.set i (.slice none 0 0)).toArray)=loc;have ab:Ex (Ex ρ n loc) d z n=loc:=by simp[Ex,bb]
   have aa:Ex (Ex ρ n loc) d z d=z:=Bq _ _ _;have ae:∀m,m≠n->m≠d->Ex (Ex ρ n loc) d z m=ρ m:=λm h1 l=>by simp[Ex,h1,l]
   generalize Ex (Ex ρ n loc) d z=ρ' at ab aa ae;have Y:∀(j:Nat) (u:Value),(ins.set i (.slice none 0 0))[j]?=some u->(j=i/\u=.slice none 0 0)\/(j≠i/\ins[j]?=some u):=by grind
   have aq:∀b,bk loc b->blk o=some b\/∃(j:Nat) (u:Value),j≠i/\ins[j]?=some u/\blk u=some b:=by grind [A8,blk]
   have bt:∀b,bk loc b->bk (ρ n) b:=λb hb=>(W b).2 ((aq b hb).imp id λ⟨j,u,_,h1,l⟩=>⟨j,u,h1,l⟩);have X:∀b,blk Q=some b->bk (ρ n) b:=λb hb=>(W b).2 (.inr ⟨i,_,C,hb⟩);have cs:∀b,bk z b->blk z=some b:=λb hb=>by
    rcases B.2 with ⟨E,_⟩|⟨g,cap,af,E,_⟩<;>rw[E]at hb ⊢<;>exact Lh.1 hb
   have cm:∀b,bk z b->blk Q=some b\/w.heap.size<=b:=λb hb=>by grind
   have ay:∀b,bk (ρ n) b->b<w.heap.size:=λb hb=>(hs.objs n _ hn).block_lt hb;have cv:∀b,bk loc b->blk Q≠some b:=by
    intro b hb E;rcases aq b hb with h1|⟨j,u,h1,l,p⟩
    .exact A.out i b _ C E h1
    exact h1 (A.dist j i b u _ l C p E)
   have aw:(row.2++ys).length=row.2.length+ys.length:=by simp
   let S:St:=⟨(d,.sr d e 0 (row.2.length+ys.length)) :: FI n [] σ.env,(d,.arr el e (row.2++ys)) :: (n,.nest et el k e xs (some i)) :: DT n [] σ.objs⟩
   have ap:∀m F,lk m S.objs=some F->(m=d/\F=.arr el e (row.2++ys))\/(m=n/\m≠d/\F=.nest et el k e xs (some i))\/(m≠d/\m≠n/\∃q,lk m σ.objs=some q/\F=q.trn n []):=by
    intro m F f;simp only[S,lk]at f;split at f
    .rename_i e1;cases f;exact .inl ⟨e1,rfl⟩
    rename_i e1;split at f
    .rename_i e2;cases f;exact .inr (.inl ⟨e2,e1,rfl⟩)
    rename_i e2;rw[EZ]at f;split at f
    .cases f
    simp only[OR]at f;obtain⟨q,h1,rfl⟩:=f;exact .inr (.inr ⟨e1,e2,q,h1,rfl⟩)
   have bs:∀m,m≠d->m≠n->∀q,lk m σ.objs=some q->lk m S.objs=some (q.trn n []):=by grind [lk,EZ,AU]
   have cd:∀b,b<w.heap.size->¬own O0 σ ρ b->¬own O0 S ρ' b:=by
    intro b hb G cl;rcases cl with h0|⟨m,⟨F,cc⟩,I⟩
    .exact G (.inl h0)
    rcases ap m F cc with ⟨rfl,_⟩|⟨rfl,_,_⟩|⟨h1,l,q,p,_⟩
    .rw[aa]at I;rcases cm b I with D|D
     .exact G (.inr ⟨n,⟨_,hn⟩,X b D⟩)
     omega
    .rw[ab]at I;exact G (.inr ⟨_,⟨_,hn⟩,bt b I⟩)
    rw[ae m l h1]at I;exact G (.inr ⟨m,⟨q,p⟩,I⟩)
   have ce:plc loc=o:=by rw[<-ax];rfl
   have U:RF (vw w O0 σ ρ) (vw w' O0 S ρ') n []:=by
    refine⟨cd,λm f _=>?_,λm f _ cb=>?_,⟨_,H⟩,?_,λb hb G=>s.block b hb λe1=>G (.inr ⟨n,⟨_,hn⟩,X b e1.symm⟩)⟩
    .obtain⟨q,h1⟩:=f;by_cases az:m=n
     .subst az;exact⟨.nest et el k e xs (some i),by simp[S,lk,bb]⟩
     have ca:m≠d:=λe1=>by rw[e1,aj]at h1;cases h1
     exact⟨_,bs m ca az q h1⟩
    .obtain⟨q,h1⟩:=f;exact ae m cb (λe1=>by rw[e1,aj]at h1;cases h1)
    show plc (ρ' n)=plc (ρ n);rw[ab,ce,H];rfl
   have J:Cl ⟨w,own O0 σ ρ,λ_=>False,ρ⟩ (vw w' O0 S ρ'):=⟨U.O,λ_ h=>h.elim,λ_ h=>h.elim,U.heap⟩;refine⟨z,w',ρ',M,hs.swap bq br (T:=λm=>m=n) (λm f=>by obtain rfl:m=n:=f;exact⟨bw,_,hn,by rw[H];exact .inr ⟨_,rfl⟩⟩) (new:=[(d,.arr el e (row.2++ys)),(n,.nest et el k e xs (some i))]) s.os s.tape s.output s.size ?_ ?_ ?_ ?_ ?_ ?_ ?_ ?_⟩
   .exact λb hb G=>s.block b hb λe1=>G n rfl (X b e1.symm)
   .grind [lk]
   .grind [lk]
   .grind [lk]
   .grind [lk]
   .grind [bk,lk]
   .intro m F f;rcases ap m F f with ⟨rfl,rfl⟩|⟨rfl,_,rfl⟩|⟨h1,l,q,p,rfl⟩
    .rw[aa];refine⟨by rw[aw];exact ak,_,by rw[aw];exact B,?_⟩;exact De.keeps J (KW bv R.elems L.1)
    .rw[ab];refine⟨o,ins.set i (.slice none 0 0),cells,.inl ax.symm,A.max,by rw[oS];exact A.len,JF (λb hb=>s.block b (ay b ((W b).2 (.inl hb))) λe1=>A.out i b _ C e1.symm hb) A.own,λj cp u h1 l=>?_,?_,?_⟩
     .rcases Y j u l with ⟨rfl,rfl⟩|⟨p,D⟩
      .rw[av]at h1;cases h1;exact⟨c1,_,bu,Bx.mono J.O J.heap cg,.inl ⟨by simp,rfl⟩⟩
      obtain⟨c2,bj,bl,bm,ah⟩:=A.row j cp u h1 D;rcases ah with ⟨ah,_⟩|⟨_,bn,bo⟩
      .cases ah
      refine⟨c2,bj,bl,Bx.mono J.O J.heap bm,.inr ⟨AAs.2 (λe1=>p (by injection e1 with e1;exact e1.symm)),bn,?_⟩⟩;exact RB.keeps (V:=⟨w,own O0 σ ρ,λ_=>False,ρ⟩) J (λb hb=>s.block b (ay b ((W b).2 (.inr ⟨j,u,D,hb⟩))) λe1=>p (A.dist j i b u _ D C hb e1.symm)) bo
     .intro bf bg b bh bi h1 l p D;rcases Y bf bh h1 with ⟨_,rfl⟩|⟨_,ai⟩
      .simp[blk]at p
      rcases Y bg bi l with ⟨_,rfl⟩|⟨_,bp⟩
      .simp[blk]at D
      exact A.dist bf bg b bh bi ai bp p D
     intro j b u h1 l;rcases Y j u h1 with ⟨_,rfl⟩|⟨_,ai⟩
     .simp[blk]at l
     exact A.out j b u ai l
    rw[ae m l h1];refine qY U (λb hb=>s.block b ((hs.objs m q p).block_lt hb) λe1=>l (hs.dist m n b ⟨_,p⟩ ⟨_,hn⟩ hb (X b e1.symm))) (hs.objs m q p)
   intro s2 bj N;rw[Mo a d z s2 (by rw[hs.nt];exact hd)];simp only[S,lk]at N;split at N
   .rename_i ag;cases N;rw[DO ag];refine⟨⟨.arr el e (row.2++ys),by simp[S,lk]⟩,?_⟩;show DP (plc (ρ' d)) e.size 0 _ z;rw[aa,HW B];exact GN B
   rename_i ag;rw[BY ag];rw[Hq]at N;simp only[OR]at N;obtain⟨cq,ck,rfl⟩:=N;exact aZ U (hs.env s2 cq ck)
  cases h
end
end
section
open Go Go.RowKit
theorem bA {w:World} {et:TypeId} {sz len g m c:Nat} {cells:List Value} (h:w.ownsRow 0 et sz (.slice (some ⟨g,0,none⟩) m c) len cells) {p:Nat} (C:p<len*sz) (v:Value) :
  ∃a:List Value,w.heap[g]?=some (.cells a.toArray et (0,0))/\p+1<=a.length/\(w.setRow g (A4 a p [v]).toArray).ownsRow 0 et sz (.slice (some ⟨g,0,none⟩) m c) len (cells.set p v):=by
 obtain⟨t,l⟩:=h;rcases l with ⟨d,_⟩|⟨y,cap,a,d,z,i,e,o,f,u⟩
 .cases d
 injection d with b q r
 injection b with b
 injection b with b
 subst b;have A:len*sz<=cap*sz:=UI _ e;have B:a.toList.length=cap*sz:=by rw[<-f];simp
 have n:p + [v].length<=a.toList.length:=by simp only[If];omega
 have s:w.heap[g]?=some (.cells a.toList.toArray et (0,0)):=by simpa using i
 have k:A4 a.toList p [v]=a.toList.set p v:=by
  apply ABB;intro j;simp only[A4,SZ,AAa,OS,UP,AA9,If,AAh];have x:min p a.toList.length=p:=by omega
  simp only[x];by_cases c1:j<p
  .grind
  grind
 refine⟨a.toList,s,by simpa using n,?_,.inr ⟨g,cap,_,by rw[q,r],ON _,setRow_heap w g _ _ et _ i,e,o,?_,?_⟩⟩
 .rw[oS];exact t
 .rw[k];simp[f]
 rw[k,<-u];simp[List.take_set]
section
variable {P:Program} {tb:Tb} {w0:World} {K O0:Nat->Prop} {nt:Nat} {ds:Fp} {σ σ':St} {ρ:Nat->Value} {a:Act} {w:World} {vc:Prop}
theorem A08 (hs:CA w0 K O0 nt ds σ ρ a w) (bi:∀b,K b->b<w0.heap.size) (bj:∀b,O0 b->b<w0.heap.size) (hT:DC P tb) {id:TypeId} {ti:TI} (ht:lk id tb.ty=some ti) {x y:Operand} {n m i hi:Nat} {k e:Ty} (hty:ti.ty=.slice e) {cl:List Nat}
  (hx:Aq σ x=some (.ep n (.agg (.prod k (.slice e))) i cl k.size)) (hy:Aq σ y=some (.sr m e 0 hi)) {et v:TypeId} {xs:List (k.den×List e.den)} {ys:List e.den} (hn:lk n σ.objs=some (.nest et v k e xs (some i))) (E:lk m σ.objs=some (.arr v e ys))
  (br:G8 n=false) (cr:G8 m=false) (cv:hi=ys.length) :
  ∃w' ρ',(Instr.storeAt id (a.eval x) (a.eval y)).run P w=.ok () w'/\CA w0 K O0 nt ds ⟨FI n [m] σ.env,(n,.nest et v k e (xs.set i ((xs.getD i (k.dflt,[])).1,ys)) none) :: DT n [m] σ.objs⟩ ρ' a w':=by
 have ao:HX (vw w O0 σ ρ) σ a.eval:=Fs hs.env;have bz:m≠n:=λe1=>by rw[e1,hn]at E;cases E
 obtain⟨cp,g,bb,c,ai,bv,cf⟩:=ao x _ hx;obtain⟨cq,be,ck,bf,L,_,ct,cn,co,cw,_,h0,_⟩:=ao y _ hy;obtain⟨o,ins,cells,ax,r⟩:=hs.objs n _ hn;have al:RB (vw w O0 σ ρ) v e ys (ρ m):=hs.objs m _ E;have ar:=hs.objs m _ E;have L:plc (ρ m)=.slice be ck bf:=L;rw[US ar]at L;have cj:a.eval y=ρ m:=by
  obtain⟨rfl,rfl⟩:=h0 rfl;obtain⟨_,cx,cu,_⟩:=al;grind [KU]
 have ai:plc (ρ n)=.slice (some ⟨g,0,none⟩) bb c:=ai;have ca:o=.slice (some ⟨g,0,none⟩) bb c:=by rw[<-ax.plc];exact ai
 subst ca;have bx:=KU r.own;subst bx;have J:i<xs.length:=bv;have ag:i<ins.length:=by rw[r.len];exact J
 have X:ρ n=.tuple ((.slice (some ⟨g,0,none⟩) xs.length c) :: ins).toArray:=ax.resolve_right λh=>by rw[h.2.2]at ag;simp at ag
 have au:i*(k.size+1)+k.size<xs.length*(k.size+1):=by
  have:(i+1)*(k.size+1)<=xs.length*(k.size+1):=UI _ J;rw[AAt]at this;omega
 obtain⟨M,bs,bo,U⟩:=bA r.own au (ρ m);have cc:(ρ m).oneCell'=true:=by rw[L];rfl
 have R:(a.eval y).cells=#[ρ m]:=by rw[cj,L];rfl
 have aw:=Lm (P:=P) (xv:=a.eval y) (hT _ _ ht) bs (off:=i*(k.size+1)+k.size) (by rw[R,hty];rfl) (by rw[R];simpa using bo) (by rw[R];intro u hu;simp at hu;subst hu;exact cc);rw[R]at aw;refine⟨_,Ex ρ n (.tuple ((.slice (some ⟨g,0,none⟩) xs.length c) :: ins.set i (ρ m)).toArray),by rw[cf];exact aw,?_⟩;have C:=Ft w g (A4 M (i*(k.size+1)+k.size) [ρ m]).toArray;change CA w0 K O0 nt ds _ _ a (w.setRow g (A4 M (i*(k.size+1)+k.size) [ρ m]).toArray);have U:(w.setRow g (A4 M (i*(k.size+1)+k.size) [ρ m]).toArray).ownsRow 0 et (k.size+1) (.slice (some ⟨g,0,none⟩) xs.length c) xs.length (cells.set (i*(k.size+1)+k.size) (ρ m)):=U;generalize w.setRow g (A4 M (i*(k.size+1)+k.size) [ρ m]).toArray=w' at C U;generalize aq:(Value.tuple ((.slice (some ⟨g,0,none⟩) xs.length c) :: ins.set i (ρ m)).toArray)=loc;have Y:Ex ρ n loc n=loc:=Bq _ _ _;have Z:∀j,j≠n->Ex ρ n loc j=ρ j:=λj h1=>by simp[Ex,h1]
 generalize Ex ρ n loc=ρ' at Y Z;have an:∀b,bk (ρ n) b↔blk (.slice (some ⟨g,0,none⟩) xs.length c)=some b\/∃(j:Nat) (u:Value),ins[j]?=some u/\blk u=some b:=λb=>by rw[X];exact A8
 have W:∀(j:Nat) (u:Value),(ins.set i (ρ m))[j]?=some u->(j=i/\u=ρ m)\/(j≠i/\ins[j]?=some u):=by grind
 have ad:∀b,blk (ρ m)=some b->bk (ρ m) b:=λb hb=>.inl hb;have bm:∀b,bk loc b->bk (ρ n) b\/blk (ρ m)=some b:=by grind [A8]
 have bp:∀b,bk (ρ n) b->blk (ρ m)=some b->False:=λb h1 p=>bz (hs.dist m n b ⟨_,E⟩ ⟨_,hn⟩ (ad b p) h1);have ae:bk (ρ n) g:=(an g).2 (.inl rfl);have bu:∀b,bk (ρ n) b->b<w.heap.size:=λb hb=>(hs.objs n _ hn).block_lt hb;have bw:∀b,blk (ρ m)=some b->b<w.heap.size:=λb hb=>ar.block_lt (ad b hb)
 let S:St:=⟨FI n [m] σ.env,(n,.nest et v k e (xs.set i ((xs.getD i (k.dflt,[])).1,ys)) none) :: DT n [m] σ.objs⟩
 have am:∀j A,lk j S.objs=some A->(j=n/\A=.nest et v k e (xs.set i ((xs.getD i (k.dflt,[])).1,ys)) none)\/(j≠n/\j≠m/\∃l,lk j σ.objs=some l/\A=l.trn n [m]):=by
  intro j A f;simp only[S,lk]at f;split at f
  .grind
  rename_i e1;rw[EZ]at f;split at f
  .cases f
  rename_i e2;simp only[OR]at f;grind [AU]
 have bl:∀j,j≠n->j≠m->∀l,lk j σ.objs=some l->lk j S.objs=some (l.trn n [m]):=by grind [lk,EZ,AU]
 have cd:∀b,b<w.heap.size->¬own O0 σ ρ b->¬own O0 S ρ' b:=by
  intro b hb F ci;rcases ci with h0|⟨j,⟨A,cb⟩,Q⟩
  .exact F (.inl h0)
  rcases am j A cb with ⟨rfl,_⟩|⟨h1,p,l,d,_⟩
  .rw[Y]at Q;rcases bm b Q with s|s
   .exact F (.inr ⟨_,⟨_,hn⟩,s⟩)
   exact F (.inr ⟨m,⟨_,E⟩,ad b s⟩)
  rw[Z j h1]at Q;exact F (.inr ⟨j,⟨l,d⟩,Q⟩)
 have N:RF (vw w O0 σ ρ) (vw w' O0 S ρ') n [m]:=by
  refine⟨cd,λj f bt=>?_,λj _ _ ah=>Z j ah,⟨_,X⟩,?_,λb hb F=>C.block b hb λe1=>?_⟩
  .obtain⟨l,h1⟩:=f;by_cases ap:j=n
   .exact⟨.nest et v k e (xs.set i ((xs.getD i (k.dflt,[])).1,ys)) none,by simp[S,lk,ap]⟩
   exact⟨_,bl j ap (λe1=>by simp[AU,e1]at bt) l h1⟩
  .show plc (ρ' n)=plc (ρ n);rw[Y,<-aq,X];rfl
  injection e1 with e1
  subst e1;exact F (.inr ⟨n,⟨_,hn⟩,ae⟩)
 have D:Cl ⟨w,own O0 σ ρ,λ_=>False,ρ⟩ (vw w' O0 S ρ'):=⟨N.O,λ_ h=>h.elim,λ_ h=>h.elim,N.heap⟩;have af:∀b,b<w.heap.size->b≠g->w'.heap[b]?=w.heap[b]?:=λb h1 p=>C.block b h1 λe1=>p (by injection e1);refine hs.swap bi bj (T:=λj=>j=n\/j=m) (dst:=none) (u:=undef) (λj f=>?_) (new:=[(n,.nest et v k e (xs.set i ((xs.getD i (k.dflt,[])).1,ys)) none)]) C.os C.tape C.output C.size ?_ ?_ ?_ ?_ ?_ ?_ ?_ ?_
 .rcases f with rfl|rfl
  .exact⟨br,_,hn,by rw[X];exact .inr ⟨_,rfl⟩⟩
  grind [fC]
 .grind
 .grind [lk]
 .grind [lk]
 .grind [lk]
 .grind [lk]
 .grind [lk]
 .intro j A f;rcases am j A f with ⟨rfl,rfl⟩|⟨h1,p,l,d,rfl⟩
  .rw[Y];have bn:cells.length=xs.length*(k.size+1):=r.own.1;refine⟨_,ins.set i (ρ m),cells.set (i*(k.size+1)+k.size) (ρ m),.inl aq.symm,by rw[oS];exact r.max,by rw[oS,oS];exact r.len,by rw[oS];exact U,λj ak u h1 p=>?_,?_,?_⟩
   .have bq:∀(c2:List Value) (B:Value),j≠i->c2.length=k.size->(∀(q:Nat) (z:Value),(c2++[B])[q]?=some z->cells[j*(k.size+1)+q]?=some z)->∀(q:Nat) (z:Value),(c2++[B])[q]?=some z->(cells.set (i*(k.size+1)+k.size) (ρ m))[j*(k.size+1)+q]?=some z:=by
     intro c2 B cs hl G q z t;have aj:=(On.1 t).1;simp only[As,If,hl]at aj;have ah:i*(k.size+1)+k.size≠j*(k.size+1)+q:=by
      intro e1;rcases Nat.lt_or_ge i j with d|d
      .have:(i+1)*(k.size+1)<=j*(k.size+1):=UI _ d;rw[AAt]at this;omega
      have:(j+1)*(k.size+1)<=i*(k.size+1):=UI _ oa;rw[AAt]at this;omega
     rw[AAh,BY ah];exact G q z t
    rcases W j u p with ⟨rfl,rfl⟩|⟨d,s⟩
    .have cg:xs[j]?=some (xs.getD j (k.dflt,[])):=by
      rw[AT J,AS,AT J];rfl
     obtain⟨c2,B,G,H,_⟩:=r.row j _ ins[j] cg (AT ag);have ce:ak=((xs.getD j (k.dflt,[])).1,ys):=by
      rw[List.getElem?_set_self J]at h1;exact(Option.some.inj h1).symm
     subst ce;have hl:c2.length=k.size:=H.length;refine⟨c2,ρ m,λq z t=>?_,Bx.mono D.O D.heap H,.inr ⟨rfl,.inl rfl,?_⟩⟩
     .have aj:=(On.1 t).1;simp only[As,If,hl]at aj;rw[AAh];by_cases av:q=k.size
      .rw[av,DO rfl,DO (by rw[bn];exact au)];rw[av,<-hl,Sf (No _),AAJ]at t;exact t
      rw[BY oa];refine G q z ?_;rw[Se oa]at t ⊢;exact t
     exact RB.keeps (V:=⟨w,own O0 σ ρ,λ_=>False,ρ⟩) D (λb hb=>af b (bw b hb) λe1=>bp b (by rw[e1];exact ae) hb) al
    have h1:xs[j]?=some ak:=by
     rw[AAh,BY (λe1=>d e1.symm)]at h1;exact h1
    obtain⟨c2,B,G,H,aa⟩:=r.row j ak u h1 s;rcases aa with ⟨aa,_⟩|⟨_,bg,bh⟩
    .exact absurd (by simpa using aa) (λe1:i=j=>d e1.symm)
    refine⟨c2,B,bq c2 B d H.length G,Bx.mono D.O D.heap H,.inr ⟨rfl,bg,?_⟩⟩;exact RB.keeps (V:=⟨w,own O0 σ ρ,λ_=>False,ρ⟩) D (λb hb=>af b (bu b ((an b).2 (.inr ⟨j,u,s,hb⟩))) λe1=>r.out j b u s hb (by rw[e1];rfl)) bh
   .intro az ba b bc bd h1 p d s;rcases W az bc h1 with ⟨I,rfl⟩|⟨_,I⟩<;>rcases W ba bd p with ⟨ab,rfl⟩|⟨_,ab⟩
    .rw[I,ab]
    .grind
    .grind
    exact r.dist az ba b bc bd I ab d s
   intro j b u h1 p d;rcases W j u h1 with ⟨_,rfl⟩|⟨_,I⟩
   .grind
   exact r.out j b u I p d
  rw[Z j h1];refine qY N (λb hb=>af b ((hs.objs j l d).block_lt hb) λe1=>h1 (hs.dist j n b ⟨_,d⟩ ⟨_,hn⟩ hb (by rw[e1];exact ae))) (hs.objs j l d)
 intro s2 B ay;simp only[Hq,OR]at ay;obtain⟨cm,ch,rfl⟩:=ay;exact aZ N (hs.env s2 cm ch)
end
end
section
open Go Go.RowKit
section
variable {P:Program} {tb:Tb} {w0:World} {K O0:Nat->Prop} {nt:Nat} {ds:Fp} {σ σ':St} {ρ:Nat->Value} {a:Act} {w:World} {vc:Prop}
theorem CA.swap1 (h:CA w0 K O0 nt ds σ ρ a w) (H:∀b,K b->b<w0.heap.size) (I:∀b,O0 b->b<w0.heap.size) {tl:List Nat} (hT:∀n,n∈tl->G8 n=false/\∃o,lk n σ.objs=some o/\seat (ρ n))
  {e:Nat} (Y:e∈tl\/lk e σ.objs=none) {j:Obj} {loc:Value} {w':World}
  (R:w'.os=w.os) (W:w'.tape=w.tape) (U:w'.output=w.output) (V:w.heap.size<=w'.heap.size)
  (B:∀b,b<w.heap.size->(∀n,n∈tl->¬bk (ρ n) b)->w'.heap[b]?=w.heap[b]?)
  (O:∀b,bk loc b->(∃m,m∈tl/\bk (ρ m) b)\/w.heap.size<=b)
  (Q:∀V':Vw,V'.w=w'->Cl ⟨w,own O0 σ ρ,λ_=>False,ρ⟩ V'->A5 V' j loc)
  {d:Nat} (hd:d<nt) {v:AV} {u:Value} (M:∀V':Vw,V'.L e->V'.ρ e=loc->B2 V' v u) :
  CA w0 K O0 nt ds ⟨(d,v) :: CU tl σ.env,(e,j) :: Ay tl tl σ.objs⟩ (Ex ρ e loc) (a.put (some d) u) w':=by
 let S:St:=⟨(d,v) :: CU tl σ.env,(e,j) :: Ay tl tl σ.objs⟩
 have D:∀m o,lk m S.objs=some o->(m=e/\o=j)\/(m≠e/\m∉tl/\∃c,lk m σ.objs=some c/\o=c.fgt tl):=by
  intro m o f;simp only[S,lk]at f;split at f
  .grind
  rename_i e1;rw[B7]at f;split at f
  .cases f
  rename_i e2;simp only[OR]at f;grind [Aa]
 have J:∀m,m≠e->m∉tl->∀c,lk m σ.objs=some c->lk m S.objs=some (c.fgt tl):=by grind [lk,B7,Aa]
 have F:∀m,m∉tl->(∃o,lk m σ.objs=some o)->m≠e:=by grind
 have q:Ex ρ e loc e=loc:=Bq _ _ _;have r:∀m,m≠e->Ex ρ e loc m=ρ m:=λm h1=>by simp[Ex,h1]
 generalize Ex ρ e loc=ρ' at q r;have G:∀b,b<w.heap.size->¬own O0 σ ρ b->¬own O0 S ρ' b:=by
  intro b hb l X;rcases X with h0|⟨m,⟨o,P⟩,p⟩
  .exact l (.inl h0)
  rcases D m o P with ⟨rfl,_⟩|⟨h1,i,c,g,_⟩
  .rw[q]at p;rcases O b p with ⟨t,ht,C⟩|C
   .obtain⟨_,c,k,_⟩:=hT t ht;exact l (.inr ⟨t,⟨c,k⟩,C⟩)
   omega
  rw[r m h1]at p;exact l (.inr ⟨m,⟨c,g⟩,p⟩)
 have E:∀b,b<w.heap.size->¬own O0 σ ρ b->w'.heap[b]?=w.heap[b]?:=λb hb l=>B b hb λn hn A=>by
  obtain⟨_,c,k,_⟩:=hT n hn;exact l (.inr ⟨n,⟨c,k⟩,A⟩)
 have N:Cl ⟨w,own O0 σ ρ,λ_=>False,ρ⟩ (vw w' O0 S ρ'):=⟨G,λ_ h=>h.elim,λ_ h=>h.elim,E⟩;have hk:Cl ((vw w O0 σ ρ).buts tl) (vw w' O0 S ρ'):=by
  refine⟨G,λm f=>?_,λm f=>?_,E⟩
  .obtain⟨⟨c,h1⟩,i⟩:=f;have g:m∉tl:=λh=>by rw[(Aa _ _).2 h]at i;cases i
   exact⟨_,J m (F m g ⟨c,h1⟩) g c h1⟩
  obtain⟨⟨c,h1⟩,i⟩:=f;have g:m∉tl:=λh=>by rw[(Aa _ _).2 h]at i;cases i
  exact r m (F m g ⟨c,h1⟩)
 refine h.swap H I (T:=λm=>m∈tl) hT (new:=[(e,j)]) R W U V B ?_ ?_ ?_ ?_ ?_ ?_ ?_
 .grind [lk]
 .grind [lk]
 .grind [lk]
 .grind [lk]
 .grind [lk]
 .intro m o f;rcases D m o f with ⟨rfl,rfl⟩|⟨h1,i,c,g,rfl⟩
  .rw[q];exact Q _ rfl N
  rw[r m h1];refine aX hk (λb hb=>B b ((h.objs m c g).block_lt hb) λn hn A=>?_) (h.objs m c g);obtain⟨_,Z,k,_⟩:=hT n hn;exact i ((h.dist m n b ⟨_,g⟩ ⟨_,k⟩ hb A)▸hn)
 intro s x hs;rw[Mo a d u s (by rw[h.nt];exact hd)];simp only[S,lk]at hs;split at hs
 .rename_i z;cases hs;rw[DO z];exact M _ ⟨j,by simp[S,lk]⟩ q
 rename_i z;rw[BY z];rw[El]at hs;simp only[OR]at hs;obtain⟨y,hy,rfl⟩:=hs;exact(UV (h.env s y hy)).keeps hk
theorem aI.move {V:Vw} {a:TypeId} {k e:Ty} {hole:Bool} {cells cells':List Value} {i i':Nat} {x:k.den×List e.den} {u:Value} (h:aI V a k e hole cells i x u)
  (c:∀(j:Nat) (z:Value),cells[i*(k.size+1)+j]?=some z->cells'[i'*(k.size+1)+j]?=some z):aI V a k e hole cells' i' x u :=
 let ⟨c1,v,h1,b⟩:=h
 ⟨c1,v,λj z d=>c j z (h1 j z d),b⟩
theorem Ym {V V':Vw} {et C t:TypeId} {k e:Ty} {xs ys:List (k.den×List e.den)} {o B z:Value} {ins d cells g:List Value} (h1:LA V et t k e xs none o ins cells) (m:LA V C t k e ys none B d g)
  (p:∀b,bk (.tuple (o :: ins).toArray) b->bk (.tuple (B :: d).toArray) b->False)
  (I:V'.w.ownsRow 0 et (k.size+1) z (xs.length+ys.length) (cells++g)) (J:blk z=blk o\/∀b,blk z=some b->V.w.heap.size<=b)
  (y:∀b,b<V.w.heap.size->blk o≠some b->V'.w.heap[b]?=V.w.heap[b]?) (hk:Cl ⟨V.w,V.O,λ_=>False,V.ρ⟩ V') (G:xs.length+ys.length<=AP) :
  LA V' et t k e (xs++ys) none z (ins++d) (cells++g):=by
 have D:cells.length=xs.length*(k.size+1):=h1.own.1;have E:∀(i b:Nat) (u:Value),ins[i]?=some u->blk u=some b->b<V.w.heap.size:=λi b u hi hb=>h1.block_lt (A8.2 (.inr ⟨i,u,hi,hb⟩));have F:∀(i b:Nat) (u:Value),d[i]?=some u->blk u=some b->b<V.w.heap.size:=λi b u hi hb=>m.block_lt (A8.2 (.inr ⟨i,u,hi,hb⟩));have A:∀(i b:Nat) (u:Value),d[i]?=some u->blk u=some b->blk o≠some b:=λi b u hi hb H=>p b (A8.2 (.inl H)) (A8.2 (.inr ⟨i,u,hi,hb⟩));have s:∀(i:Nat) (u:Value),(ins++d)[i]?=some u->(i<xs.length/\ins[i]?=some u)\/(xs.length<=i/\d[i-xs.length]?=some u):=by
  intro i u hi;rw[AAa]at hi;split at hi
  .rename_i h;rw[h1.len]at h;exact .inl ⟨h,hi⟩
  rename_i h;rw[h1.len]at h hi;exact .inr ⟨by omega,hi⟩
 have K:∀b,blk z=some b->(∃(i:Nat) (u:Value),ins[i]?=some u/\blk u=some b)\/(∃(i:Nat) (u:Value),d[i]?=some u/\blk u=some b)->False:=by
  intro b hb hi;rcases J with c|c
  .rw[c]at hb;rcases hi with ⟨i,u,a,f⟩|⟨i,u,a,f⟩
   .exact h1.out i b u a f hb
   exact A i b u a f hb
  grind
 refine⟨by rw[As];exact G,by rw[As,As,h1.len,m.len],by rw[As];exact I,λi x u hx hu=>?_,λi j b u v hi q hu n=>?_,λi b u hi hb L=>?_⟩
 .rcases s i u hu with ⟨c,a⟩|⟨c,a⟩
  .have hx:xs[i]?=some x:=by rwa [Se c]at hx
   have r:=(h1.row i x u hx a).move (cells':=cells++g) (i':=i) λj z q=>by grind
   exact aI.keeps (V:=⟨V.w,V.O,λ_=>False,V.ρ⟩) hk (λb hb=>y b (E i b u a hb) (h1.out i b u a hb)) r
  have hx:ys[i-xs.length]?=some x:=by rwa [Sf c]at hx
  have r:=(m.row _ x u hx a).move (cells':=cells++g) (i':=i) λj z q=>by
   have f:i*(k.size+1)=cells.length+(i-xs.length)*(k.size+1):=by
    rw[D,<-ABz];congr 1;omega
   grind
  exact aI.keeps (V:=⟨V.w,V.O,λ_=>False,V.ρ⟩) hk (λb hb=>y b (F _ b u a hb) (A _ b u a hb)) r
 .rcases s i u hi with ⟨c,a⟩|⟨c,a⟩<;>rcases s j v q with ⟨f,l⟩|⟨f,l⟩
  .exact h1.dist i j b u v a l hu n
  .exact(p b (A8.2 (.inr ⟨i,u,a,hu⟩)) (A8.2 (.inr ⟨_,v,l,n⟩))).elim
  .exact(p b (A8.2 (.inr ⟨j,v,l,n⟩)) (A8.2 (.inr ⟨_,u,a,hu⟩))).elim
  have:=m.dist _ _ b u v a l hu n;omega
 grind
theorem A09 (V:Vw) (et a:TypeId) (k e:Ty):LA V et a k e [] none (.slice none 0 0) [] [] :=
 ⟨by simp[AP],rfl,AB8 V.w 0 et _,λi x u h=>by simp at h,λi j b u v h=>by simp at h,λi b u h=>by simp at h⟩
theorem Ln {w:World} {base:Nat} {et:TypeId} {sz b n:Nat} {loc v:Value} {cells:List Value} (f:w.ownsRow base et sz loc n cells) (h:DP loc b 0 n v):v=loc:=by
 obtain⟨a,m,c,rfl,_,_,d,e,rfl,_,h0,_⟩:=h;grind [KU]
theorem A4m {w:World} {O:Nat->Prop} {et:TypeId} {e:Ty} {xs:List e.den} {loc:Value} {cells:List Value} (d:xs.length<=AP) (a:w.ownsRow 0 et e.size loc xs.length cells) (c:De w O e cells xs):Src w O e loc xs cells:=by
 refine⟨?_,a.1,c,Yh (V:=⟨w,O,λ_=>False,λ_=>undef⟩) a c,d⟩;rcases a.2 with ⟨b,hn⟩|⟨g,cap,f,b,_⟩
 .grind
 subst b;exact⟨some ⟨g,0,none⟩,cap,rfl,.inr ⟨_,rfl,a.cells (g:=g) rfl⟩⟩
theorem Pj {V:Vw} {et a:TypeId} {k e:Ty} {xs:List (k.den×List e.den)} {o:Value} {ins cells:List Value} (h:LA V et a k e xs none o ins cells):Src V.w (λ_=>False) (.agg (.prod k (.slice e))) o xs cells :=
 A4m (e:=.agg (.prod k (.slice e))) (xs:=xs) h.max h.own (OK (λ_ _ h=>h) h λ_ _ _ _ _ h=>h)
theorem RG {V:Vw} {et b:TypeId} {k e:Ty} {xs:List (k.den×List e.den)} {hl:Option Nat} {loc:Value} (a:A5 V (.nest et b k e xs hl) loc):seat loc:=by
 obtain⟨o,ins,cells,hl,_⟩:=a;exact hl.elim (λh=>.inr ⟨_,h⟩) (λh=>.inl ⟨_,_,_,h.1⟩)
theorem A0a (hs:CA w0 K O0 nt ds σ ρ a w) (O:∀b,K b->b<w0.heap.size) (R:∀b,O0 b->b<w0.heap.size) (hT:DC P tb) {d:Nat} (hd:d<nt) {t ty:TypeId} {x y:Operand} {n m hi s:Nat} {E q:Ty} {k e:Ty}
  (hx:Aq σ x=some (.sr n E 0 hi)) (hy:Aq σ y=some (.sr m q 0 s)) {et M p:TypeId} {xs ys:List (k.den×List e.den)} (hn:lk n σ.objs=some (.nest et p k e xs none)) (v:lk m σ.objs=some (.nest M p k e ys none)) (U:n≠m)
  (ab:G8 n=false) (aa:G8 m=false) (hu:P.underlying t=some (.slice et)) {te:TI} (F:lk et tb.ty=some te) (G:te.ty=.agg (.prod k (.slice e))) (W:hi=xs.length) (X:s=ys.length) (H:(xs.length+ys.length)*te.bytes<=AP) :
  ∃z w' ρ',(Builtin.append_ #[t,t] ty #[a.eval x,a.eval y]).run P w=.ok z w' /\
   CA w0 K O0 nt ds ⟨(d,.sr n (.agg (.prod k (.slice e))) 0 (xs.length+ys.length)) :: CU [n,m] σ.env,(n,.nest et p k e (xs++ys) none) :: Ay [n,m] [n,m] σ.objs⟩ ρ' (a.put (some d) z) w':=by
 subst W X;have r:HX (vw w O0 σ ρ) σ a.eval:=Fs hs.env;have A:=hs.objs n _ hn;have B:=hs.objs m _ v;have ae:=RG A;have af:=RG B;obtain⟨o,ins,cells,g,f⟩:=A;obtain⟨ag,J,L,l,h⟩:=B;obtain⟨_,hx⟩:=r x _ hx;obtain⟨_,hy⟩:=r y _ hy;have hx:DP (plc (ρ n)) E.size 0 xs.length (a.eval x):=hx;have hy:DP (plc (ρ m)) q.size 0 ys.length (a.eval y):=hy;rw[g.plc]at hx;rw[l.plc]at hy;have hx:=Ln f.own hx;have hy:=Ln h.own hy;rw[hx,hy];obtain⟨z,w',D,C,c,S⟩:=GP (ty:=ty) hT hu F G f.own (Pj h) H (ON _);have I:=HY (ty:=ty) hT hu F G f.own (Pj h) H D;rw[UW f.own]at c;refine⟨z,w',_,D,hs.swap1 (loc:=.tuple (z :: (ins++J)).toArray) O R (tl:=[n,m]) (λj ad=>?_) (.inl sc) c.os c.tape c.output c.size ?_ ?_ ?_ hd ?_⟩
 .grind
 .exact λb hb V=>c.block b hb λe1=>V n sc (g.bk.2 (A8.2 (.inl e1.symm)))
 .intro b hb;rcases A8.1 hb with hb|⟨i,u,hi,hb⟩
  .rcases I with h1|h1
   .exact .inl ⟨n,by simp,g.bk.2 (A8.2 (.inl (by rw[<-h1];exact hb)))⟩
   exact .inr (h1 b hb)
  rw[AAa]at hi;split at hi
  .exact .inl ⟨n,by simp,g.bk.2 (A8.2 (.inr ⟨_,u,hi,hb⟩))⟩
  exact .inl ⟨m,by simp,l.bk.2 (A8.2 (.inr ⟨_,u,hi,hb⟩))⟩
 .intro V' Y hk;subst Y;refine⟨z,ins++J,cells++L,.inl rfl,Ym f h (λb h1 N=>?_) C I (λb hb T=>c.block b hb λe1=>T e1.symm) hk S⟩;exact U (hs.dist n m b ⟨_,hn⟩ ⟨_,v⟩ (g.bk.2 h1) (l.bk.2 N))
 intro V' Q Z;refine⟨Q,?_⟩;show DP (plc (V'.ρ n)) _ 0 _ z;rw[Z];exact GN C
theorem A4n (hs:CA w0 K O0 nt ds σ ρ a w) (H:∀b,K b->b<w0.heap.size) (J:∀b,O0 b->b<w0.heap.size) (hT:DC P tb) {d:Nat} (hd:d<nt) {t ty:TypeId} {x y:Operand} {m p:Nat} {l:Ty} {k e:Ty}
  (hx:Aq σ x=some (.raw (.slice none 0 0))) (hy:Aq σ y=some (.sr m l 0 p)) {et G h:TypeId} {ys:List (k.den×List e.den)} (M:lk m σ.objs=some (.nest G h k e ys none)) (L:lk d σ.objs=none)
  (U:G8 m=false) (hu:P.underlying t=some (.slice et)) {te:TI} (A:lk et tb.ty=some te) (B:te.ty=.agg (.prod k (.slice e))) (Q:p=ys.length) (C:ys.length*te.bytes<=AP) :
  ∃z w' ρ',(Builtin.append_ #[t,t] ty #[a.eval x,a.eval y]).run P w=.ok z w' /\
   CA w0 K O0 nt ds ⟨(d,.sr d (.agg (.prod k (.slice e))) 0 ys.length) :: CU [m] σ.env,(d,.nest et h k e ys none) :: Ay [m] [m] σ.objs⟩ ρ' (a.put (some d) z) w':=by
 subst Q;have o:HX (vw w O0 σ ρ) σ a.eval:=Fs hs.env;have q:=hs.objs m _ M;have X:=RG q;obtain⟨Y,E,F,v,g⟩:=q;have hx:a.eval x=.slice none 0 0:=o x _ hx;obtain⟨_,hy⟩:=o y _ hy;have hy:DP (plc (ρ m)) l.size 0 ys.length (a.eval y):=hy;rw[v.plc]at hy;have hy:=Ln g.own hy;rw[hx,hy];have f:=A09 (vw w O0 σ ρ) et h k e;obtain⟨z,w',s,r,c,N⟩:=GP (ty:=ty) hT hu A B f.own (Pj g) (by simpa using C) (ON _);have D:=HY (ty:=ty) hT hu A B f.own (Pj g) (by simpa using C) s;rw[UW f.own]at c;refine⟨z,w',_,s,hs.swap1 (loc:=.tuple (z :: ([]++E)).toArray) H J (tl:=[m]) (λj V=>?_) (.inr L) c.os c.tape c.output c.size ?_ ?_ ?_ hd ?_⟩
 .grind
 .exact λb hb W=>c.block b hb λe1=>by simp[blk]at e1
 .intro b hb;rcases A8.1 hb with hb|⟨i,u,hi,hb⟩
  .rcases D with h1|h1
   .grind [blk]
   exact .inr (h1 b hb)
  exact .inl ⟨m,by simp,v.bk.2 (A8.2 (.inr ⟨_,u,by simpa using hi,hb⟩))⟩
 .intro V' R hk;subst R;refine⟨z,[]++E,[]++F,.inl rfl,?_⟩;have:=Ym f g (λb h1 T=>?_) r D (λb hb O=>c.block b hb λe1=>O e1.symm) hk N
  .simpa using this
  grind [A8,blk]
 intro V' I S;refine⟨I,?_⟩;show DP (plc (V'.ρ d)) _ 0 _ z;rw[S];have n:=GN r;simp only[AA1,AAC]at n;exact n
theorem l0 (hs:CA w0 K O0 nt ds σ ρ a w) (q:∀b,K b->b<w0.heap.size) (r:∀b,O0 b->b<w0.heap.size) (hT:DC P tb) {d:Option Nat} (hd:∀k,d=some k->k<nt) {t u ty:TypeId} {x y:Operand}
  (h:Ek tb σ d t u (Aq σ x) (Aq σ y)=some (vc,σ')) (p:vc) :
  ∃z w' ρ',(Builtin.append_ #[t,u] ty #[a.eval x,a.eval y]).run P w=.ok z w'/\CA w0 K O0 nt ds σ' ρ' (a.put d z) w':=by
 by_cases H:∃n e hi,Aq σ x=some (.sr n e 0 hi)/\DA (lk n σ.objs)=false
 .exact lZ hs q r hT hd h p H
 unfold Ek at h;split at h
 .rename_i n e hi v hx hy;split at h
  .rename_i d;split at h
   .rename_i o;obtain⟨rfl,F⟩:=o;cases f:lk t tb.ty with
    | none=>rw[f]at h;simp[E8]at h
    | some ti =>
     rw[f]at h;unfold E8 at h;split at h
     .rename_i L offs el b B;cases B;split at h
      .rename_i C;subst C;obtain⟨hu,I,te,g,l⟩:=CQ (hT _ _ f) hT;rw[g]at h;unfold Ck at h;split at h
       .rename_i ti et e2 xs h1 hn;exact absurd ⟨n,_,hi,hx,by rw[hn];rfl⟩ H
       .rename_i ti et J k e2 xs h1 hn;cases h1;split at h
        .rename_i c;obtain⟨rfl,rfl⟩:=c;unfold VP at h;split at h
         .rename_i m E R;unfold OE at h;split at h
          .rename_i N X W M ys G;split at h
           .rename_i c;obtain⟨rfl,S,D⟩:=c;cases A:BQ (.slice (.agg (.prod k (.slice e2)))) ⟨.slice (.agg (.prod W (.slice M))),ys⟩ with
            | none=>rw[A]at h;simp[Ld]at h
            | some Z =>
             obtain⟨j,O⟩:=Bk A;injection j with j
             injection j with j s
             injection s with s
             subst j s;cases O;rw[A]at h;simp only[Ld]at h;cases h;obtain⟨T,U,V⟩:=p;exact A0a hs q r hT (hd _ rfl) hx hy hn G S F D hu g l T U V
           cases h
          cases h
         cases h
        cases h
       cases h
      cases h
     cases h
   cases h
  cases h
 .rename_i n e i len v hx hy;split at h
  .rename_i d;split at h
   .rename_i o;subst o;cases f:lk t tb.ty with
    | none=>rw[f]at h;simp[Su]at h
    | some ti =>
     rw[f]at h;unfold Su at h;split at h
     .rename_i L offs el b B;cases B;split at h
      .rename_i C;subst C;obtain⟨hu,I,te,g,l⟩:=CQ (hT _ _ f) hT;rw[g]at h;unfold VO at h;split at h
       .rename_i ti et J k e1 xs h1 hn;cases h1;split at h
        .rename_i c;obtain⟨rfl,rfl,F⟩:=c;exact A4l hs q r hT (hd _ rfl) hx hy hn F hu g l h p
        cases h
       cases h
      cases h
     cases h
   cases h
  cases h
 .rename_i v hx hy;split at h
  .rename_i d;split at h
   .rename_i o;subst o;unfold eD at h;split at h
    .rename_i m E R Y offs el b f;obtain⟨hu,I,te,g,l⟩:=CQ (hT _ _ f) hT;rw[g]at h;unfold Sw at h;split at h
     .rename_i ti N J k e ys h1 G;cases h1;split at h
      .rename_i c;subst c;unfold Sv at h;split at h
       .rename_i c;obtain⟨Q,D⟩:=c;cases h;exact A4n hs q r hT (hd _ rfl) hx hy G (by simpa using Q) D hu g l p.1 p.2
       cases h
      cases h
     cases h
    cases h
   cases h
  cases h
 cases h
theorem l4 (hs:CA w0 K O0 nt ds σ ρ a w) (r:∀b,K b->b<w0.heap.size) (s:∀b,O0 b->b<w0.heap.size) (hT:DC P tb) {id:TypeId} {x y:Operand} (h:JE σ (lk id tb.ty) (Aq σ x) (Aq σ y)=some (vc,σ')) (B:vc) :
  ∃w' ρ',(Instr.storeAt id (a.eval x) (a.eval y)).run P w=.ok () w'/\CA w0 K O0 nt ds σ' ρ' a w':=by
 by_cases A:∃n e i l off,Aq σ x=some (.ep n e i l off)/\DA (lk n σ.objs)=true
 .obtain⟨n,e,i,l,off,hx,f⟩:=A;unfold JE at h;split at h
  .grind
  .rename_i ti G C i' I H v ht g hy;rw[hx]at g;cases g;unfold Di at h;split at h
   .rename_i hn;rw[hn]at f;cases f
   .rename_i et D k e1 xs j hn;split at h
    .rename_i m E hi;split at h
     .rename_i c;obtain⟨rfl,rfl,q⟩:=c;subst q;unfold OG at h;split at h
      .rename_i c;obtain⟨hty,rfl,rfl⟩:=c;unfold OD at h;split at h
       .rename_i F e2 ys z;split at h
        .rename_i c;obtain⟨rfl,t,u⟩:=c;cases d:BQ (.slice E) ⟨.slice e2,ys⟩ with
         | none=>rw[d]at h;simp[Lc]at h
         | some J =>
          obtain⟨o,p⟩:=Bk d;subst o;cases p;rw[d]at h;simp only[Lc]at h;cases h;exact A08 hs r s hT ht hty hx hy hn z u t B
        cases h
       cases h
      cases h
     cases h
    cases h
   cases h
  cases h
 grind [vV,DA,lk]
end
end
end Go.Proofs.YtapkhdkbkodbjaaGreat.Fw
