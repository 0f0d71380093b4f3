/- Calls by contract; stores; appends. -/
import Derived.Test.YtapkhdkbkodbjaaGreatDZC
import Derived.CallsIn
import Derived.TacticsIn
import Derived.OrdersIn
import Derived.RangeFuncCalls
set_option linter.unusedVariables false
set_option linter.unusedSimpArgs false
namespace Go.Proofs.YtapkhdkbkodbjaaGreat.Fw
section
open Go Go.RowKit
def Pv (w:World) (O:Nat->Prop):(ts:List Ty)->List Value->Ka ts->Prop
 | [],a,_=>a=[]
 | t :: ts,a,ds=>∃(v:Value) (r:List Value),a=v :: r/\BR w O t v ds.1/\Pv w O ts r ds.2
def FR (r:Option Nat):Fence:={ fn:=λ_=>True,depth:=none,alive:=false,round:=r }
theorem OX {r:Option Nat} {n:Nat} {P:Program} {f:FuncId} {args:Array Value} {w:World} {R:Ending->World->Prop} (h:Calls P f args w R):CallsIn (FR r) n P f args w R:=by
 cases r with
 | none=>exact callsIn_wide.2 h
 | some l=>exact((callsIn_wide.2 h:CallsIn Fence.wide n P f args w R).inRound l:CallsIn _ n P f args w R)
theorem Gw (r:Option Nat) (ρ:Operand->Value) (o:Oper) (h:∀c,o.op≠.defer c):o.semAt r ρ=execOp ρ o:=by
 cases r with
 | none=>exact Oper.semAt_none ρ o
 | some l=>exact Oper.semAt_some l ρ o h
def A24 (w:World) (O:Nat->Prop) (outs:List RV) (u:Value) (w':World):Prop :=
 ∀nm:Nat,∃ρ',QS w O ⟨[],[]⟩ (λ_=>undef) (HS nm outs) (Cp nm outs) u ρ' w'
def A9k (P:Program) (f:FuncId) (sp:AZ):Prop :=
 ∀(w:World) (O:Nat->Prop) (a:List Value) (ds:Ka sp.ins),(∀b,O b->b<w.heap.size)->Pv w O sp.ins a ds->sp.pre ds ->
  Calls P f a.toArray w λe w'=>∃u,e=.returned u/\A24 w O (sp.out ds) u w'
def Af (P:Program) (f:FuncId) (sp:AZ):Prop :=
 (∃ fn : Func, P.funcs[f]? = some fn /\ (fn.name == "runtime.NumGoroutine") = false /\ fn.body.isNone = false) /\ A9k P f sp
def Iz (P:Program) (tb:Tb):Prop:=∀f sp,lk f tb.fns=some sp->Af P f sp
theorem Pw {w w':World} {O O':Nat->Prop}:∀ {t:Ty} {cs:List Value} {d:t.den},t.flat=true->B0 w O t cs d->B0 w' O' t cs d
 | .int _,_,_,_,h=>h
 | .bool,_,_,_,h=>h
 | .str,_,_,_,h=>h
 | .ref _,_,_,_,h=>h
 | .slice _,_,_,hf,_=>by simp[Ty.flat]at hf
 | .prod a b,_,_,hf,h=>by
  simp only[Ty.flat,An]at hf;obtain⟨c1,c2,rfl,h1,c⟩:=h;exact⟨c1,c2,rfl,Pw hf.1 h1,Pw hf.2 c⟩
 | .agg t,cs,d,hf,h=>by
  simp only[Ty.flat]at hf;have h:B0 w O t cs d:=h;exact(Pw hf h:B0 w' O' t cs d)
theorem Yc {w w':World} {O O':Nat->Prop} {t:Ty} {v:Value} {d:t.den} (hf:t.flat=true) (h:BR w O t v d):BR w' O' t v d :=
 let ⟨cs,h1,a⟩:=h
 ⟨cs,Pw hf h1,a⟩
theorem TJ:∀ {l:List RV} (nm:Nat),l.all RV.flat=true->Cp nm l=[]
 | [],_,_=>rfl
 | .p t d :: l,nm,h=>by
  simp only[ADS,An]at h;simp[Cp,S6,TJ (nm+10000) h.2]
 | .own _ _ _ :: l,nm,h=>by simp[RV.flat]at h
theorem A25 {r:RV} (h:r.flat=true) (nm:Nat):∃t d,dY nm r=.p t d/\t.flat=true:=by
 cases r with
 | p t d=>exact⟨t,d,rfl,h⟩
 | own _ _ _=>simp[RV.flat]at h
theorem A26 {V V':Vw}:∀ {l:List RV} {nm:Nat} {a:List Value},l.all RV.flat=true->Hx V (Hr nm l) a->Hx V' (Hr nm l) a
 | [],_,_,_,h=>h
 | r :: l,nm,a,hf,h=>by
  simp only[ADS,An]at hf;obtain⟨v,f,rfl,h1,b⟩:=h;obtain⟨t,d,e,c⟩:=A25 hf.1 nm;refine⟨v,f,rfl,?_,A26 hf.2 b⟩;rw[e]at h1 ⊢;exact Yc c h1
theorem A27 {V V':Vw} {l:List RV} {nm:Nat} {u:Value} (hf:l.all RV.flat=true) (h:B3 V (HS nm l) u):B3 V' (HS nm l) u:=by
 match l,hf,h with
 | [],_,h=>exact h
 | [r],hf,h =>
  simp only[ADS,List.all_nil,Bool.and_true]at hf;obtain⟨t,d,e,a⟩:=A25 hf nm;simp only[HS]at h ⊢;rw[e]at h ⊢;exact Yc a h
 | c :: f :: l,hf,h =>
  obtain⟨b,rfl,h1⟩:=h;exact⟨b,rfl,A26 hf h1⟩
section
variable {P:Program} {tb:Tb} {w:World} {O0:Nat->Prop} {σ:St} {ρ:Nat->Value} {vc:Prop} {v:AV} {obs:List (Nat×Obj)}
theorem QS.call {outs:List RV} {nm:Nat} {u:Value} {ρ':Nat->Value} {w':World} (hf:Bd (Cp nm outs) σ=true)
  (h:QS w (own O0 σ ρ) ⟨[],[]⟩ (λ_=>undef) (HS nm outs) (Cp nm outs) u ρ' w') :
  QS w O0 σ ρ (HS nm outs) (Cp nm outs) u (λn=>if (lk n (Cp nm outs)).isSome then ρ' n else ρ n) w':=by
 have e:∀n,HG (ET ⟨[],[]⟩ (Cp nm outs)) n↔∃o,lk n (Cp nm outs)=some o:=λn=>by simp[HG,ET]
 have hk:Cq (vw w' (own O0 σ ρ) (ET ⟨[],[]⟩ (Cp nm outs)) ρ') (vw w' O0 (ET σ (Cp nm outs)) (λn=>if (lk n (Cp nm outs)).isSome then ρ' n else ρ n)):=by
  refine⟨?_,?_,?_,λ_ _ _=>rfl⟩
  .intro b _ c d;rcases d with h0|⟨n,hl,hn⟩
   .exact c (.inl (.inl h0))
   rcases Ls hl with ⟨o,a⟩|⟨i,g⟩
   .refine c (.inr ⟨n,(e n).2 ⟨o,a⟩,?_⟩);simpa[a] using hn
   refine c (.inl (.inr ⟨n,g,?_⟩));simpa[i] using hn
  .intro n hn;obtain⟨o,a⟩:=(e n).1 hn;exact⟨o,by simp[ET,A5,a]⟩
  intro n hn;obtain⟨o,a⟩:=(e n).1 hn;simp[vw,a]
 refine⟨h.below,λn hn=>by simp[hn],h.av.keeps hk,λn o a=>?_,λn o b a c=>?_,λn m o j b a f c d=>?_⟩
 .simp only[a,AFc,ADv];exact(h.obj n o a).keeps hk (λ_ _=>rfl)
 .simp only[a,AFc,ADv]at c;exact h.new n o b a c
 simp only[a,f,AFc,ADv]at c d;exact h.dist n m o j b a f c d
theorem aK {V:Vw} {O':Nat->Prop} {l:Bool} (a:∀b,¬V.O b->¬O' b) (e:l=true->∀b,¬O' b) (d:∀n o,lk n σ.objs=some o->A3 V o (V.ρ n)) {ev:Operand->Value} (c:Ha V σ ev) :
  ∀ {ts:List Ty} {xs:List Operand} {ds:Ka ts},GK l σ ts xs=some ds->Pv V.w O' ts (xs.map ev) ds
 | [],[],ds,h=>rfl
 | [],_ :: _,ds,h=>by simp[GK]at h
 | _ :: _,[],ds,h=>by simp[GK]at h
 | t :: ts,x :: xs,ds,h=>by
  simp only[GK]at h;cases hx:Ap σ x with
  | none=>rw[hx]at h;cases h
  | some av =>
   rw[hx]at h;simp only at h;split at h
   .rename_i y ys f g;cases h;exact⟨ev x,xs.map ev,rfl,LU a e d f (c x av hx),aK a e d c g⟩
   cases h
theorem A9l (G:Iz P tb) (y:∀n o,lk n σ.objs=some o->A3 (vw w O0 σ ρ) o (ρ n)) (L:∀b,own O0 σ ρ b->b<w.heap.size) {a:Act} (l:Ha (vw w O0 σ ρ) σ a.eval) {d:Nat} {xs:List Operand} {g:Operand}
  {o:Oper} {ts:Array TypeId} (x:o.op=.call { callee:=.value g,args:=xs.toArray,argTypes:=ts })
  (h:Lm tb σ d xs (Ap σ g)=some (vc,v,obs)) (A:vc) (hf:Bd obs σ=true) {next:Act->World->Prop} {Q:Exit->Act->World->Prop} {r:Option Nat}
  (hn:∀u ρ' w',QS w O0 σ ρ v obs u ρ' w'->next (a.put o.dst u) w'):o.wpIn (FR r) 0 P a w next Q:=by
 cases m:Ap σ g with
 | none=>rw[m]at h;simp[Lm]at h
 | some B =>
  rw[m]at h;have I:=l g B m;unfold Lm at h;split at h
  .rename_i f E;cases E;have H:a.eval g=.func (.func f) #[] #[]:=I;cases s:lk f tb.fns with
   | none=>rw[s]at h;simp[JV]at h
   | some sp =>
    rw[s]at h;simp only[JV]at h;cases i:GK sp.lend σ sp.ins xs with
    | none=>rw[i]at h;simp[Ki]at h
    | some ds =>
     rw[i]at h;simp only[Ki]at h;split at h
     .rename_i hl;cases h;obtain⟨⟨fn,F,K,D⟩,z⟩:=G f sp s;have M:(execOp a.eval o).run P w=.ok (.enter f (xs.map a.eval).toArray) w:=by
       have h1 : ¬ fn.name = "runtime.NumGoroutine" := by simpa using K
       have C:¬fn.body=none:=by intro e;simp[e]at D
       simp[execOp,x,resolve,Deferred.ofValue,H,invoke,callFunc,F,h1,C]
      refine⟨λ_ _=>trivial,?_⟩;rw[Gw _ _ _ (λc e=>by rw[x]at e;cases e),M,Oper.uponIn_enter];refine⟨λh=>(by simp[FR]at h),OX ?_⟩;by_cases p:sp.lend=true
      .rw[p]at i;have t:(sp.out ds).all RV.flat=true:=by
        rcases hl with hl|hl
        .rw[p]at hl;cases hl
        exact hl
       have k:=aK (V:=vw w O0 σ ρ) (O':=λ_=>False) (λ_ _ h=>h) (λ_ _ h=>h) y l i;refine(z w (λ_=>False) _ ds (λ_ h=>h.elim) k A).mono λe w' hh=>?_;obtain⟨u,rfl,q⟩:=hh;obtain⟨ρ',j⟩:=q d;refine hn u ρ w' ?_;rw[TJ d t]at j ⊢;exact⟨j.below,λ_ _=>rfl,A27 t j.av,(λ_ _ h=>by cases h),(λ_ _ _ h=>by cases h),(λ_ _ _ _ _ h=>by cases h)⟩
      have J:sp.lend=false:=by simpa using p
      rw[J]at i;have k:=aK (V:=vw w O0 σ ρ) (O':=own O0 σ ρ) (λ_ h=>h) (λh=>by cases h) y l i;refine(z w (own O0 σ ρ) _ ds L k A).mono λe w' hh=>?_;obtain⟨u,rfl,q⟩:=hh;obtain⟨ρ',j⟩:=q d;exact hn u _ w' (QS.call hf j)
     cases h
  cases h
end
end
section
open Go Go.RowKit
section
variable {P:Program} {tb:Tb} {w:World} {O0:Nat->Prop} {σ:St} {ρ:Nat->Value} {vc:Prop} {v:AV} {obs:List (Nat×Obj)}
theorem Aw {o:Oper} {a:Act} {u:Value} {w':World} {next:Act->World->Prop} {Q:Exit->Act->World->Prop} {r:Option Nat} (h:(execOp a.eval o).run P w=.ok (.value u) w') (hn:next (a.put o.dst u) w') (b:∀c,o.op≠.defer c:=by intro c e;cases e):o.wpIn (FR r) 0 P a w next Q:=by
 refine⟨λ_ _=>trivial,?_⟩;rw[Gw _ _ _ b,h];exact hn
theorem A28 {V:Vw} (x:Value):B3 V (HY x) x:=by
 unfold HY;split
 .rename_i k n;split
  .rename_i h;exact BL h
  exact(rfl:(Value.int k n)=_)
 .exact Bp _
 .rename_i s;split
  .rename_i h;exact VR h
  exact(rfl:(Value.string s)=_)
 exact(rfl:x=x)
theorem Fv {V:Vw} {a:Act} (h:∀s v,lk s σ.env=some v->B3 V v (a.tmps.getD s undef)):Ha V σ a.eval:=by
 intro x v hx;cases x with
 | tmp t=>exact h t v hx
 | const c=>simp only[Ap]at hx;cases hx;exact A28 c
 | global g=>simp[Ap]at hx
 | func f=>simp only[Ap]at hx;cases hx;rfl
structure AAu (P:Program) (tb:Tb) (w:World) (O0:Nat->Prop) (σ:St) (ρ:Nat->Value) (a:Act):Prop where
 hT:DH P tb
 hF:Iz P tb
 obj:∀n o,lk n σ.objs=some o->A3 (vw w O0 σ ρ) o (ρ n)
 own:∀b,own O0 σ ρ b->b<w.heap.size
 ev:Ha (vw w O0 σ ρ) σ a.eval
theorem QS.toP {d n:Nat} {el:TypeId} {e:Ty} {xs:List e.den} {u:Value} {ρ':Nat->Value} {w':World} (hown:∀b,own O0 σ ρ b->b<w.heap.size) (hf:Bd [(d,.arr el e xs)] σ=true)
  (hq:QS w O0 σ ρ (.sr d e 0 n) [(d,.arr el e xs)] u ρ' w') (hn:n=xs.length):QS w O0 σ ρ (.p (.slice e) xs) [] u ρ w' where
 below:=hq.below
 rho:=λ_ _=>rfl
 av:=by
  have hO:∀b,¬own O0 (ET σ [(d,.arr el e xs)]) ρ' b->¬own O0 (ET σ []) ρ b:=by
   intro b hb hb';rcases hb' with h0|⟨m,⟨o,hm⟩,hmb⟩
   .exact hb (.inl h0)
   have hm:lk m σ.objs=some o:=hm;have hne:lk m [(d,Obj.arr el e xs)]=none:=by grind [lk,OQ]
   refine hb (.inr ⟨m,⟨o,by simp only[ET,A5,hne];simpa using hm⟩,?_⟩);rw[hq.rho m hne];exact hmb
  have hd:lk d [(d,Obj.arr el e xs)]=some (.arr el e xs):=by simp[lk]
  have hb:∀b,bk (ρ' d) b->¬own O0 (ET σ []) ρ b:=λb hb hb'=>by
   have h1:=hq.new d _ b hd hb;have h2:=hown b hb';omega
  have hr:=aC (V:=vw w' O0 (ET σ [(d,.arr el e xs)]) ρ') hO (λb hb'=>hb b (.inl hb')) (hq.obj d _ hd) hq.av.2;rw[hn,Ip]at hr;obtain⟨_,_,_,_,_,_,a',c',hve,_⟩:=hq.av.2;exact⟨[u],hr,by rw[hve];rfl⟩
 obj:=λ_ _ h=>by cases h
 new:=λ_ _ _ h=>by cases h
 dist:=λ_ _ _ _ _ h=>by cases h
theorem YH {id:TypeId} {ti:TI} (hT:EU P tb id ti) (g:DH P tb) (r:∀n o,lk n σ.objs=some o->A3 (vw w O0 σ ρ) o (ρ n)) (z:∀b,own O0 σ ρ b->b<w.heap.size) {ev:Operand->Value} (i:Ha (vw w O0 σ ρ) σ ev) {s:Bool} {d n:Nat} {parts:List (Nat×Operand)}
  (h:Bc s σ d n parts (some ti)=some (vc,v,obs)) (f:vc) (hf:Bd obs σ=true) :
  ∃u ρ' w',(Instr.buildSlice id n (parts.map λp=>(p.1,ev p.2)).toArray).run P w=.ok u w'/\QS w O0 σ ρ v obs u ρ' w':=by
 cases s with
 | false=>exact Pt hT g r i h f hf
 | true =>
  unfold Bc at h;split at h
  .rename_i e offs el b C;cases hp:E4 σ e 0 parts with
   | none=>rw[hp]at h;simp[Bg]at h
   | some xs =>
    rw[hp]at h;simp only[Bg,ADv]at h;cases h;obtain⟨a,y⟩:∃a,lk a σ.objs=none:=by
     have:∀l:List (Nat×Obj),∃m,∀k,m<=k->lk k l=none:=by
      intro l;induction l with
      | nil=>exact⟨0,λ_ _=>rfl⟩
      | cons x l B =>
       obtain⟨m,c⟩:=B;refine⟨max m (x.1+1),λk hk=>?_⟩;have:¬k=x.1:=by omega
       obtain⟨j,o⟩:=x;simp only[lk,this,ADz];exact c k (by omega)
     obtain⟨m,c⟩:=this σ.objs;exact⟨m,c m (If m)⟩
    have q:Bd [(a,.arr el e xs)] σ=true:=by simp[Bd,y]
    have A:Bc false σ a n parts (some ti)=some (xs.length=n/\n*e.size<=16777216,.sr a e 0 n,[(a,.arr el e xs)]):=by grind [Bc,Bg]
    obtain⟨u,ρ',w',h1,t⟩:=Pt hT g r i A f q;exact⟨u,ρ,w',h1,t.toP z q f.1.symm⟩
  cases h
theorem eI {V:Vw} {ev:Operand->Value} (d:Ha V σ ev) (w':World) {k:IntKind}:∀(r:List Operand) (a m:Int),FW σ k (some a) r=some m->KW k a->((r.map ev).foldlM Builtin.min2 (.int k a)).run P w'=.ok (.int k m) w'/\KW k m
 | [],a,m,h,ha=>by
  simp only[FW,ADj]at h;subst h;exact⟨rfl,ha⟩
 | x :: r,a,m,h,ha=>by
  simp only[FW]at h;cases hx:Ap σ x with
  | none=>rw[hx]at h;cases r<;>simp[Np,FW]at h
  | some xv =>
   rw[hx]at h;cases c:Np k a (some xv) with
   | none=>rw[c]at h;cases r<;>simp[FW]at h
   | some b' =>
    rw[c]at h;unfold Np at c;split at c
    .rename_i i b e;cases e;split at c
     .rename_i hk;subst hk;cases c;obtain⟨f,g⟩:=BF (d x _ hx);have:=eI d w' r _ m h (by split;exact g;exact ha);rw[RS,List.foldlM_cons,f];simpa[Builtin.min2] using this
     cases c
    cases c
theorem qB {a:Act} (G:AAu P tb w O0 σ ρ a) {o:Oper} (h:aq tb σ (o.dst.getD 0) o.op=some (vc,v,obs)) (B:vc) (hf:Bd obs σ=true)
  {next:Act->World->Prop} {Q:Exit->Act->World->Prop} {r:Option Nat} (hn:∀u ρ' w',QS w O0 σ ρ v obs u ρ' w'->next (a.put o.dst u) w'):o.wpIn (FR r) 0 P a w next Q:=by
 obtain⟨hT,hF,D,U,j⟩:=G;have O:∀n,(vw w O0 σ ρ).L n->∃o,A3 (vw w O0 σ ρ) o ((vw w O0 σ ρ).ρ n):=λn ⟨o,ab⟩=>⟨o,D n o ab⟩;obtain⟨dst,op,type,pos,after,guard⟩:=o;simp only at h hn;cases op<;>simp only[aq]at h<;>try(cases h;done)
 case move x =>
  cases hx:Ap σ x with
  | none=>rw[hx]at h;cases h
  | some xv =>
   rw[hx]at h;simp only[Gu]at h;cases h;exact Aw (u:=a.eval x) (by simp[execOp]) (hn _ _ _ (QS.still (j x _ hx)))
 case assign x =>
  cases hx:Ap σ x with
  | none=>rw[hx]at h;cases h
  | some xv =>
   rw[hx]at h;simp only[Gu]at h;cases h;exact Aw (u:=a.eval x) (by simp[execOp]) (hn _ _ _ (QS.still (j x _ hx)))
 case pick c x y =>
  cases G:Ap σ c with
  | none=>rw[G]at h;simp[LS]at h
  | some N =>
   rw[G]at h;have S:=j c N G;unfold LS at h;split at h
   .rename_i E;cases E;have C:=EL S;cases hx:Ap σ x with
    | none=>rw[hx]at h;simp[Gu]at h
    | some xv =>
     rw[hx]at h;simp only[Gu]at h;cases h;exact Aw (u:=a.eval x) (by simp[execOp,C,asBool]) (hn _ _ _ (QS.still (j x _ hx)))
   .rename_i E;cases E;have C:=EL S;cases q:Ap σ y with
    | none=>rw[q]at h;simp[Gu]at h
    | some H =>
     rw[q]at h;simp only[Gu]at h;cases h;exact Aw (u:=a.eval y) (by simp[execOp,C,asBool]) (hn _ _ _ (QS.still (j y _ q)))
   cases h
 case alloc t =>
  cases d:lk t tb.ty with
  | none=>rw[d]at h;simp[Kd]at h
  | some ti =>
   rw[d]at h;obtain⟨u,ρ',w',h1,e⟩:=A5x (w:=w) (O0:=O0) (ρ:=ρ) (hT _ _ d) h hf;exact Aw (u:=u) (w':=w') (by simp[execOp,h1]) (hn _ _ _ e)
 case box t x =>
  cases d:lk t tb.ty with
  | none=>rw[d]at h;simp[UK]at h
  | some ti =>
   cases hx:Ap σ x with
   | none=>rw[d,hx]at h;simp[UK]at h
   | some xv =>
    rw[d,hx]at h;obtain⟨u,ρ',w',h1,e⟩:=AAs (hT _ _ d) h (j x _ hx) hf;exact Aw (u:=u) (w':=w') (by simp[execOp,h1]) (hn _ _ _ e)
 case build t parts =>
  cases d:lk t tb.ty with
  | none=>rw[d]at h;simp[JR]at h
  | some ti =>
   rw[d]at h;obtain⟨rfl,u,h1,e⟩:=A5z (hT _ _ d) D j h;have h1:(Instr.build t (parts.map λp=>(p.1,a.eval p.2))).run P w=.ok u w:=by
    rw[<-h1]
    congr 2
    apply Array.ext';simp
   exact Aw (u:=u) (w':=w) (by simp[execOp,h1]) (hn _ _ _ (QS.still e))
 case buildSlice t n parts =>
  cases T:lk (dst.getD 0) tb.nests with
  | some al =>
   rw[T]at h;simp only[Gp]at h;cases d:lk t tb.ty with
   | none=>rw[d]at h;simp[JT]at h
   | some ti =>
    rw[d]at h;obtain⟨u,ρ',w',h1,e⟩:=A9f (hT _ _ d) hT D j h B hf;have h1:(Instr.buildSlice t n (parts.map λp=>(p.1,a.eval p.2))).run P w=.ok u w':=by
     rw[<-h1]
     congr 2
     grind
    exact Aw (u:=u) (w':=w') (by simp[execOp,h1]) (hn _ _ _ e)
  | none =>
  rw[T]at h;simp only[Gp]at h;cases d:lk t tb.ty with
  | none=>rw[d]at h;simp[Bc]at h
  | some ti =>
   rw[d]at h;obtain⟨u,ρ',w',h1,e⟩:=YH (hT _ _ d) hT D U j h B hf;have h1:(Instr.buildSlice t n (parts.map λp=>(p.1,a.eval p.2))).run P w=.ok u w':=by
    rw[<-h1]
    congr 2
    apply Array.ext';simp
   exact Aw (u:=u) (w':=w') (by simp[execOp,h1]) (hn _ _ _ e)
 case load t x =>
  cases d:lk t tb.ty with
  | none=>rw[d]at h;simp[Jr]at h
  | some ti =>
   cases hx:Ap σ x with
   | none=>rw[d,hx]at h;simp[Jr]at h
   | some xv =>
    rw[d,hx]at h;obtain⟨rfl,u,h1,e⟩:=A1V (hT _ _ d) D h (j x _ hx);exact Aw (u:=u) (w':=w) (by simp[execOp,h1]) (hn _ _ _ (QS.still e))
 case nilCheck x =>
  cases hx:Ap σ x with
  | none=>rw[hx]at h;simp[VK]at h
  | some xv =>
   rw[hx]at h;obtain⟨rfl,⟨ad,E⟩,e⟩:=AAr h (j x _ hx);exact Aw (u:=a.eval x) (w':=w) (by simp[execOp,E]) (hn _ _ _ (QS.still e))
 case binOp op t x y ar =>
  cases hx:Ap σ x with
  | none=>rw[hx]at h;simp[Ri]at h
  | some xv =>
   cases q:Ap σ y with
   | none=>rw[hx,q]at h;cases xv<;>simp[Ri]at h
   | some H =>
    rw[hx,q]at h;obtain⟨rfl,h1,u,e,A⟩:=AAn (P:=P) (t:=t) (λC=>by
     cases d:lk t tb.ty with
     | none=>rw[d]at C;cases C
     | some ti =>
      have h0:=(hT _ _ d).2;rw[d]at C;unfold S7 at C;split at C
      .grind
      cases C) w h B (j x _ hx) (j y _ q)
    exact Aw (u:=u) (w':=w) (by simp[execOp,h1,e]) (hn _ _ _ (QS.still A))
 case unOp op t x =>
  cases hx:Ap σ x with
  | none=>rw[hx]at h;cases op<;>simp[qUn]at h
  | some xv =>
   rw[hx]at h;obtain⟨rfl,u,e,A⟩:=ADK (P:=P) w h B (j x _ hx);exact Aw (u:=u) (w':=w) (by simp[execOp,e]) (hn _ _ _ (QS.still A))
 case convert s t x =>
  cases hs:lk s tb.ty with
  | none=>rw[hs]at h;simp[Js]at h
  | some ap =>
   cases d:lk t tb.ty with
   | none=>rw[hs,d]at h;simp[Js]at h
   | some ti =>
    cases hx:Ap σ x with
    | none=>rw[hs,d,hx]at h;simp[Js]at h
    | some xv =>
     rw[hs,d,hx]at h;obtain⟨rfl,u,e,A⟩:=A9b (P:=P) hT rfl (hT _ _ hs) (hT _ _ d) h B (j x _ hx);have e:(convert s t (a.eval x)).run P w=.ok u w:=e;exact Aw (u:=u) (w':=w) (by simp[execOp,e]) (hn _ _ _ (QS.still A))
 case makeSlice t l c =>
  cases d:lk t tb.ty with
  | none=>rw[d]at h;simp[Iw]at h
  | some ti =>
   cases hx:Ap σ l with
   | none=>rw[d,hx]at h;simp[Iw]at h
   | some an =>
    cases q:Ap σ c with
    | none=>rw[d,hx,q]at h;simp[Iw]at h
    | some N =>
     rw[d,hx,q]at h;obtain⟨u,ρ',w',h1,e⟩:=A9g (hT _ _ d) hT h B (j l _ hx) (j c _ q) hf;exact Aw (u:=u) (w':=w') (by simp[execOp,h1]) (hn _ _ _ e)
 case slice t x lo hi ah =>
  cases ah with
  | some m =>
   cases lo with
   | some _=>cases hi<;>simp[aq]at h
   | none =>
    cases hi with
    | none=>simp[aq]at h
    | some h1 =>
     simp only[aq]at h;cases d:lk t tb.ty with
     | none=>rw[d]at h;simp[Dr]at h
     | some ti =>
      cases hx:Ap σ x with
      | none=>rw[d,hx]at h;simp[Dr]at h
      | some xv =>
       cases hh:Ap σ h1 with
       | none=>rw[d,hx,hh]at h;simp[Dr]at h
       | some ak =>
        cases F:Ap σ m with
        | none=>rw[d,hx,hh,F]at h;simp[Dr]at h
        | some ao =>
         rw[d,hx,hh,F]at h;obtain⟨rfl,u,e,A⟩:=A20 (P:=P) (V:=vw w O0 σ ρ) (hT _ _ d) hT h B (j x _ hx) (j h1 _ hh) (j m _ F);have e:(Instr.sliceAt t (a.eval x) none (some (a.eval h1)) (some (a.eval m))).run P w=.ok u w:=e;exact Aw (u:=u) (w':=w) (by simp[execOp,e]) (hn _ _ _ (QS.still A))
  | none =>
   simp only[aq]at h;cases d:lk t tb.ty with
   | none=>rw[d]at h;simp[FJ]at h
   | some ti =>
    cases hx:Ap σ x with
    | none=>rw[d,hx]at h;simp[FJ]at h
    | some xv =>
     have R:∀ {y:Option Operand} {M:Option AV},Gt σ y=some M->d9 (V:=vw w O0 σ ρ) M (y.map a.eval):=by
      intro y M q;cases y with
      | none=>simp only[Gt]at q;cases q;trivial
      | some z =>
       simp only[Gt,OF]at q;obtain⟨Y,ag,rfl⟩:=q;exact j z Y ag
     cases I:Gt σ lo with
     | none=>rw[d,hx,I]at h;simp[FJ]at h
     | some am =>
      cases J:Gt σ hi with
      | none=>rw[d,hx,I,J]at h;simp[FJ]at h
      | some aj =>
       rw[d,hx,I,J]at h;obtain⟨rfl,u,e,A⟩:=A5w (P:=P) (V:=vw w O0 σ ρ) (hT _ _ d) hT h B (j x _ hx) (R I) (R J);have e:(Instr.sliceAt t (a.eval x) (lo.map a.eval) (hi.map a.eval) none).run P w=.ok u w:=e;exact Aw (u:=u) (w':=w) (by simp[execOp,e]) (hn _ _ _ (QS.still A))
 case fieldAddr s x f =>
  cases hs:lk s tb.ty with
  | none=>rw[hs]at h;simp[HJ]at h
  | some ti =>
   cases hx:Ap σ x with
   | none=>rw[hs,hx]at h;simp[HJ]at h
   | some xv =>
    rw[hs,hx]at h;obtain⟨rfl,u,e,A⟩:=A5s (P:=P) (hT _ _ hs) w h (j x _ hx);exact Aw (u:=u) (w':=w) (by simp[execOp,e]) (hn _ _ _ (QS.still A))
 case indexAddr t x i =>
  cases d:lk t tb.ty with
  | none=>rw[d]at h;simp[Fm]at h
  | some ti =>
   cases hx:Ap σ x with
   | none=>rw[d,hx]at h;simp[Fm]at h
   | some xv =>
    cases hi:Ap σ i with
    | none=>rw[d,hx,hi]at h;simp[Fm]at h
    | some W =>
     rw[d,hx,hi]at h;obtain⟨rfl,u,e,A⟩:=A5t (P:=P) (V:=vw w O0 σ ρ) (hT _ _ d) hT h B (j x _ hx) (j i _ hi) O;have e:(Instr.indexAt t (a.eval x) (a.eval i)).run P w=.ok u w:=e;exact Aw (u:=u) (w':=w) (by simp[execOp,e]) (hn _ _ _ (QS.still A))
 case index t x i =>
  cases d:lk t tb.ty with
  | none=>rw[d]at h;simp[EW]at h
  | some ti =>
   cases hx:Ap σ x with
   | none=>rw[d,hx]at h;simp[EW]at h
   | some xv =>
    cases hi:Ap σ i with
    | none=>rw[d,hx,hi]at h;simp[EW]at h
    | some W =>
     rw[d,hx,hi]at h;obtain⟨rfl,u,e,A⟩:=A1X (P:=P) (hT _ _ d) w h B (j x _ hx) (j i _ hi);exact Aw (u:=u) (w':=w) (by simp[execOp,e]) (hn _ _ _ (QS.still A))
 case extract x i =>
  cases hx:Ap σ x with
  | none=>rw[hx]at h;simp[Ed]at h
  | some xv =>
   rw[hx]at h;obtain⟨rfl,u,e,A⟩:=zS (P:=P) w h (j x _ hx);exact Aw (u:=u) (w':=w) (by simp[execOp,e]) (hn _ _ _ (QS.still A))
 case makeFunc fn first aa =>
  obtain⟨rfl,u,e,A⟩:=AAt (P:=P) j h;have e:(Instr.makeFunc fn (first.map a.eval) (aa.map a.eval)).run P w=.ok u w:=by
   rw[<-e]
   congr 2<;>(apply Array.ext';simp)
  exact Aw (u:=u) (w':=w) (by simp[execOp,e]) (hn _ _ _ (QS.still A))
 case makeMap t res =>
  cases res with
  | some z=>simp[aq]at h
  | none =>
   simp only[aq]at h;cases d:lk t tb.ty with
   | none=>rw[d]at h;simp[Fq]at h
   | some ti =>
    rw[d]at h;obtain⟨u,ρ',w',h1,e⟩:=zX (w:=w) (O0:=O0) (ρ:=ρ) (hT _ _ d) h hf;exact Aw (u:=u) (w':=w') (by simp[execOp,h1]) (hn _ _ _ e)
 case lookup t x i ok =>
  cases d:lk t tb.ty with
  | none=>rw[d]at h;simp[Iy]at h
  | some ti =>
   cases hx:Ap σ x with
   | none=>rw[d,hx]at h;simp[Iy]at h
   | some xv =>
    cases hi:Ap σ i with
    | none=>rw[d,hx,hi]at h;simp[Iy]at h
    | some W =>
     rw[d,hx,hi]at h;obtain⟨rfl,u,e,A⟩:=A9j (P:=P) (hT _ _ d) hT D h (j x _ hx) (j i _ hi);exact Aw (u:=u) (w':=w) (by simp[execOp,e]) (hn _ _ _ (QS.still A))
 case call c =>
  obtain⟨callee,args,argTypes⟩:=c;cases callee with
  | invoke r m=>simp[Ds]at h
  | value g =>
   simp only[Ds]at h;exact A9l hF D U j (xs:=args.toList) (ts:=argTypes) (o:=⟨dst,.call ⟨.value g,args,argTypes⟩,type,pos,after,guard⟩) (by simp) h B hf hn
  | builtin b =>
   simp only[Ds]at h;obtain⟨args⟩:=args;obtain⟨argTypes⟩:=argTypes;simp only at h;unfold Ef at h;split at h
   .rename_i x t;cases d:lk t tb.ty with
    | none=>rw[d]at h;simp[UL]at h
    | some ti =>
     cases hx:Ap σ x with
     | none=>rw[d,hx]at h;simp[UL]at h
     | some xv =>
      rw[d,hx]at h;obtain⟨rfl,u,e,A⟩:=AAo (P:=P) (ty:=type) (V:=vw w O0 σ ρ) O (hT _ _ d) w h (j x _ hx);exact Aw (u:=u) (w':=w) (by simp[execOp,resolve,invoke,builtin,e]) (hn _ _ _ (QS.still A))
   .rename_i x y t u;cases hx:Ap σ x with
    | none=>rw[hx]at h;simp[DX]at h
    | some xv =>
     cases q:Ap σ y with
     | none=>rw[hx,q]at h;simp[DX]at h
     | some H =>
      rw[hx,q]at h;obtain⟨z,ρ',w',h1,e⟩:=A23 (ty:=type) hT D h B (j x _ hx) (j y _ q) hf;exact Aw (u:=z) (w':=w') (by simp[execOp,resolve,invoke,builtin,h1]) (hn _ _ _ e)
   .rename_i x y t u;cases hx:Ap σ x with
    | none=>rw[hx]at h;simp[Rj]at h
    | some xv =>
     cases q:Ap σ y with
     | none=>rw[hx,q]at h;simp[Rj]at h
     | some H =>
      rw[hx,q]at h;obtain⟨rfl,z,h1,e⟩:=AAp (P:=P) (ts:=#[t,u]) (ty:=type) w h (j x _ hx) (j y _ q);exact Aw (u:=z) (w':=w) (by simp[execOp,resolve,invoke,builtin,h1]) (hn _ _ _ (QS.still e))
   .rename_i x y t u;cases hx:Ap σ x with
    | none=>rw[hx]at h;simp[Rk]at h
    | some xv =>
     cases q:Ap σ y with
     | none=>rw[hx,q]at h;simp[Rk]at h
     | some H =>
      rw[hx,q]at h;obtain⟨rfl,z,h1,e⟩:=AAq (P:=P) (ts:=#[t,u]) (ty:=type) w h (j x _ hx) (j y _ q);exact Aw (u:=z) (w':=w) (by simp[execOp,resolve,invoke,builtin,h1]) (hn _ _ _ (QS.still e))
   .rename_i x y X t u ai;cases hx:Ap σ x with
    | none=>rw[hx]at h;simp[Ix]at h
    | some xv =>
     cases q:Ap σ y with
     | none=>rw[hx,q]at h;simp[Ix]at h
     | some H =>
      cases K:Ap σ X with
      | none=>rw[hx,q,K]at h;simp[Ix]at h
      | some Y =>
       rw[hx,q,K]at h;obtain⟨rfl,z,h1,e⟩:=A9c (P:=P) (ts:=#[t,u,ai]) (ty:=type) w h (j x _ hx) (j y _ q) (j X _ K);exact Aw (u:=z) (w':=w) (by simp[execOp,resolve,invoke,builtin,h1]) (hn _ _ _ (QS.still e))
   .rename_i ts x y z u r;cases hx:Ap σ x with
    | none=>rw[hx]at h;simp[Nq]at h
    | some xv =>
     rw[hx]at h;unfold Nq at h;split at h
     .rename_i k Z E;cases E;cases F:FW σ k (some Z) (y :: z :: u :: r) with
      | none=>rw[F]at h;simp[Pi]at h
      | some m =>
       rw[F]at h;simp only[Pi,ADj,AFu]at h;obtain⟨rfl,rfl,rfl⟩:=h;obtain⟨ae,af⟩:=BF (j x _ hx);obtain⟨h1,e⟩:=eI (P:=P) j w _ _ _ F af;have A:(Builtin.min_ ⟨argTypes⟩ type (a.eval x :: a.eval y :: a.eval z :: a.eval u :: r.map a.eval).toArray).run P w=.ok (.int k m) w:=by
        rw[ae];exact h1
       exact Aw (u:=.int _ m) (w':=w) (by simp[execOp,resolve,invoke,builtin,A]) (hn _ _ _ (QS.still (BL e)))
     cases h
   cases h
end
end
section
open Go Go.RowKit
section
variable {w0:World} {K O0:Nat->Prop} {nt:Nat} {ds:Fp} {σ:St} {ρ:Nat->Value} {a:Act} {w:World}
theorem A5B {n:Nat} {o:Obj} {env:List (Nat×AV)} (m:Nat):HG ⟨env,upd n o σ.objs⟩ m↔HG σ m:=by
 constructor
 .rintro⟨x,hx⟩;rw[GV]at hx;split at hx
  .rename_i e;subst e;simp only[OF]at hx;obtain⟨y,a,_⟩:=hx;exact⟨y,a⟩
  exact⟨x,hx⟩
 rintro⟨x,hx⟩;by_cases e:m=n
 .subst e;exact⟨o,by simp[GV,hx]⟩
 exact⟨x,by simp[GV,e,hx]⟩
theorem B9.upd (h:B9 w0 K O0 nt ds σ ρ a w) (z:∀b,K b->b<w0.heap.size) {n:Nat} {o i:Obj} (hn:lk n σ.objs=some o) {g:Nat} (q:blk (ρ n)=some g) {w':World} (c:w.grownBy w' (some g))
  (F:A3 (vw w' O0 σ ρ) i (ρ n)):B9 w0 K O0 nt ds ⟨σ.env,Fw.upd n i σ.objs⟩ ρ a w':=by
 have d:HG ⟨σ.env,Fw.upd n i σ.objs⟩=HG σ:=funext λm=>propext (A5B m);have u:vw w' O0 ⟨σ.env,Fw.upd n i σ.objs⟩ ρ=vw w' O0 σ ρ:=by
  have D:own O0 ⟨σ.env,Fw.upd n i σ.objs⟩ ρ=own O0 σ ρ:=by
   funext b;simp only[own,d]
  simp only[vw,d,D]
 have B:own O0 σ ρ g:=.inr ⟨n,⟨o,hn⟩,.inl q⟩;have hk:Cq (vw w O0 σ ρ) (vw w' O0 σ ρ):=⟨λ_ _ h=>h,λ_ h=>h,λ_ _=>rfl,λb C A=>c.block b C (λe=>by injection e with e;subst e;exact A B)⟩;refine⟨⟨c.os.trans h.frm.os,c.tape.trans h.frm.tape,c.output.trans h.frm.output,RG h.frm.size c.size,λk r=>?_⟩,h.nt,h.defers,λp hp=>by rw[d];exact h.pin p hp,?_,?_,?_,?_⟩
 .refine(c.block k (bY (z k r) h.frm.size) (λe=>?_)).trans (h.frm.block k r);injection e with e
  subst e;exact(h.free n k ⟨o,hn⟩ (.inl q)).1 r
 .intro m x f;rw[u];rw[GV]at f;split at f
  .grind
  rename_i e;refine(h.objs m x f).keeps hk λb j=>?_;refine c.block b ((h.objs m x f).block_lt j) (λl=>?_);injection l with l
  subst l;exact e (h.dist m n b ⟨x,f⟩ ⟨o,hn⟩ j (.inl q))
 .intro m b hl j;rw[d]at hl;exact h.free m b hl j
 .intro m E b hl t h1 y;rw[d]at hl t;exact h.dist m E b hl t h1 y
 intro s v hs;rw[u];exact(h.env s v hs).keeps hk
theorem Ju (n s:Nat):∀l:List (Nat×AV),lk s (Fj n l)=(lk s l).map (AV.drp n)
 | []=>rfl
 | (j,v) :: l=>by
  simp only[Fj,lk];split
  .rfl
  exact Ju n s l
def Obj.drp (n:Nat):Obj->Obj
 | .arr et e xs=>.arr et e xs
 | .box et st fs=>.box et st (AV.drps n fs)
 | .mapo k v l=>.mapo k v l
 | .nest et b k e xs h=>.nest et b k e xs h
 | .frame i fs=>.frame i (Fj n fs)
 | .loop L=>.loop L
 | .itr c g d f a=>.itr c g d f a
 | .dfr=>.dfr
theorem Bk (n s:Nat):∀l:List (Nat×Obj),lk s (Bb n l)=(lk s l).map (Obj.drp n)
 | []=>rfl
 | (j,.arr et e xs) :: l=>by
  simp only[Bb,lk];split
  .rfl
  exact Bk n s l
 | (j,.box et st fs) :: l=>by
  simp only[Bb,lk];split
  .rfl
  exact Bk n s l
 | (j,.mapo k v x) :: l=>by
  simp only[Bb,lk];split
  .rfl
  exact Bk n s l
 | (j,.nest et b k e xs h) :: l=>by
  simp only[Bb,lk];split
  .rfl
  exact Bk n s l
 | (j,.frame i fs) :: l=>by
  simp only[Bb,lk];split
  .rfl
  exact Bk n s l
 | (j,.loop L) :: l=>by
  simp only[Bb,lk];split
  .rfl
  exact Bk n s l
 | (j,.itr c g d f a) :: l=>by
  simp only[Bb,lk];split
  .rfl
  exact Bk n s l
 | (j,.dfr) :: l=>by
  simp only[Bb,lk];split
  .rfl
  exact Bk n s l
def Vw.but (V:Vw) (n:Nat):Vw:=⟨V.w,V.O,λm=>V.L m/\m≠n,V.ρ⟩
def seat (v:Value):Prop:=(∃a m c,v=.slice a m c)\/∃b,v=.tuple b
theorem I0 {V:Vw} {n:Nat} (hn:seat (V.ρ n)) {x:AV} {v:Value} (h:VL V x v):VL (V.but n) (x.drp n) v:=by
 cases x;case sr m e lo hi =>
  simp only[AV.drp];split
  .trivial
  rename_i g;exact⟨⟨h.1,g⟩,h.2⟩
 case ep m e i p off =>
  simp only[AV.drp];split
  .trivial
  rename_i g;exact⟨⟨h.1,g⟩,h.2⟩
 case nin m e i len =>
  simp only[AV.drp];split
  .trivial
  rename_i g;exact⟨⟨h.1,g⟩,h.2⟩
 case bp m p off =>
  simp only[AV.drp];refine⟨⟨h.1,λe=>?_⟩,h.2⟩;subst e;obtain⟨_,b,d,_⟩:=h;rcases hn with ⟨a,j,c,hs⟩|⟨k,hs⟩<;>(rw[hs]at d;cases d)
 case clo f ns =>
  simp only[AV.drp];refine⟨h.1,λm o=>?_⟩;obtain⟨h1,b,d⟩:=h.2 m o;refine⟨⟨h1,λe=>?_⟩,b,d⟩;subst e;rcases hn with ⟨a,j,c,hs⟩|⟨k,hs⟩<;>(rw[hs]at d;cases d)
 case mp m =>
  simp only[AV.drp];refine⟨⟨h.1,λe=>?_⟩,h.2⟩;subst e;obtain⟨_,b,d,_⟩:=h;rcases hn with ⟨a,j,c,hs⟩|⟨k,hs⟩<;>(rw[hs]at d;cases d)
 case yl m =>
  simp only[AV.drp];refine⟨⟨h.1,λe=>?_⟩,h.2⟩;subst e;obtain⟨_,b,d,_⟩:=h;rcases hn with ⟨a,j,c,hs⟩|⟨k,hs⟩<;>(rw[hs]at d;cases d)
 case ag l=>exact h.elim
 case tup l=>exact h.elim
 all_goals simp only[AV.drp];exact h
theorem A5C {V:Vw} {n:Nat} (hn:seat (V.ρ n)) {x:AV} {cs:List Value} (h:Ng V x cs):Ng (V.but n) (x.drp n) cs:=by
 cases x;case p t d=>simp only[AV.drp];exact h
 case ag l=>obtain⟨v,_,_,hf⟩:=h;exact hf.elim
 case tup l=>obtain⟨v,_,_,hf⟩:=h;exact hf.elim
 all_goals
  obtain⟨v,rfl,h1,c⟩:=h;have a:=I0 hn c;simp only[AV.drp]at a ⊢;first
   | exact⟨v,rfl,h1,a⟩
   | (split at a<;>rename_i b<;>first|(rw[BY b];exact⟨v,rfl,h1,a⟩)|(rw[As b];exact⟨v,rfl,h1,a⟩))
theorem Px {V:Vw} {n:Nat} (hn:seat (V.ρ n)):∀ {l:List AV} {cs:List Value},Dc V l cs->Dc (V.but n) (AV.drps n l) cs
 | [],cs,h=>(h:cs=[])
 | x :: r,cs,h=>by
  obtain⟨c1,c2,rfl,h1,a⟩:=h;simp only[AV.drps];exact⟨c1,c2,rfl,A5C hn h1,Px hn a⟩
theorem A5D {V:Vw} {n:Nat} (hn:seat (V.ρ n)) {x:AV} {v:Value} (hx:TC V x v):TC (V.but n) (x.drp n) v:=by
 cases x;case ag l=>obtain⟨cs,h1,a⟩:=hx;simp only[AV.drp];exact⟨cs,h1,Px hn a⟩
 all_goals exact TC.of1 (I0 hn hx)
theorem eJ {V:Vw} {n:Nat} (hn:seat (V.ρ n)):∀ {l:List AV} {a:List Value},Hx V l a->Hx (V.but n) (AV.drps n l) a
 | [],a,h=>(h:a=[])
 | x :: r,a,h=>by
  obtain⟨v,c,rfl,h1,b⟩:=h;simp only[AV.drps];exact⟨v,c,rfl,A5D hn h1,eJ hn b⟩
theorem A5E {V:Vw} {x:AV} {v:Value} (h:VL V x v):B3 V x v:=by
 cases x;case ag l=>exact h.elim
 case tup l=>exact h.elim
 all_goals exact h
theorem qC {V:Vw} {n:Nat} (hn:seat (V.ρ n)) {x:AV} {v:Value} (h:B3 V x v):B3 (V.but n) (x.drp n) v:=by
 cases x;case ag l=>obtain⟨cs,h1,a⟩:=h;simp only[AV.drp];exact⟨cs,h1,Px hn a⟩
 case tup l=>obtain⟨b,h1,a⟩:=h;simp only[AV.drp];exact⟨b,h1,eJ hn a⟩
 all_goals exact A5E (I0 hn h)
theorem TK (n:Nat):∀l:List AV,(AV.drps n l).length=l.length
 | []=>rfl
 | _ :: r=>by simp[AV.drps,TK n r]
theorem A5F {n:Nat} {b:Obj} {env:List (Nat×AV)} (m:Nat):HG ⟨env,upd n b (Bb n σ.objs)⟩ m↔HG σ m:=by
 constructor
 .rintro⟨x,hx⟩;rw[GV,Bk,Bk]at hx;split at hx
  .rename_i e;subst e;simp only[Option.map_map,OF]at hx;obtain⟨y,a,_⟩:=hx;exact⟨y,a⟩
  simp only[OF]at hx;obtain⟨y,a,_⟩:=hx;exact⟨y,a⟩
 rintro⟨x,hx⟩;by_cases e:m=n
 .subst e;exact⟨b,by simp[GV,Bk,hx]⟩
 exact⟨x.drp n,by simp[GV,Bk,e,hx]⟩
theorem B9.app (h:B9 w0 K O0 nt ds σ ρ a w) (aa:∀b,K b->b<w0.heap.size) (ao:∀b,O0 b->b<w0.heap.size) {n:Nat} (af:Gr n=false) {et:TypeId} {e:Ty} {xs ys:List e.den} (hn:lk n σ.objs=some (.arr et e xs)) {loc:Value} {w':World} {cells:List Value}
  (C:w.grownBy w' (blk (ρ n))) (S:blk loc=blk (ρ n)\/∀b,blk loc=some b->w.heap.size<=b) (G:ys.length<=AO)
  (O:w'.ownsRow 0 et e.size loc ys.length cells) (ae:Dm w (own O0 σ ρ) e cells ys) {d:Nat} (ad:d<nt) {hi:Nat} (ag:hi=ys.length) :
  B9 w0 K O0 nt ds ⟨(d,.sr n e 0 hi) :: Fj n σ.env,Fw.upd n (.arr et e ys) (Bb n σ.objs)⟩ (E5 ρ n loc) (a.put (some d) loc) w':=by
 subst ag;have H:∃a m c,(vw w O0 σ ρ).ρ n=.slice a m c:=by
  obtain⟨_,cells',aj,_⟩:=h.objs n _ hn;rcases aj.2 with ⟨B,_⟩|⟨g,cap,U,B,_⟩
  .exact⟨_,_,_,B⟩
  exact⟨_,_,_,B⟩
 let σ':St:=⟨(d,.sr n e 0 ys.length) :: Fj n σ.env,Fw.upd n (.arr et e ys) (Bb n σ.objs)⟩
 have D:∀m,HG σ' m↔HG σ m:=λm=>A5F m;have F:∀b,bk loc b↔blk loc=some b:=λb=>by
  rcases O.2 with ⟨B,_⟩|⟨g,cap,U,B,_⟩
  .rw[B];exact Lr
  rw[B];exact Lr
 have ap:∀b,bk (ρ n) b↔blk (ρ n)=some b:=λb=>by
  obtain⟨X,am,c2,q⟩:=H;have q:ρ n=_:=q;rw[q];exact Lr
 have ah:∀b,bk loc b->own O0 σ ρ b\/w.heap.size<=b:=by
  intro b f;replace f:=(F b).1 f;rcases S with h1|h1
  .exact .inl (.inr ⟨n,⟨_,hn⟩,.inl (by rw[<-h1];exact f)⟩)
  exact .inr (h1 b f)
 have hk:Cq ((vw w O0 σ ρ).but n) (vw w' O0 σ' (E5 ρ n loc)):=by
  refine⟨?_,λm G=>(D m).2 G.1,λm G=>?_,?_⟩
  .intro b M f A;rcases A with h0|⟨m,hl,J⟩
   .exact f (.inl h0)
   by_cases N:m=n
   .subst N;rw[Bo]at J;rcases ah b J with h1|h1
    .exact f h1
    have M:b<w.heap.size:=M;omega
   have:E5 ρ n loc m=ρ m:=by simp[E5,N]
   rw[this]at J;exact f (.inr ⟨m,(D m).1 hl,J⟩)
  .have:m≠n:=G.2;show E5 ρ n loc m=ρ m;simp[E5,this]
  intro b M f;exact C.block b M (λi=>f (.inr ⟨n,⟨_,hn⟩,.inl i.symm⟩))
 refine⟨⟨C.os.trans h.frm.os,C.tape.trans h.frm.tape,C.output.trans h.frm.output,RG h.frm.size C.size,λk Q=>?_⟩,by rw[Po];exact h.nt,by rw[Kp];exact h.defers,λp hp=>?_,?_,?_,?_,?_⟩
 .refine(C.block k (bY (aa k Q) h.frm.size) (λi=>?_)).trans (h.frm.block k Q);exact(h.free n k ⟨_,hn⟩ (.inl i.symm)).1 Q
 .obtain⟨h1,E,u⟩:=h.pin p hp;have ar:p.1≠n:=by
   intro e2;obtain⟨X,am,c2,q⟩:=H;have q:ρ n=_:=q;rw[<-e2,E]at q;rw[q]at u;rcases u with u|u
   .cases u
   rw[e2,af]at u;cases u
  grind [E5]
 .intro m x r;show A3 (vw w' O0 σ' (E5 ρ n loc)) x (E5 ρ n loc m);rw[GV]at r;split at r
  .rename_i i;subst i;rw[Bk,hn]at r;simp only[AEm]at r;cases r;rw[Bo];exact⟨G,cells,O,ae.keeps (V:=(vw w O0 σ ρ).but m) hk⟩
  rename_i i;rw[Bk]at r;simp only[OF]at r;obtain⟨y,j,rfl⟩:=r;have:E5 ρ n loc m=ρ m:=by simp[E5,i]
  rw[this];have f:∀b,bk (ρ m) b->w'.heap[b]?=w.heap[b]?:=λb A=>by
   refine C.block b ((h.objs m y j).block_lt A) (λe2=>?_);exact i (h.dist m n b ⟨y,j⟩ ⟨_,hn⟩ A (.inl e2.symm))
  have t:=h.objs m y j;cases y with
  | arr W e2 az=>exact A3.keeps (V:=(vw w O0 σ ρ).but n) hk f t
  | box W st fs =>
   obtain⟨h0,b,cs,hl,hh,ab⟩:=t;exact A3.keeps (V:=(vw w O0 σ ρ).but n) (o:=.box W st (AV.drps n fs)) hk f ⟨λak=>by rw[TK];exact h0 ak,b,cs,hl,hh,Px (.inl H) ab⟩
  | mapo k v l=>exact A3.keeps (V:=(vw w O0 σ ρ).but n) hk f t
  | nest et al k e xs hl=>exact A3.keeps (V:=(vw w O0 σ ρ).but n) (o:=.nest et al k e xs hl) hk f (M2 (V:=vw w O0 σ ρ) (V':=(vw w O0 σ ρ).but n) rfl rfl t)
  | frame an fs =>
   obtain⟨h0,h1⟩:=t;refine A3.keeps (V:=(vw w O0 σ ρ).but n) (o:=.frame an (Fj n fs)) hk f ⟨h0,λs z T=>?_⟩;rw[Ju]at T;simp only[OF]at T;obtain⟨y,j,rfl⟩:=T;exact qC (.inl H) (h1 s y j)
  | loop L=>exact A3.keeps (V:=(vw w O0 σ ρ).but n) hk f t
  | itr av ay aw ax au=>exact A3.keeps (V:=(vw w O0 σ ρ).but n) hk f t
  | dfr=>exact A3.keeps (V:=(vw w O0 σ ρ).but n) hk f t
 .intro m b hl f;replace hl:=(D m).1 hl;by_cases i:m=n
  .subst i;rw[Bo]at f;rcases S with h1|h1
   .exact h.free m b hl (.inl (by rw[<-h1];exact(F b).1 f))
   have:=h1 b ((F b).1 f);have:=h.frm.size;grind
  have:E5 ρ n loc m=ρ m:=by simp[E5,i]
  rw[this]at f;exact h.free m b hl f
 .have key:∀m b,HG σ m->m≠n->bk (ρ m) b->bk loc b->False:=by
   intro m b hl N f A;rcases S with h1|h1
   .exact N (h.dist m n b hl ⟨_,hn⟩ f (.inl (by rw[<-h1];exact(F b).1 A)))
   have E:=h1 b ((F b).1 A);obtain⟨y,j⟩:=hl;have:=(h.objs m y j).block_lt f;have:b<w.heap.size:=this;omega
  intro m I b hl R h1 E;replace hl:=(D m).1 hl;replace R:=(D I).1 R;by_cases e1:m=n<;>by_cases e2:I=n
  .rw[e1,e2]
  .grind [E5,Bo]
  .grind [E5,Bo]
  have Y:E5 ρ n loc m=ρ m:=by simp[E5,e1]
  have Z:E5 ρ n loc I=ρ I:=by simp[E5,e2]
  rw[Y]at h1;rw[Z]at E;exact h.dist m I b hl R h1 E
 intro s v hs;show B3 (vw w' O0 σ' (E5 ρ n loc)) v _;rw[M0 a d loc s (by rw[h.nt];exact ad)];simp only[lk]at hs;split at hs
 .rename_i P;cases hs;rw[BY P];refine⟨(D n).2 ⟨_,hn⟩,?_⟩;show DT (plc (E5 ρ n loc n)) e.size 0 ys.length loc;rw[Bo,HZ O];rcases O.2 with ⟨rfl,ai⟩|⟨g,cap,U,rfl,_,_,aq,_⟩
  .exact⟨none,0,0,rfl,by omega,by omega,none,0,by rw[ai],by omega,λ_=>⟨rfl,rfl⟩,λh=>by omega⟩
  exact⟨some ⟨g,0,none⟩,ys.length,cap,rfl,by omega,by omega,some ⟨g,0,none⟩,cap,by simp,by omega,λ_=>⟨rfl,rfl⟩,λ_=>by simp[Mw]⟩
 rename_i P;rw[As P];rw[Ju]at hs;simp only[OF]at hs;obtain⟨y,j,rfl⟩:=hs;exact(qC (.inl H) (h.env s y j)).keeps hk
end
end
section
open Go Go.RowKit
def Vw.buts (V:Vw) (hs:List Nat):Vw:=⟨V.w,V.O,λm=>V.L m/\Aa m hs=false,V.ρ⟩
theorem aL {V:Vw} {hs:List Nat} {x:AV} {v:Value} (h:VL V x v):VL (V.buts hs) (x.fgt hs) v:=by
 cases x;case clo f ns =>
  simp only[AV.fgt];split
  .trivial
  rename_i a;refine⟨h.1,λn hn=>⟨⟨(h.2 n hn).1,?_⟩,(h.2 n hn).2⟩⟩;grind
 case ag l=>exact h.elim
 case tup l=>exact h.elim
 case p t d=>simp only[AV.fgt];exact h
 case pc e d=>simp only[AV.fgt];exact h
 case raw u=>simp only[AV.fgt];exact h
 case ip t d=>simp only[AV.fgt];exact h
 case fn f=>simp only[AV.fgt];exact h
 case top=>trivial
 all_goals
  simp only[AV.fgt];split
  .trivial
  rename_i a;exact⟨⟨h.1,by simpa using a⟩,h.2⟩
theorem A5G {V:Vw} {hs:List Nat} {x:AV} {cs:List Value} (h:Ng V x cs):Ng (V.buts hs) (x.fgt hs) cs:=by
 cases x;case p t d=>simp only[AV.fgt];exact h
 case ag l=>obtain⟨v,_,_,hf⟩:=h;exact hf.elim
 case tup l=>obtain⟨v,_,_,hf⟩:=h;exact hf.elim
 all_goals
  obtain⟨v,rfl,h1,c⟩:=h;have a:=aL (hs:=hs) c;simp only[AV.fgt]at a ⊢;first
   | exact⟨v,rfl,h1,a⟩
   | (split at a<;>rename_i b<;>first|(rw[BY b];exact⟨v,rfl,h1,a⟩)|(rw[As b];exact⟨v,rfl,h1,a⟩))
theorem Py {V:Vw} {hs:List Nat}:∀ {l:List AV} {cs:List Value},Dc V l cs->Dc (V.buts hs) (AV.fgts hs l) cs
 | [],cs,h=>(h:cs=[])
 | x :: r,cs,h=>by
  obtain⟨c1,c2,rfl,h1,a⟩:=h;simp only[AV.fgts];exact⟨c1,c2,rfl,A5G h1,Py a⟩
theorem A5H {V:Vw} {hs:List Nat} {x:AV} {v:Value} (hx:TC V x v):TC (V.buts hs) (x.fgt hs) v:=by
 cases x;case ag l=>obtain⟨cs,h1,a⟩:=hx;simp only[AV.fgt];exact⟨cs,h1,Py a⟩
 all_goals exact TC.of1 (aL hx)
theorem eK {V:Vw} {hs:List Nat}:∀ {l:List AV} {a:List Value},Hx V l a->Hx (V.buts hs) (AV.fgts hs l) a
 | [],a,h=>(h:a=[])
 | x :: r,a,h=>by
  obtain⟨v,c,rfl,h1,b⟩:=h;simp only[AV.fgts];exact⟨v,c,rfl,A5H h1,eK b⟩
theorem Ua {V:Vw} {hs:List Nat} {x:AV} {v:Value} (h:B3 V x v):B3 (V.buts hs) (x.fgt hs) v:=by
 cases x;case ag l=>obtain⟨cs,h1,a⟩:=h;simp only[AV.fgt];exact⟨cs,h1,Py a⟩
 case tup l=>obtain⟨b,h1,a⟩:=h;simp only[AV.fgt];exact⟨b,h1,eK a⟩
 all_goals exact A5E (aL h)
theorem Es (hs:List Nat) (s:Nat):∀l:List (Nat×AV),lk s (CN hs l)=(lk s l).map (AV.fgt hs)
 | []=>rfl
 | (j,v) :: l=>by
  simp only[CN,lk];split
  .rfl
  exact Es hs s l
theorem TL (hs:List Nat):∀l:List AV,(AV.fgts hs l).length=l.length
 | []=>rfl
 | _ :: r=>by simp[AV.fgts,TL hs r]
theorem B7 (a hs:List Nat) (n:Nat):∀l:List (Nat×Obj),lk n (Ar a hs l)=if Aa n a=true then none else (lk n l).map (Obj.fgt hs)
 | []=>by simp[Ar,lk]
 | (j,o) :: l=>by
  simp only[Ar];by_cases b:Aa j a=true
  .rw[BY b,B7 a hs n l];grind [lk]
  rw[As b];simp only[lk];by_cases hn:n=j
  .subst hn;simp[b]
  simp[hn,B7 a hs n l]
theorem aM {V V':Vw} {hs:List Nat} (hk:Cq (V.buts hs) V') {o:Obj} {loc:Value} (a:∀b,bk loc b->V'.w.heap[b]?=V.w.heap[b]?) (h:A3 V o loc):A3 V' (o.fgt hs) loc:=by
 cases o with
 | arr et e xs=>exact A3.keeps (V:=V.buts hs) hk a h
 | box et st fs =>
  obtain⟨h0,b,cs,hl,hh,d⟩:=h;exact A3.keeps (V:=V.buts hs) (o:=.box et st (AV.fgts hs fs)) hk a ⟨λf=>by rw[TL];exact h0 f,b,cs,hl,hh,Py d⟩
 | mapo k v l=>exact A3.keeps (V:=V.buts hs) hk a h
 | nest et i k e xs hl=>exact A3.keeps (V:=V.buts hs) (o:=.nest et i k e xs hl) hk a (M2 (V:=V) (V':=V.buts hs) rfl rfl h)
 | frame j fs =>
  obtain⟨h0,h1⟩:=h;refine A3.keeps (V:=V.buts hs) (o:=.frame j (CN hs fs)) hk a ⟨h0,λs z c=>?_⟩;rw[Es]at c;simp only[OF]at c;obtain⟨y,g,rfl⟩:=c;exact Ua (h1 s y g)
 | loop L=>exact A3.keeps (V:=V.buts hs) hk a h
 | itr n r p q m=>exact A3.keeps (V:=V.buts hs) hk a h
 | dfr=>exact A3.keeps (V:=V.buts hs) hk a h
section
variable {w0:World} {K O0:Nat->Prop} {nt:Nat} {ds:Fp} {σ:St} {ρ:Nat->Value} {a:Act} {w:World}
theorem B9.swap (h:B9 w0 K O0 nt ds σ ρ a w) (G:∀b,K b->b<w0.heap.size) (aa:∀b,O0 b->b<w0.heap.size) {T:Nat->Prop} (hT:∀n,T n->Gr n=false/\∃o,lk n σ.objs=some o/\seat (ρ n))
  {new:List (Nat×Obj)} {σ':St} {ρ':Nat->Value} {w':World} {dst:Option Nat} {u:Value}
  (U:w'.os=w.os) (Y:w'.tape=w.tape) (V:w'.output=w.output) (W:w.heap.size<=w'.heap.size)
  (L:∀b,b<w.heap.size->(∀n,T n->¬bk (ρ n) b)->w'.heap[b]?=w.heap[b]?)
  (r:∀n o,lk n σ'.objs=some o->lk n new=none->¬T n/\∃d,lk n σ.objs=some d)
  (M:∀n o,lk n σ.objs=some o->¬T n->lk n new=none/\∃d,lk n σ'.objs=some d)
  (l:∀n,lk n new=none->ρ' n=ρ n)
  (C:∀n o b,lk n new=some o->bk (ρ' n) b->(∃m,T m/\bk (ρ m) b)\/w.heap.size<=b)
  (H:∀n m o t b,lk n new=some o->lk m new=some t->bk (ρ' n) b->bk (ρ' m) b->n=m)
  (S:∀n o,lk n σ'.objs=some o->A3 (vw w' O0 σ' ρ') o (ρ' n))
  (I:∀s v,lk s σ'.env=some v->B3 (vw w' O0 σ' ρ') v ((a.put dst u).tmps.getD s undef)) :
  B9 w0 K O0 nt ds σ' ρ' (a.put dst u) w':=by
 have ab:∀m,T m->∀b,bk (ρ m) b->b<w.heap.size:=λm c b i=>by
  obtain⟨_,o,g,_⟩:=hT m c;exact(h.objs m o g).block_lt i
 have z:∀m,T m->∀b,bk (ρ m) b->¬K b/\¬O0 b:=λm c b i=>by
  obtain⟨_,o,g,_⟩:=hT m c;exact h.free m b ⟨o,g⟩ i
 refine⟨⟨U.trans h.frm.os,Y.trans h.frm.tape,V.trans h.frm.output,RG h.frm.size W,λk hk=>?_⟩,by rw[Po];exact h.nt,by rw[Kp];exact h.defers,λp hp=>?_,S,?_,?_,I⟩
 .exact(L k (bY (G k hk) h.frm.size) λn hn i=>(z n hn k i).1 hk).trans (h.frm.block k hk)
 .obtain⟨⟨o,h1⟩,f,j⟩:=h.pin p hp;have O:¬T p.1:=λX=>by
   obtain⟨hf,_,_,hs⟩:=hT _ X;rw[f]at hs;rcases j with j|j
   .rcases hs with ⟨_,_,_,y⟩|⟨_,y⟩<;>rw[y]at j<;>cases j
   rw[hf]at j;cases j
  obtain⟨E,F⟩:=M p.1 o h1 O;exact⟨F,(l _ E).trans f,j⟩
 .intro n b hl i;obtain⟨o,g⟩:=hl;cases hn:lk n new with
  | none =>
   obtain⟨_,d,h1⟩:=r n o g hn;rw[l n hn]at i;exact h.free n b ⟨d,h1⟩ i
  | some e =>
   rcases C n e b hn i with ⟨m,c,x⟩|J
   .exact z m c b x
   have:=h.frm.size;grind
 have key:∀n m o e b,lk n σ'.objs=some o->lk n new=none->lk m new=some e->bk (ρ' n) b->bk (ρ' m) b->False:=by
  intro n m o e b g hn c h1 f;obtain⟨P,d,q⟩:=r n o g hn;rw[l n hn]at h1;rcases C m e b c f with ⟨D,A,x⟩|J
  .obtain⟨_,Z,R,_⟩:=hT D A;have:=h.dist n D b ⟨d,q⟩ ⟨Z,R⟩ h1 x;exact P (this▸A)
  have ad:b<w.heap.size:=(h.objs n d q).block_lt h1;omega
 intro n m b hl N h1 f;obtain⟨o,g⟩:=hl;obtain⟨t,B⟩:=N;cases hn:lk n new with
 | none =>
  cases c:lk m new with
  | none =>
   obtain⟨_,d,q⟩:=r n o g hn;obtain⟨_,e,Q⟩:=r m t B c;rw[l n hn]at h1;rw[l m c]at f;exact h.dist n m b ⟨d,q⟩ ⟨e,Q⟩ h1 f
  | some e=>exact(key n m o e b g hn c h1 f).elim
 | some d =>
  cases c:lk m new with
  | none=>exact(key m n t d b B c hn f h1).elim
  | some e=>exact H n m d e b hn c h1 f
end
end
section
open Go Go.RowKit
structure Rq (V V':Vw) (n:Nat) (hs:List Nat):Prop where
 O:∀b,b<V.w.heap.size->¬V.O b->¬V'.O b
 L:∀m,V.L m->Aa m hs=false->V'.L m
 ρ:∀m,V.L m->Aa m hs=false->m≠n->V'.ρ m=V.ρ m
 tup:∃vs,V.ρ n=.tuple vs
 plc:plc (V'.ρ n)=plc (V.ρ n)
 heap:∀b,b<V.w.heap.size->¬V.O b->V'.w.heap[b]?=V.w.heap[b]?
section
variable {V V':Vw} {n:Nat} {hs:List Nat}
theorem Rq.pl (h:Rq V V' n hs) {m:Nat} (a:V.L m) (b:Aa m hs=false):Fw.plc (V'.ρ m)=Fw.plc (V.ρ m):=by
 by_cases e:m=n
 .subst e;exact h.plc
 rw[h.ρ m a b e]
theorem Rq.ptr (h:Rq V V' n hs) {m:Nat} (b:V.L m) (c:Aa m hs=false) {v:Value} (d:V.ρ m=v) (f:∀a,v≠.tuple a):V'.ρ m=v:=by
 have e:m≠n:=λe=>by
  obtain⟨a,h1⟩:=h.tup;grind
 rw[h.ρ m b c e,d]
theorem aN (h:Rq V V' n hs) {x:AV} {v:Value} (hx:VL V x v):VL V' (x.trn n hs) v:=by
 cases x;case ag l=>exact hx.elim
 case tup l=>exact hx.elim
 case p t d=>simp only[AV.trn];exact BR.mono h.O h.heap hx
 case pc e d=>simp only[AV.trn];exact⟨BR.mono h.O h.heap hx.1,hx.2⟩
 case raw u=>simp only[AV.trn];exact hx
 case fn f=>simp only[AV.trn];exact hx
 case top=>trivial
 case ip t d =>
  simp only[AV.trn];obtain⟨ad,cs,k,o,q,A⟩:=hx;have r:ad.block<V.w.heap.size:=by
   have hp:=t.size_pos;have hl:=A.length;have:=block_lt_of_cell (q 0 (cs[0]'(by omega)) (AT (by omega)))
   rwa [CJ]at this
  refine⟨ad,cs,k,h.O _ r o,λj u B=>?_,B0.mono h.O h.heap A⟩;rw[AF7 (w:=V.w) (w':=V'.w)]
  .exact q j u B
  rw[CJ];exact h.heap _ r o
 case sr m e lo hi =>
  simp only[AV.trn];split
  .trivial
  rename_i a;have a:Aa m hs=false:=by simpa using a
  exact⟨h.L m hx.1 a,by rw[h.pl hx.1 a];exact hx.2⟩
 case ep m e i D off =>
  simp only[AV.trn];split
  .trivial
  rename_i a;have a:Aa m hs=false:=by simpa using a
  exact⟨h.L m hx.1 a,by rw[h.pl hx.1 a];exact hx.2⟩
 case nin m e i len =>
  simp only[AV.trn];split
  .trivial
  rename_i a;have C:m≠n:=λe=>a (.inl e);have s:Aa m hs=false:=by grind
  exact⟨h.L m hx.1 s,by rw[h.ρ m hx.1 s C];exact hx.2⟩
 case bp m D off =>
  simp only[AV.trn];split
  .trivial
  rename_i a;have a:Aa m hs=false:=by simpa using a
  obtain⟨c,b,g,k⟩:=hx;exact⟨h.L m c a,b,h.ptr c a g (λ_ e=>by cases e),k⟩
 case mp m =>
  simp only[AV.trn];split
  .trivial
  rename_i a;have a:Aa m hs=false:=by simpa using a
  obtain⟨c,b,g,k⟩:=hx;exact⟨h.L m c a,b,h.ptr c a g (λ_ e=>by cases e),k⟩
 case yl m =>
  simp only[AV.trn];split
  .trivial
  rename_i a;have a:Aa m hs=false:=by simpa using a
  obtain⟨c,b,g,k⟩:=hx;exact⟨h.L m c a,b,h.ptr c a g (λ_ e=>by cases e),k⟩
 case clo f ns =>
  simp only[AV.trn];split
  .trivial
  rename_i E;have y:∀m∈ns,Aa m hs=false:=λm a=>by grind
  have z:∀m∈ns,V'.ρ m=V.ρ m:=λm a=>by
   obtain⟨c,b,g⟩:=hx.2 m a;rw[h.ptr c (y m a) g (λ_ e=>by cases e),g]
  refine⟨?_,λm a=>⟨h.L m (hx.2 m a).1 (y m a),by rw[z m a];exact(hx.2 m a).2⟩⟩;rw[hx.1]
  congr 2
  exact RI λm a=>(z m a).symm
theorem A5I (h:Rq V V' n hs) {x:AV} {cs:List Value} (hx:Ng V x cs):Ng V' (x.trn n hs) cs:=by
 cases x;case p t d=>simp only[AV.trn];exact(B0.mono h.O h.heap hx:B0 V'.w V'.O t cs d)
 case ag l=>obtain⟨v,_,_,hf⟩:=hx;exact hf.elim
 case tup l=>obtain⟨v,_,_,hf⟩:=hx;exact hf.elim
 all_goals
  obtain⟨v,rfl,h1,c⟩:=hx;have a:=aN h c;simp only[AV.trn]at a ⊢;first
   | exact⟨v,rfl,h1,a⟩
   | (split at a<;>rename_i b<;>first|(rw[BY b];exact⟨v,rfl,h1,a⟩)|(rw[As b];exact⟨v,rfl,h1,a⟩))
theorem Pz (h:Rq V V' n hs):∀ {l:List AV} {cs:List Value},Dc V l cs->Dc V' (AV.trns n hs l) cs
 | [],cs,hx=>(hx:cs=[])
 | x :: r,cs,hx=>by
  obtain⟨c1,c2,rfl,h1,a⟩:=hx;simp only[AV.trns];exact⟨c1,c2,rfl,A5I h h1,Pz h a⟩
theorem A5J (h:Rq V V' n hs) {x:AV} {v:Value} (hx:TC V x v):TC V' (x.trn n hs) v:=by
 cases x;case ag l=>obtain⟨cs,h1,a⟩:=hx;simp only[AV.trn];exact⟨cs,h1,Pz h a⟩
 all_goals exact TC.of1 (aN h hx)
theorem eL (h:Rq V V' n hs):∀ {l:List AV} {a:List Value},Hx V l a->Hx V' (AV.trns n hs l) a
 | [],a,hx=>(hx:a=[])
 | x :: r,a,hx=>by
  obtain⟨v,c,rfl,h1,b⟩:=hx;simp only[AV.trns];exact⟨v,c,rfl,A5J h h1,eL h b⟩
theorem aO (h:Rq V V' n hs) {x:AV} {v:Value} (hx:B3 V x v):B3 V' (x.trn n hs) v:=by
 cases x;case ag l=>obtain⟨cs,h1,a⟩:=hx;simp only[AV.trn];exact⟨cs,h1,Pz h a⟩
 case tup l=>obtain⟨b,h1,a⟩:=hx;simp only[AV.trn];exact⟨b,h1,eL h a⟩
 all_goals exact A5E (aN h hx)
theorem Hl (n:Nat) (hs:List Nat) (s:Nat):∀l:List (Nat×AV),lk s (E3 n hs l)=(lk s l).map (AV.trn n hs)
 | []=>rfl
 | (j,v) :: l=>by
  simp only[E3,lk];split
  .rfl
  exact Hl n hs s l
theorem TM (n:Nat) (hs:List Nat):∀l:List AV,(AV.trns n hs l).length=l.length
 | []=>rfl
 | _ :: r=>by simp[AV.trns,TM n hs r]
theorem Ek (n:Nat) (hs:List Nat) (m:Nat):∀l:List (Nat×Obj),lk m (DI n hs l)=if Aa m (n :: hs)=true then none else (lk m l).map (Obj.trn n hs)
 | []=>by simp[DI,lk]
 | (j,o) :: l=>by
  simp only[DI];by_cases a:Aa j (n :: hs)=true
  .rw[BY a,Ek n hs m l];grind [lk]
  rw[As a];simp only[lk];by_cases b:m=j
  .subst b;simp[a]
  simp[b,Ek n hs m l]
theorem qD (h:Rq V V' n hs) {o:Obj} {loc:Value} (a:∀b,bk loc b->V'.w.heap[b]?=V.w.heap[b]?) (hx:A3 V o loc):A3 V' (o.trn n hs) loc:=by
 have hk:Cq ⟨V.w,V.O,λ_=>False,V.ρ⟩ V':=⟨h.O,λ_ h=>h.elim,λ_ h=>h.elim,h.heap⟩;cases o with
 | arr et e xs=>exact A3.keeps (V:=⟨V.w,V.O,λ_=>False,V.ρ⟩) (o:=.arr et e xs) hk a hx
 | box et st fs =>
  obtain⟨h0,b,cs,rfl,h1,d⟩:=hx;exact⟨λf=>by rw[TM];exact h0 f,b,cs,rfl,(a b (.inl rfl)).trans h1,Pz h d⟩
 | mapo k v l=>exact A3.keeps (V:=⟨V.w,V.O,λ_=>False,V.ρ⟩) (o:=.mapo k v l) hk a hx
 | nest et j k e xs hl=>exact A3.keeps (V:=⟨V.w,V.O,λ_=>False,V.ρ⟩) (o:=.nest et j k e xs hl) hk a (M2 (V:=V) (V':=⟨V.w,V.O,λ_=>False,V.ρ⟩) rfl rfl hx)
 | frame t fs =>
  obtain⟨h0,h1⟩:=hx;refine⟨h0,λs z c=>?_⟩;rw[Hl]at c;simp only[OF]at c;obtain⟨y,g,rfl⟩:=c;exact aO h (h1 s y g)
 | loop L=>exact A3.keeps (V:=⟨V.w,V.O,λ_=>False,V.ρ⟩) (o:=.loop L) hk a hx
 | itr m r p q i=>exact A3.keeps (V:=⟨V.w,V.O,λ_=>False,V.ρ⟩) (o:=.itr m r p q i) hk a hx
 | dfr=>exact A3.keeps (V:=⟨V.w,V.O,λ_=>False,V.ρ⟩) (o:=.dfr) hk a hx
end
end
section
open Go Go.RowKit
theorem lS {t:Ty} (h:t.cell1=true):t.size=1:=by cases t<;>simp[Ty.cell1]at h<;>rfl
theorem Yd {V:Vw} {ty:Ty} {x:AV} {a:List Value} (hx:Ng V x a) (hf:Nn ty x=true):a.length=ty.size:=by
 by_cases b:x=.top
 .subst b;obtain⟨v,rfl,_⟩:=hx;grind [Nn,lS]
 have hf:CT ty x=true:=by cases x<;>first|exact hf|exact absurd rfl b
 exact(lN hx hf).1
theorem zY {V:Vw} {ty:Ty} {st:Bool} {fs j:List AV} {o:List Nat} {off:Nat} {u v:AV} {cs c:List Value} (f:Dc V fs cs) (F:st=false->fs.length=1)
  (h:Kk st fs v o=some j) (g:Pg fs o=some off) (hl:Jq st fs o=some u) (hu:Nn ty u=true) (N:CT ty v=true)
  (J:∀l,v=.ag l->Dc V l c) (n:(∀l,v≠.ag l)->Ng V v c) (K:c.length=ty.size) :
  off+c.length<=cs.length/\Dc V j (Ax cs off c)/\(st=false->j.length=1):=by
 unfold Kk at h;split at h
 .simp only[Pg]at g;cases g;simp only[Jq]at hl;cases st with
  | true =>
   simp only[ADv]at h hl;cases hl;have M:cs.length=ty.size:=by
    have:=f.length;cases ty<;>simp only[Nn,CT]at hu<;>try(cases hu;done)
    grind [Ty.size]
   rw[Dv (by omega)];split at h
   .grind [Ng,B0,A22]
   .grind
   cases h
  | false =>
   simp only[iN,ADz]at h hl;split at h
   .rename_i b;have b:∀l,v≠.ag l:=λl e=>by subst e;simp[Pk]at b
    cases h;obtain⟨x,rfl⟩:=AEo.1 (F rfl);simp at hl;subst hl;obtain⟨c1,c2,rfl,h1,a⟩:=f;have a:c2=[]:=a;subst a;have A:=Yd h1 hu;rw[Ra,Dv (by omega)];exact⟨by omega,⟨c,[],by simp,n b,rfl⟩,by simp⟩
   cases h
 .rename_i k;split at h
  .rename_i q;simp only[An]at q;obtain⟨rfl,b⟩:=q;have b:∀l,v≠.ag l:=λl e=>by subst e;simp[Pk]at b
   cases h;simp only[Jq,ADv]at hl;obtain⟨h1,a⟩:=f.get hl;have A:=Yd a hu;have I:=a.length;have E:off=CF fs k:=by grind [Pg,Lj]
   subst E;have i:=n b;have m:=i.length;exact⟨by omega,f.set hl i (by omega),by simp⟩
  cases h
 rename_i k r L;cases st with
 | false=>simp at h
 | true =>
  simp only[ADv]at h;split at h
  .rename_i t d H x hk;simp only[OF]at h;obtain⟨y,G,rfl⟩:=h;simp only[Pg,hk,OF]at g;obtain⟨P,D,rfl⟩:=g;obtain⟨h1,a⟩:=f.get hk;have z:B0 V.w V.O t _ d:=a;have i:B0 V.w V.O H c x:=n (by simp);obtain⟨m,B⟩:=VQ G D z i;have C:=a.length;simp only[AV.cells]at h1 C B m;have s:=f.set (y:=.p t y) hk (m:B0 V.w V.O t _ y) rfl;rw[Nt _ _ _ _ _ (by omega) h1]at s;exact⟨by omega,s,by simp⟩
  cases h
section
variable {P:Program} {tb:Tb} {w0:World} {K O0:Nat->Prop} {nt:Nat} {ds:Fp} {σ σ':St} {ρ:Nat->Value} {a:Act} {w:World} {vc:Prop}
theorem TN {n:Nat} {o:Obj} (hn:lk n σ.objs=some o) {g:Nat} (c:blk (ρ n)=some g) {w':World} (d:w.grownBy w' (some g)):Cq (vw w O0 σ ρ) (vw w' O0 σ ρ) :=
 ⟨λ_ _ h=>h,λ_ h=>h,λ_ _=>rfl,λb f a=>d.block b f (λe=>by injection e with e;subst e;exact a (.inr ⟨n,⟨o,hn⟩,.inl c⟩))⟩
theorem Fx (w:World) (g:Nat) (cs:Array Value):w.grownBy (w.setRow g cs) (some g) :=
 ⟨rfl,rfl,rfl,by simp,λk _ hk=>setRow_other w g k cs (λe=>hk (by rw[e]))⟩
theorem Lw {id:TypeId} {ti:TI} (hT:EU P tb id ti) {g off:Nat} {cs:List Value} {et:TypeId} {xv:Value} (hh:w.heap[g]?=some (.cells cs.toArray et (0,0))) (hs:xv.cells.size=ti.ty.size)
  (hl:off+xv.cells.toList.length<=cs.length) (h1:∀u∈xv.cells.toList,u.oneCell'=true) :
  (Instr.storeAt id (.pointer (some ⟨g,off,none⟩)) xv).run P w=.ok () (w.setRow g (Ax cs off xv.cells.toList).toArray):=by
 have a:=run_storeCells_at P g off et xv.cells.toList 0 cs.toArray w hh (by simpa using hl) h1;simp only[Nat.add_zero]at a;have b:¬xv.cells.size≠ti.ty.size:=by omega
 simp only[Instr.storeAt,Instr.sureAddr,storeVar,ADx,AED,iF,Hz w hT,As b,a];rfl
theorem qE {o:Oper} {w':World} {next:Act->World->Prop} {Q:Exit->Act->World->Prop} {r:Option Nat} (h:(execOp a.eval o).run P w=.ok .skip w') (hn:next (a.put o.dst undef) w') (b:∀c,o.op≠.defer c:=by intro c e;cases e):o.wpIn (FR r) 0 P a w next Q:=by
 refine⟨λ_ _=>trivial,?_⟩;rw[Gw _ _ _ b,h];exact hn
theorem zZ (hs:B9 w0 K O0 nt ds σ ρ a w) (ak:∀b,K b->b<w0.heap.size) (hT:DH P tb) {id:TypeId} {x y:Operand} (bs:∀n e i s off,Ap σ x=some (.ep n e i s off)->Co (lk n σ.objs)=false) (h:Hv σ (lk id tb.ty) (Ap σ x) (Ap σ y)=some (vc,σ')) (cw:vc) :
  ∃w',(Instr.storeAt id (a.eval x) (a.eval y)).run P w=.ok () w'/\B9 w0 K O0 nt ds σ' ρ a w':=by
 have G:Ha (vw w O0 σ ρ) σ a.eval:=Fv hs.env;unfold Hv at h;split at h
 .rename_i ti n s off v aa hx af;have ae:=G x _ hx;have D:=G y _ af;cases hn:lk n σ.objs with
  | none=>rw[hn]at h;simp[DY]at h
  | some o =>
   rw[hn]at h;cases o with
   | arr et e xs=>simp[DY]at h
   | mapo k v l=>simp[DY]at h
   | frame cl fs=>simp[DY]at h
   | loop L=>simp[DY]at h
   | itr cg cj ch ci ce=>simp[DY]at h
   | dfr=>simp[DY]at h
   | nest et cf k e xs hl=>simp[DY]at h
   | box et st fs =>
    simp only[DY]at h;cases I:Jq st fs s with
    | none=>rw[I]at h;simp[FA]at h
    | some u =>
     cases Y:Kk st fs v s with
     | none=>rw[I,Y]at h;simp[FA]at h
     | some co =>
      rw[I,Y]at h;simp only[FA]at h;split at h
      .rename_i ax;obtain⟨hu,ab,bt,_⟩:=ax;cases h;obtain⟨bz,b,cs,U,C,bh⟩:=hs.objs n _ hn;obtain⟨bf,b',f,ad⟩:=ae;have f:ρ n=_:=f;rw[U]at f;injection f with f
       injection f with f
       injection f with f
       subst f;have H:=A1U D ab (Nu D ab);have al:∀l,v=.ag l->Dc (vw w O0 σ ρ) l (a.eval y).cells.toList:=by
        intro l e;subst e;obtain⟨cn,A,bi⟩:=D;rw[A];simpa[Value.cells] using bi
       obtain⟨h1,Q,bc⟩:=zY bh bz Y bt I hu ab al (λJ=>H.2 J) (by simpa using H.1);have bv:∀z∈(a.eval y).cells.toList,z.oneCell'=true:=by
        by_cases J:∃l,v=.ag l
        .obtain⟨l,e⟩:=J;exact(al l e).one
        exact(H.2 (λl e=>J ⟨l,e⟩)).one
       have X:=Lw (hT _ _ aa) C H.1 h1 bv;rw[ad];refine⟨_,X,?_⟩;have t:blk (ρ n)=some b:=by rw[U];rfl
       refine hs.upd ak hn t (Fx w b _) ⟨bc,b,_,U,setRow_heap w b _ _ et _ C,?_⟩;exact Q.keeps (TN hn t (Fx w b _))
      cases h
 .rename_i ti n e i s off v aa hx af;have ae:=G x _ hx;have D:=G y _ af;cases hn:lk n σ.objs with
  | none=>rw[hn]at h;simp[DZ]at h
  | some o =>
   rw[hn]at h;cases o with
   | box et st fs=>simp[DZ]at h
   | mapo k v l=>simp[DZ]at h
   | frame cl fs=>simp[DZ]at h
   | loop L=>simp[DZ]at h
   | itr cg cj ch ci ce=>simp[DZ]at h
   | dfr=>simp[DZ]at h
   | nest et cf k e xs hl=>have:=bs _ _ _ _ _ hx;rw[hn]at this;cases this
   | arr et d xs =>
    simp only[DZ]at h;cases S:BO (.slice e) ⟨.slice d,xs⟩ with
    | none=>rw[S]at h;simp[Eg]at h
    | some ys =>
     obtain⟨rfl,Q⟩:=Bh S;cases Q;rw[S]at h;cases R:Mx false σ ti.ty v with
     | none=>rw[R]at h;simp[Eg]at h
     | some cm =>
      rw[R]at h;simp only[Eg]at h;cases Z:VI s d (xs.getD i d.dflt) ⟨ti.ty,cm⟩ with
      | none=>rw[Z]at h;simp[Fs]at h
      | some z =>
       rw[Z]at h;simp only[Fs]at h;split at h
       .rename_i bu;cases h;obtain⟨bq,cells,M,F⟩:=hs.objs n _ hn;obtain⟨bf,g,m,c,f,W,ad⟩:=ae;have f:plc (ρ n)=_:=f;have M:w.ownsRow 0 et d.size (ρ n) xs.length cells:=M;rw[HZ M]at f;have F:Dm w (own O0 σ ρ) d cells xs:=F;have cc:=LU (V:=vw w O0 σ ρ) (O':=own O0 σ ρ) (λ_ h=>h) (λh=>by cases h) hs.objs R D;obtain⟨aw,av⟩:=YX cc;obtain⟨au,bw⟩:=M;rcases bw with ⟨A,_⟩|⟨cp,cap,r,A,cr,C,an,bg,T,ca⟩
        .grind
        rw[f]at A;injection A with B bj bk
        injection B with B
        injection B with B
        subst B;subst bj;have cd:xs[i]?=some (xs.getD i d.dflt):=by
         rw[AT W,AS,AT W];rfl
        obtain⟨aj,bm,ap,bl⟩:=F i _ cd;obtain⟨bd,be⟩:=VQ Z bu bl av;have cq:cells.length=xs.length*d.size:=au;have bo:(i+1)*d.size<=xs.length*d.size:=RU _ W;have ct:xs.length*d.size<=cap*d.size:=RU _ an;rw[ADH]at bo;have am:i*d.size+off+(a.eval y).cells.toList.length<=r.toList.length:=by
         have bp:r.toList.length=cap*d.size:=by rw[<-T];simp
         have cv:(a.eval y).cells.toList.length=ti.ty.size:=by rw[<-aw];simp
         omega
        have bn:w.heap[g]?=some (.cells r.toList.toArray et (0,0)):=by simpa using C
        have X:=Lw (hT _ _ aa) bn aw am av.one;rw[ad];refine⟨_,X,?_⟩;have t:blk (ρ n)=some g:=by rw[f];rfl
        have bx:(Ax r.toList (i*d.size+off) (a.eval y).cells.toList).length=r.size:=by rw[FD am];simp
        have cb:(Ax r.toList (i*d.size+off) (a.eval y).cells.toList).take (xs.length*d.size)=Ax cells (i*d.size+off) (a.eval y).cells.toList:=by
         rw[<-ca];apply AF1;intro j;simp only[Ax,RN,Sz,AAi,OS,AAk,List.take_take];have ah:min (i*d.size+off) r.toList.length=i*d.size+off:=by omega
         have E:min (i*d.size+off) (xs.length*d.size)=i*d.size+off:=by omega
         have ck:min (xs.length*d.size) r.toList.length=xs.length*d.size:=by
          have bp:r.toList.length=cap*d.size:=by rw[<-T];simp
          omega
         simp only[ah,E,ck];by_cases c1:j<i*d.size+off
         .simp[c1,show j<xs.length*d.size by omega]
         by_cases c2:j-(i*d.size+off)<(a.eval y).cells.toList.length
         .simp only[c1,c2,ADz,ADv,show j<xs.length*d.size by omega]
         simp only[c1,c2,ADz];by_cases ai:j<xs.length*d.size
         .rw[BY ai,BY (by omega)]
         rw[As ai,As (by omega)]
        refine hs.upd ak hn t (Fx w g _) ⟨by simpa using bq,Ax cells (i*d.size+off) (a.eval y).cells.toList,⟨?_,.inr ⟨g,cap,_,by rw[f,bk];simp,NO _,setRow_heap w g _ _ et _ C,by simpa using an,bg,by simp[bx,T],?_⟩⟩,?_⟩
        .rw[FD (by omega)];simpa using au
        .simpa using cb
        have hk:=TN (O0:=O0) hn t (Fx w g (Ax r.toList (i*d.size+off) (a.eval y).cells.toList).toArray);have br:Dm (vw w O0 σ ρ).w (vw w O0 σ ρ).O d (Ax cells (i*d.size+off) (a.eval y).cells.toList) (xs.set i z):=by
         intro k q N;rw[ADt]at N;split at N
         .rename_i aq;subst aq;cases N;refine⟨Ax aj off (a.eval y).cells.toList,by rw[FD be];exact bm,λj u p=>?_,bd⟩;simp only[Ax,RN,AAi,OS,Sz,AAk]at p ⊢;have ah:min off aj.length=off:=by omega
          have E:min (i*d.size+off) cells.length=i*d.size+off:=by omega
          simp only[ah]at p;simp only[E];by_cases c1:j<off
          .simp only[c1,ADv]at p;simp only[show i*d.size+j<i*d.size+off by omega,ADv];exact ap _ _ p
          simp only[c1,ADz]at p;simp only[show ¬i*d.size+j<i*d.size+off by omega,ADz];rw[show i*d.size+j-(i*d.size+off)=j-off by omega];by_cases c2:j-off<(a.eval y).cells.toList.length
          .simp only[c2,ADv]at p ⊢;exact p
          simp only[c2,ADz]at p ⊢;have:=ap _ _ p;rw[<-this]
          congr 1
          omega
         rename_i aq;obtain⟨ay,az,ba,bb⟩:=F k q N;refine⟨ay,az,λj u p=>?_,bb⟩;have cu:=(RF.1 p).1;have ao:=ba j u p;simp only[Ax,RN,AAi,OS,Sz,AAk];have E:min (i*d.size+off) cells.length=i*d.size+off:=by omega
         simp only[E];rcases Nat.lt_or_ge k i with ar|ar
         .have:(k+1)*d.size<=i*d.size:=RU _ ar;rw[ADH]at this;simp only[show k*d.size+j<i*d.size+off by omega,ADv];exact ao
         have:(i+1)*d.size<=k*d.size:=RU _ (by omega);rw[ADH]at this;simp only[show ¬k*d.size+j<i*d.size+off by omega,ADz,show ¬k*d.size+j-(i*d.size+off)<(a.eval y).cells.toList.length by omega];rw[<-ao]
         congr 1
         omega
        exact br.keeps hk
       cases h
 cases h
theorem z0 (hs:B9 w0 K O0 nt ds σ ρ a w) (B:∀b,K b->b<w0.heap.size) (s:DH P tb) {t:TypeId} {m x y:Operand} (h:Kn tb σ (lk t tb.ty) (Ap σ m) (Ap σ x) (Ap σ y)=some (vc,σ')) :
  ∃w',(Instr.mapUpdate t (a.eval m) (a.eval x) (a.eval y)).run P w=.ok () w'/\B9 w0 K O0 nt ds σ' ρ a w':=by
 have g:Ha (vw w O0 σ ρ) σ a.eval:=Fv hs.env;unfold Kn at h;split at h
 .rename_i k e _ _ n xv U N J hx Q;have O:=g x _ hx;have R:=g y _ Q;obtain⟨W,b,d,L⟩:=g m _ J;have d:ρ n=_:=d;cases hn:lk n σ.objs with
  | none=>rw[hn]at h;simp[Ft]at h
  | some o =>
   rw[hn]at h;cases o with
   | mapo X T l =>
    cases j:lk k tb.ty with
    | none=>simp[Ft,j]at h
    | some S =>
     simp only[Ft,j,AEm,ADj]at h;split at h
     .rename_i E;obtain⟨rfl,F⟩:=E;cases f:Mx false σ S.ty xv with
      | none=>rw[f]at h;simp[Gq]at h
      | some kd =>
       cases p:Mx false σ T U with
       | none=>rw[f,p]at h;simp[Gq]at h
       | some Z =>
        rw[f,p]at h;simp only[Gq]at h;split at h
        .rename_i H;cases h;have h1:=LU (V:=vw w O0 σ ρ) (O':=own O0 σ ρ) (λ_ h=>h) (λh=>by cases h) hs.objs f O;have A:=LU (V:=vw w O0 σ ρ) (O':=own O0 σ ρ) (λ_ h=>h) (λh=>by cases h) hs.objs p R;obtain⟨b',r,q,c,M,⟨Y,z⟩,G,D⟩:=A9i (w:=w) (V:=vw w O0 σ ρ) s (s _ _ N) (n:=n) rfl rfl j rfl (hs.objs n _ hn) F H h1 A;have c:ρ n=_:=c;rw[d]at c;injection c with c
         injection c with c
         subst c;rw[L];refine⟨_,M,?_⟩;have u:blk (ρ n)=some b:=by rw[d];rfl
         have v:w.grownBy { w with heap:=w.heap.setIfInBounds b (.map r q) } (some b) :=
          ⟨rfl,rfl,rfl,by simp,λi _ hi=>(MapKept.heap_set z).2 i (λe=>hi (by rw[e]))⟩
         refine hs.upd B hn u v ⟨b,r,q,d,(MapKept.heap_set z).1,?_⟩;refine⟨?_,D⟩;exact G.mono (λ_ _ h=>h) (λb2 I C=>v.block b2 I (λe=>by injection e with e;subst e;exact C (.inr ⟨n,⟨_,hn⟩,.inl u⟩)))
        cases h
     cases h
   | _=>simp[Ft]at h
 cases h
end
end
section
open Go Go.RowKit
section
variable {P:Program} {tb:Tb} {w0:World} {K O0:Nat->Prop} {nt:Nat} {ds:Fp} {σ σ':St} {ρ:Nat->Value} {a:Act} {w:World} {vc:Prop} {id:TypeId}
theorem Ub {w:World} {base:Nat} {et:TypeId} {sz n:Nat} {s:Value} {xs:List Value} (h:w.ownsRow base et sz s n xs):s.ownBlock=blk s:=by
 rcases h.2 with ⟨rfl,_⟩|⟨g,cap,a,rfl,_⟩<;>rfl
theorem Hb (t:DH P tb) {el:TypeId} {e:Ty} (hu:P.underlying id=some (.slice el)) {te:TI} (y:lk el tb.ty=some te) (I:te.ty=e) {base ty:Nat} {s xv:Value} {n:Nat} {xs B:List Value}
  (p:w.ownsRow base el e.size s n xs) {O:Nat->Prop} {ys:List e.den} (S:Src w O e xv ys B) (T:(n+ys.length)*te.bytes<=AO) {f:Value} {w':World}
  (h:(Builtin.append_ #[id,id] ty #[s,xv]).run P w=.ok f w'):blk f=blk s\/∀b,blk f=some b->w.heap.size<=b:=by
 subst I;obtain⟨⟨⟨_,G,_⟩,i,z,hi,k,v,A,ah⟩,_⟩:=t _ _ y;have Q:n+ys.length<=AO:=by
  have:(n+ys.length)*1<=(n+ys.length)*te.bytes:=AEn _ G;omega
 have ab:AO=140737488355328:=rfl;obtain⟨⟨a,c,rfl,E⟩,L,Y,af,aa⟩:=S;have hs:(sizeOf el).run P w=.ok te.ty.size w:=Hz w (t _ _ y);have ai:∀ {l C:Nat} {W:World},Result.ok (Value.slice (some ⟨w.heap.size,0,none⟩) l C) W=Result.ok f w'->blk f=blk s\/∀b,blk f=some b->w.heap.size<=b:=by grind [blk]
 have U:∀(ad:Addr) (m:Nat) (d:List Value),d.length=m*te.ty.size->(∀(j:Nat) (u:Value),d[j]?=some u->w.cell? (ad.add j)=some u)->(∀u∈d,u.oneCell'=true)->n+m<=AO->(n+m)*te.bytes<=AO ->
   (Builtin.append_ #[id,id] ty #[s,.slice (some ad) m c]).run P w=.ok f w'->blk f=blk s\/∀b,blk f=some b->w.heap.size<=b:=by
  intro ad m d hl o h1 Z F h;rcases p.2 with ⟨rfl,rfl⟩|⟨g,cap,r,rfl,V,K,ae,X,H,ag⟩
  .by_cases M:m=0
   .subst M;have:d=[]:=RQ (by simpa using hl);simp[Builtin.append_,RL hu,hs,Builtin.lenOf,Builtin.firstCells,loadCells,loadCellsFrom]at h;grind
   have:=run_append_nil (P:=P) w id ty el i z hu hi A ad m c d (by rw[k];exact hl) o (by omega) (by omega) (by rw[v];simp at F;omega);grind
  by_cases x:n+m<=cap
  .have J:n*i.size+d.length<=r.size:=by
    rw[hl,k,H,<-AF0];exact RU _ x
   have:=run_append_room (P:=P) w id ty el i hu hi g n cap r K ad m c d (by rw[k];exact hl) o h1 x J;rw[this]at h;injection h with q D
   subst q;exact .inl rfl
  have R:∀j u,xs[j]?=some u->w.cell? ((⟨g,0,none⟩:Addr).add j)=some u:=p.cells (g:=g) rfl;have:=run_append_grow (P:=P) w id ty el i z hu hi A ⟨g,0,none⟩ n cap xs (by rw[k];exact p.1) R ad m c d (by rw[k];exact hl) o (by omega) (by omega) (by rw[v];exact growslice_fits (by omega) (by omega));grind
 rcases E with rfl|⟨ad,rfl,o⟩
 .have N:B=[]:=RQ (by simpa using L);subst N;cases a with
  | none =>
   have:=TF (P:=P) (ty:=ty) hu hs p c;rw[show ([]:List te.ty.den).length=0 from rfl,this]at h;injection h with q D
   subst q;exact .inl rfl
  | some ad=>exact U ad 0 [] (by simp) (by simp) (by simp) (by simpa using Q) (by simpa using T) h
 grind
theorem lU {w:World} {O:Nat->Prop} {e:Ty} {c:List Value} {xs:List e.den} (h:Dm w O e c xs) (n:Nat):Dm w O e (c.take (n*e.size)) (xs.take n):=by
 intro i x hi;rw[Sz]at hi;split at hi
 .rename_i g;obtain⟨a,b,k,d⟩:=h i x hi;refine⟨a,b,λj u f=>?_,d⟩;have l:=(RF.1 f).1;have:(i+1)*e.size<=n*e.size:=RU _ g;grind
 cases hi
theorem lV (hs:B9 w0 K O0 nt ds σ ρ a w) (ab:∀b,K b->b<w0.heap.size) (ad:∀b,O0 b->b<w0.heap.size) (hT:DH P tb) {d:Option Nat} (af:∀k,d=some k->k<nt) {t u ty:TypeId} {x y:Operand}
  (h:EX tb σ d t u (Ap σ x) (Ap σ y)=some (vc,σ')) (ao:vc) (ae:∃n e hi,Ap σ x=some (.sr n e 0 hi)/\Co (lk n σ.objs)=false) :
  ∃z w' ρ',(Builtin.append_ #[t,u] ty #[a.eval x,a.eval y]).run P w=.ok z w'/\B9 w0 K O0 nt ds σ' ρ' (a.put d z) w':=by
 have M:Ha (vw w O0 σ ρ) σ a.eval:=Fv hs.env;obtain⟨n0,Z,aj,V,Q⟩:=ae;unfold EX at h;split at h
 .rename_i n e hi v hx ap;obtain⟨rfl,rfl,rfl⟩:n=n0/\e=Z/\hi=aj:=by rw[hx]at V;cases V;exact⟨rfl,rfl,rfl⟩
  split at h
  .rename_i d;split at h
   .rename_i G;obtain⟨G,ai⟩:=G;subst G;cases F:lk t tb.ty with
    | none=>rw[F]at h;simp[Eh]at h
    | some ti =>
     rw[F]at h;unfold Eh at h;split at h
     .rename_i j offs el b i;cases i;split at h
      .rename_i ag;subst ag;obtain⟨hu,be,te,E,S⟩:=CU (hT _ _ F) hT;rw[E]at h;cases hn:lk n σ.objs with
       | none=>rw[hn]at h;cases f:Pf σ j v<;>rw[f]at h<;>simp[Ce]at h
       | some o =>
        rw[hn]at h;cases o with
        | box et st fs=>cases f:Pf σ j v<;>rw[f]at h<;>simp[Ce]at h
        | mapo aq v1 l=>cases f:Pf σ j v<;>rw[f]at h<;>simp[Ce]at h
        | frame bn fs=>cases f:Pf σ j v<;>rw[f]at h<;>simp[Ce]at h
        | loop L=>cases f:Pf σ j v<;>rw[f]at h<;>simp[Ce]at h
        | itr bh bk bi bj bf=>cases f:Pf σ j v<;>rw[f]at h<;>simp[Ce]at h
        | nest et bg aq e1 xs hl=>rw[hn]at Q;cases Q
        | dfr=>cases f:Pf σ j v<;>rw[f]at h<;>simp[Ce]at h
        | arr et e2 xs =>
         simp only[Ce]at h;split at h
         .rename_i ah;subst ah;cases s:BO (.slice j) ⟨.slice e2,xs⟩ with
          | none=>rw[s]at h;simp[FB]at h
          | some bo =>
           obtain⟨rfl,aa⟩:=Bh s;cases aa;rw[s]at h;cases f:Pf σ e2 v with
           | none=>rw[f]at h;simp[FB]at h
           | some ys =>
            rw[f]at h;simp only[FB]at h;cases h;obtain⟨bl,D⟩:=UZ hs.objs f (M y _ ap);obtain⟨bd,cells,q,A⟩:=hs.objs n _ hn;have q:w.ownsRow 0 et e2.size (ρ n) xs.length cells:=q;have A:Dm w (own O0 σ ρ) e2 cells xs:=A;obtain⟨ay,X,m,c,p,bc,ba,W,Y,H,az,h0,h1⟩:=M x _ hx;have p:plc (ρ n)=.slice X m c:=p;rw[HZ q]at p;obtain⟨rfl,rfl⟩:=h0 rfl;simp only[Nat.sub_zero]at H;have bb:=q.1;have O:hi<=xs.length:=by
             rcases q.2 with ⟨i,am⟩|⟨g,cap,I,i,_⟩
             .rw[p]at i;injection i;omega
             rw[p]at i;injection i;omega
            have al:hi*e2.size<=xs.length*e2.size:=RU _ O;have C:w.ownsRow 0 et e2.size (a.eval x) hi (cells.take (hi*e2.size)):=by
             rw[H];refine⟨by rw[OS];omega,?_⟩;rcases q.2 with ⟨i,am⟩|⟨g,cap,I,i,ar,au,bm,av,aw,ax⟩
             .rw[p]at i;injection i with e1 e2 r
              subst e1;subst r;have:hi=0:=by omega
              subst this;exact .inl ⟨rfl,rfl⟩
             rw[p]at i;injection i with e1 e2 r
             subst e1;subst r;refine .inr ⟨g,Y,I,rfl,ar,au,by omega,av,aw,?_⟩;rw[<-ax,List.take_take,AEd al]
            have T:(hi+ys.length)*te.bytes<=AO:=ao;obtain⟨z,w',R,an,N,ak⟩:=GX (ty:=ty) hT hu E S C D T (NO _);have U:=Hb (ty:=ty) hT hu E S C D T R;have J:blk (a.eval x)=blk (ρ n):=by
             rw[H,p];cases W<;>rfl
            rw[J]at U;rw[Ub C,J]at N;refine⟨z,w',E5 ρ n z,R,?_⟩;have B:(xs.take hi++ys).length=hi+ys.length:=by simp;omega
            exact hs.app ab ad ai hn N U (by rw[B];exact ak) (by rw[B];exact an) (Ks (lU A hi) D.elems (by rw[OS,OS];rw[AEd O];omega)) (af d rfl) B.symm
         cases h
      cases h
     cases h
   cases h
  cases h
 .grind
 .grind
 cases h
theorem M5 (n:Nat) (e:Ty) (xs:List e.den) (s:Nat):∀l:List (Nat×AV),lk s (DR n e xs l)=(lk s l).map (AV.frz n e xs)
 | []=>rfl
 | (j,v) :: l=>by
  simp only[DR,lk];split
  .rfl
  exact M5 n e xs s l
def Obj.frz (n:Nat) (e:Ty) (xs:List e.den):Obj->Obj
 | .arr et a ys=>.arr et a ys
 | .box et st fs=>.box et st (AV.frzs n e xs fs)
 | .mapo k v l=>.mapo k v l
 | .nest et c k e ys h=>.nest et c k e ys h
 | .frame j fs=>.frame j (DR n e xs fs)
 | .loop L=>.loop L
 | .itr d i f g b=>.itr d i f g b
 | .dfr=>.dfr
theorem CZ (n:Nat) (e:Ty) (xs:List e.den) (s:Nat):∀l:List (Nat×Obj),lk s (A4 n e xs l)=(lk s l).map (Obj.frz n e xs)
 | []=>rfl
 | (j,.arr et a ys) :: l=>by
  simp only[A4,lk];split
  .rfl
  exact CZ n e xs s l
 | (j,.box et st fs) :: l=>by
  simp only[A4,lk];split
  .rfl
  exact CZ n e xs s l
 | (j,.mapo k v x) :: l=>by
  simp only[A4,lk];split
  .rfl
  exact CZ n e xs s l
 | (j,.nest _ _ _ _ _ _) :: l=>by
  simp only[A4,lk];split
  .rfl
  exact CZ n e xs s l
 | (j,.frame h fs) :: l=>by
  simp only[A4,lk];split
  .rfl
  exact CZ n e xs s l
 | (j,.loop L) :: l=>by
  simp only[A4,lk];split
  .rfl
  exact CZ n e xs s l
 | (j,.itr c g d f b) :: l=>by
  simp only[A4,lk];split
  .rfl
  exact CZ n e xs s l
 | (j,.dfr) :: l=>by
  simp only[A4,lk];split
  .rfl
  exact CZ n e xs s l
theorem TP (n:Nat) (e:Ty) (xs:List e.den):∀l:List AV,(AV.frzs n e xs l).length=l.length
 | []=>rfl
 | _ :: r=>by simp[AV.frzs,TP n e xs r]
section
variable {V V':Vw} {n:Nat} {et:TypeId} {e:Ty} {xs:List e.den}
structure qF (V V':Vw) (n:Nat):Prop where
 w:V'.w=V.w
 ρ:V'.ρ=V.ρ
 L:∀m,V.L m->m≠n->V'.L m
 O:∀b,¬V.O b->¬V'.O b
 n:∀b,bk (V.ρ n) b->¬V'.O b
theorem qF.keeps (h:qF V V' n):Cq (V.but n) V':=⟨λb _ c=>h.O b c,λm a=>h.L m a.1 a.2,λm _=>by rw[h.ρ];rfl,λb _ _=>by rw[h.w];rfl⟩
structure P0 (V V':Vw) (n:Nat) (e:Ty) (xs:List e.den):Prop where
 seat:seat (V.ρ n)
 read:∀lo hi v,DT (plc (V.ρ n)) e.size lo hi v->B0 V'.w V'.O (.slice e) [v] (sub xs lo hi)
theorem eO {V:Vw} {et:TypeId} {e:Ty} {xs:List e.den} {loc:Value} (b:A3 V (.arr et e xs) loc):seat loc:=by
 obtain⟨_,cells',c,_⟩:=b;rcases c.2 with ⟨a,_⟩|⟨g,cap,d,a,_⟩
 .exact .inl ⟨_,_,_,a⟩
 exact .inl ⟨_,_,_,a⟩
theorem qF.arr (h:qF V V' n) (a:A3 V (.arr et e xs) (V.ρ n)):P0 V V' n e xs:=⟨eO a,λlo hi v f=>by
 have d:=aC (V:=V) (O':=V'.O) h.O (λb c=>h.n b (.inl c)) a f
 rwa [<-h.w]at d⟩
theorem qF.nest (h:qF V V' n) {d:TypeId} {k e:Ty} {xs:List (k.den×List e.den)} (a:A3 V (.nest et d k e xs none) (V.ρ n)):P0 V V' n (.agg (.prod k (.slice e))) xs:=⟨by
 obtain⟨o,ins,cells,hl,_⟩:=a;exact hl.elim (λh=>.inr ⟨_,h⟩) (λh=>.inl ⟨_,_,_,h.1⟩),λlo hi v c=>by
 have b:=dZ (V:=V) (O':=V'.O) h.O h.n a c
 rwa [<-h.w]at b⟩
theorem aP (h:qF V V' n) (f:P0 V V' n e xs) {x:AV} {v:Value} (hx:VL V x v):VL V' (x.frz n e xs) v/\((∀t d,x≠.p t d)->∀t d,x.frz n e xs=.p t d->t.wrap [v]=v/\B0 V'.w V'.O t [v] d):=by
 have hk:=h.keeps;have b:=f.seat;cases x;case sr m c lo hi =>
  simp only[AV.frz];split
  .rename_i a;subst a;split
   .rename_i o;subst o;obtain⟨s,j⟩:=hx;have g:=f.read lo hi v j;obtain⟨_,_,_,_,_,_,q,r,k,_⟩:=j;refine⟨⟨[v],g,by rw[k];rfl⟩,λ_ t d h=>?_⟩;injection h with h1 l
    subst h1;cases l;exact⟨by rw[k];rfl,g⟩
   exact⟨trivial,λ_ t d h=>by cases h⟩
  rename_i a;have:=I0 b hx;simp only[AV.drp,As a]at this;exact⟨this.keeps hk,λ_ t d h=>by cases h⟩
 case ep m c i u off =>
  have:=I0 b hx;simp only[AV.drp]at this;simp only[AV.frz];split
  .exact⟨trivial,λ_ t d h=>by cases h⟩
  rename_i a;rw[As a]at this;exact⟨this.keeps hk,λ_ t d h=>by cases h⟩
 case nin m c i len =>
  have:=I0 b hx;simp only[AV.drp]at this;simp only[AV.frz];split
  .exact⟨trivial,λ_ t d h=>by cases h⟩
  rename_i a;rw[As a]at this;exact⟨this.keeps hk,λ_ t d h=>by cases h⟩
 case p t d=>exact⟨(I0 b hx).keeps hk,λhp=>absurd rfl (hp t d)⟩
 all_goals
  have:=I0 b hx;simp only[AV.drp]at this;simp only[AV.frz];exact⟨this.keeps hk,λ_ t d h=>by cases h⟩
theorem A5K (h:qF V V' n) (i:P0 V V' n e xs) {x:AV} {cs:List Value} (hx:Ng V x cs):Ng V' (x.frz n e xs) cs:=by
 by_cases hp:∃t d,x=.p t d
 .obtain⟨t,d,rfl⟩:=hp;simp only[AV.frz];have hx:B0 V.w V.O t cs d:=hx;have:B0 V'.w V'.O t cs d:=hx.mono (λb _ g=>h.O b g) (λb _ _=>by rw[h.w]);exact this
 have j:∃v,cs=[v]/\v.oneCell'=true/\VL V x v:=by
  cases x;case p t d=>exact absurd ⟨t,d,rfl⟩ hp
  all_goals exact hx
 obtain⟨v,rfl,h1,f⟩:=j;obtain⟨c,a⟩:=aP h i f;have a:=a (λt d e=>hp ⟨t,d,e⟩);generalize k:x.frz n e xs=y at c a;cases y;case p t d=>exact(a t d rfl).2
 all_goals exact⟨v,rfl,h1,c⟩
theorem P6 (h:qF V V' n) (a:P0 V V' n e xs):∀ {l:List AV} {cs:List Value},Dc V l cs->Dc V' (AV.frzs n e xs l) cs
 | [],cs,hx=>(hx:cs=[])
 | x :: r,cs,hx=>by
  obtain⟨c1,c2,rfl,h1,b⟩:=hx;simp only[AV.frzs];exact⟨c1,c2,rfl,A5K h a h1,P6 h a b⟩
theorem A5L (h:qF V V' n) (a:P0 V V' n e xs) {x:AV} {v:Value} (hx:TC V x v):TC V' (x.frz n e xs) v:=by
 cases x;case ag l=>obtain⟨cs,h1,b⟩:=hx;simp only[AV.frz];exact⟨cs,h1,P6 h a b⟩
 all_goals
  simp only[TC]at hx;exact TC.of1 (aP h a hx).1
theorem eQ (h:qF V V' n) (b:P0 V V' n e xs):∀ {l:List AV} {a:List Value},Hx V l a->Hx V' (AV.frzs n e xs l) a
 | [],a,hx=>(hx:a=[])
 | x :: r,a,hx=>by
  obtain⟨v,d,rfl,h1,c⟩:=hx;simp only[AV.frzs];exact⟨v,d,rfl,A5L h b h1,eQ h b c⟩
theorem qG (h:qF V V' n) (b:P0 V V' n e xs) {x:AV} {v:Value} (hx:B3 V x v):B3 V' (x.frz n e xs) v:=by
 cases x;case ag l=>obtain⟨cs,h1,a⟩:=hx;simp only[AV.frz];exact⟨cs,h1,P6 h b a⟩
 case tup l=>obtain⟨c,h1,a⟩:=hx;simp only[AV.frz];exact⟨c,h1,eQ h b a⟩
 all_goals
  simp only[B3]at hx;exact A5E (aP h b hx).1
end
theorem eU (hs:B9 w0 K O0 nt ds σ ρ a w) (n:Nat) (I:¬Gr n=true) {R:Obj} (hn:lk n σ.objs=some R) {e:Ty} {xs:List e.den}
  (N:qF (vw w O0 σ ρ) (vw w O0 ⟨DR n e xs σ.env,A4 n e xs (del n σ.objs)⟩ ρ) n->P0 (vw w O0 σ ρ) (vw w O0 ⟨DR n e xs σ.env,A4 n e xs (del n σ.objs)⟩ ρ) n e xs) :
  B9 w0 K O0 nt ds ⟨DR n e xs σ.env,A4 n e xs (del n σ.objs)⟩ ρ a w:=by
 have C:∀m x,lk m (A4 n e xs (del n σ.objs))=some x->m≠n/\∃y,lk m σ.objs=some y/\x=y.frz n e xs:=by
  intro m x c;rw[CZ,Rn]at c;split at c
  .simp at c
  rename_i u;simp only[OF]at c;grind
 have g:∀m,HG ⟨DR n e xs σ.env,A4 n e xs (del n σ.objs)⟩ m↔(HG σ m/\m≠n):=by
  intro m;constructor
  .rintro⟨x,hx⟩;obtain⟨h1,y,f,_⟩:=C m x hx;exact⟨⟨y,f⟩,h1⟩
  rintro⟨⟨x,hx⟩,u⟩;exact⟨x.frz n e xs,by simp[CZ,Rn,u,hx]⟩
 have hF:qF (vw w O0 σ ρ) (vw w O0 ⟨DR n e xs σ.env,A4 n e xs (del n σ.objs)⟩ ρ) n:=by
  refine⟨rfl,rfl,λm h1 f=>(g m).2 ⟨h1,f⟩,λb d t=>?_,λb d t=>?_⟩
  .rcases t with h0|⟨m,hl,c⟩
   .exact d (.inl h0)
   exact d (.inr ⟨m,((g m).1 hl).1,c⟩)
  have d:bk (ρ n) b:=d;rcases t with h0|⟨m,hl,c⟩
  .exact(hs.free n b ⟨_,hn⟩ d).2 h0
  exact((g m).1 hl).2 (hs.dist m n b ((g m).1 hl).1 ⟨_,hn⟩ c d)
 have q:=N hF;have M:∀p∈ds.pin,HG ⟨DR n e xs σ.env,A4 n e xs (del n σ.objs)⟩ p.1/\ρ p.1=p.2/\(A97 p.2=true\/Gr p.1=true):=by
  intro p hp;obtain⟨h1,f,i⟩:=hs.pin p hp;refine⟨(g p.1).2 ⟨h1,λe2=>?_⟩,f,i⟩;have i:A97 p.2=true:=i.resolve_right (by rw[e2];exact I);have A:seat (ρ n):=q.seat;rw[<-e2,f]at A;rcases A with ⟨_,_,_,B⟩|⟨_,B⟩<;>rw[B]at i<;>cases i
 refine⟨hs.frm,hs.nt,hs.defers,M,?_,?_,?_,?_⟩
 .intro m x c;obtain⟨u,y,j,rfl⟩:=C m x c;have h:=hs.objs m y j;cases y with
  | arr r e2 G=>exact A3.keeps (V:=(vw w O0 σ ρ).but n) hF.keeps (λ_ _=>rfl) h
  | box r st fs =>
   obtain⟨h0,b,cs,hl,hh,H⟩:=h;exact⟨λO=>by rw[TP];exact h0 O,b,cs,hl,hh,P6 hF q H⟩
  | nest r P Q e2 G hl=>exact A3.keeps (V:=(vw w O0 σ ρ).but n) (o:=.nest r P Q e2 G hl) hF.keeps (λ_ _=>rfl) (M2 (V:=vw w O0 σ ρ) (V':=(vw w O0 σ ρ).but n) rfl rfl h)
  | mapo k v l=>exact A3.keeps (V:=(vw w O0 σ ρ).but n) hF.keeps (λ_ _=>rfl) h
  | frame Y fs =>
   obtain⟨h0,h1⟩:=h;refine⟨h0,λs z E=>?_⟩;simp only[M5,OF]at E;obtain⟨y,j,rfl⟩:=E;exact qG hF q (h1 s y j)
  | loop L=>exact A3.keeps (V:=(vw w O0 σ ρ).but n) hF.keeps (λ_ _=>rfl) h
  | itr T X U W S=>exact A3.keeps (V:=(vw w O0 σ ρ).but n) hF.keeps (λ_ _=>rfl) h
  | dfr=>exact A3.keeps (V:=(vw w O0 σ ρ).but n) hF.keeps (λ_ _=>rfl) h
 .intro m b hl d;exact hs.free m b ((g m).1 hl).1 d
 .intro m F b hl J h1 f;exact hs.dist m F b ((g m).1 hl).1 ((g F).1 J).1 h1 f
 intro s v D;simp only[M5,OF]at D;obtain⟨y,j,rfl⟩:=D;exact qG hF q (hs.env s y j)
theorem qH (hs:B9 w0 K O0 nt ds σ ρ a w) (n:Nat):B9 w0 K O0 nt ds (frz n σ) ρ a w:=by
 unfold frz;split
 .exact hs
 rename_i b;cases hn:lk n σ.objs with
 | none=>exact hs
 | some c =>
 cases c with
 | box et st fs=>exact hs
 | mapo k v l=>exact hs
 | frame p fs=>exact hs
 | loop L=>exact hs
 | itr g o j m d=>exact hs
 | dfr=>exact hs
 | arr et e xs=>exact eU hs n b hn λh=>h.arr (hs.objs n _ hn)
 | nest et f k e xs hl =>
  cases hl with
  | some i=>exact hs
  | none=>exact eU hs n b hn λh=>h.nest (hs.objs n _ hn)
theorem Kt:∀ {l:List Nat} {σ:St},B9 w0 K O0 nt ds σ ρ a w->B9 w0 K O0 nt ds (DG l σ) ρ a w
 | [],_,h=>h
 | n :: r,σ,h=>Kt (l:=r) (σ:=frz n σ) (qH h n)
end
end
section
open Go Go.RowKit
section
variable {P:Program} {tb:Tb} {w0:World} {K O0:Nat->Prop} {nt:Nat} {ds:Fp} {σ σ':St} {ρ:Nat->Value} {a:Act} {w:World} {vc:Prop}
theorem A5M (hs:B9 w0 K O0 nt ds σ ρ a w) (br:∀b,K b->b<w0.heap.size) (bs:∀b,O0 b->b<w0.heap.size) (hT:DH P tb) {d:Nat} (bw:d<nt) {t ty:TypeId} {x y:Operand} {n i len:Nat} {e:Ty} {v:AV}
  (hx:Ap σ x=some (.nin n e i len)) (cl:Ap σ y=some v) {et el:TypeId} {k:Ty} {xs:List (k.den×List e.den)} (hn:lk n σ.objs=some (.nest et el k e xs none)) (bz:Gr n=false)
  (hu:P.underlying t=some (.slice el)) {te:TI} (am:lk el tb.ty=some te) (an:te.ty=e) (h:Nr σ d n et el k e xs i te.bytes (Pf σ e v)=some (vc,σ')) (aa:vc) :
  ∃z w' ρ',(Builtin.append_ #[t,t] ty #[a.eval x,a.eval y]).run P w=.ok z w'/\B9 w0 K O0 nt ds σ' ρ' (a.put (some d) z) w':=by
 have au:Ha (vw w O0 σ ρ) σ a.eval:=Fv hs.env;cases ao:Pf σ e v with
 | none=>rw[ao]at h;simp[Nr]at h
 | some ys =>
  rw[ao]at h;simp only[Nr]at h;split at h
  .rename_i av;have ak:lk d σ.objs=none:=by simpa using av.1
   cases h;obtain⟨cq,U⟩:=UZ hs.objs ao (au y _ cl);obtain⟨cu,cr,ad,c,R,I,D,cb,da⟩:=au x _ hx;have I:ρ n=.tuple cr:=I;have bd:=hs.objs n _ hn;have aw:=aE (z:=(k.dflt,[])) bd I D;obtain⟨o,ins,cells,cj,B⟩:=bd;obtain rfl:=cj.tup I;have D:ins[i]?=some R:=by simpa using D
   obtain⟨c1,db,bv,ci,q⟩:=B.row i _ _ aw D;rcases q with ⟨q,_⟩|⟨_,cw,l,bf,M,bx⟩
   .cases q
   generalize cz:xs.getD i (k.dflt,[])=row at *;obtain⟨z,w',N,C,A,al,be⟩:∃z w',(Builtin.append_ #[t,t] ty #[a.eval x,a.eval y]).run P w=.ok z w'/\w'.ownsRow 0 el e.size z (row.2.length+ys.length) (bf++cq)/\w.grownBy w' (blk R)/\row.2.length+ys.length<=AO/\(blk z=blk R\/∀b,blk z=some b->w.heap.size<=b):=by
    rcases cb with F|⟨F,ap,ck⟩
    .rw[F];obtain⟨z,w',N,C,A,al⟩:=GX (ty:=ty) hT hu am an M U aa (NO _);have be:=Hb (ty:=ty) hT hu am an M U aa N;rw[Ub M]at A;exact⟨z,w',N,C,A,al,be⟩
    subst F;have bb:=Kq M;have ch:row.2=[]:=RQ bb.symm;have ca:bf=[]:=RQ (by rw[M.1,<-bb,AFA]);subst ca;have cm:0<ys.length:=by
     cases ys with
     | nil=>simp at av
     | cons _ _=>simp
    rw[ck];rw[ch]at aa ⊢;obtain⟨z,w',N,C,A⟩:=TG (ty:=ty) hT hu am an (xs:=([]:List e.den)) (a:=ap) (UY w (own O0 σ ρ) e ap 0) U cm aa;refine⟨z,w',N,⟨C.1,C.2.imp (λh=>h) λ⟨g,cap,ag,e,_,r⟩=>⟨g,cap,ag,e,NO _,r⟩⟩,A,by simpa using U.max,.inr λb f=>?_⟩;rcases C.2 with ⟨h1,_⟩|⟨g,cap,ag,h1,p,_⟩
    .rw[h1]at f;simp[blk]at f
    rw[h1]at f;simp[blk]at f;omega
   have X:∀b,bk (ρ n) b↔blk o=some b\/∃(j:Nat) (u:Value),ins[j]?=some u/\blk u=some b:=λb=>by rw[I];exact A7
   have cx:i<ins.length:=(RF.1 D).1;have bc:n≠d:=λe1=>by rw[e1,ak]at hn;cases hn
   generalize ay:(Value.tuple (o :: ins.set i (.slice none 0 0)).toArray)=loc;have ae:E5 (E5 ρ n loc) d z n=loc:=by simp[E5,bc]
   have ab:E5 (E5 ρ n loc) d z d=z:=Bo _ _ _;have af:∀m,m≠n->m≠d->E5 (E5 ρ n loc) d z m=ρ m:=λm h1 p=>by simp[E5,h1,p]
   generalize E5 (E5 ρ n loc) d z=ρ' at ae ab af;have Z:∀(j:Nat) (u:Value),(ins.set i (.slice none 0 0))[j]?=some u->(j=i/\u=.slice none 0 0)\/(j≠i/\ins[j]?=some u):=by grind
   have ar:∀b,bk loc b->blk o=some b\/∃(j:Nat) (u:Value),j≠i/\ins[j]?=some u/\blk u=some b:=by grind [A7,blk]
   have bu:∀b,bk loc b->bk (ρ n) b:=λb f=>(X b).2 ((ar b f).imp id λ⟨j,u,_,h1,p⟩=>⟨j,u,h1,p⟩);have Y:∀b,blk R=some b->bk (ρ n) b:=λb f=>(X b).2 (.inr ⟨i,_,D,f⟩);have cv:∀b,bk z b->blk z=some b:=λb f=>by
    rcases C.2 with ⟨F,_⟩|⟨g,cap,ag,F,_⟩<;>rw[F]at f ⊢<;>exact Lr.1 f
   have cp:∀b,bk z b->blk R=some b\/w.heap.size<=b:=λb f=>by grind
   have az:∀b,bk (ρ n) b->b<w.heap.size:=λb f=>(hs.objs n _ hn).block_lt f;have cy:∀b,bk loc b->blk R≠some b:=by
    intro b f F;rcases ar b f with h1|⟨j,u,h1,p,q⟩
    .exact B.out i b _ D F h1
    exact h1 (B.dist j i b u _ p D q F)
   have ax:(row.2++ys).length=row.2.length+ys.length:=by simp
   let S:St:=⟨(d,.sr d e 0 (row.2.length+ys.length)) :: E3 n [] σ.env,(d,.arr el e (row.2++ys)) :: (n,.nest et el k e xs (some i)) :: DI n [] σ.objs⟩
   have aq:∀m G,lk m S.objs=some G->(m=d/\G=.arr el e (row.2++ys))\/(m=n/\m≠d/\G=.nest et el k e xs (some i))\/(m≠d/\m≠n/\∃s,lk m σ.objs=some s/\G=s.trn n []):=by
    intro m G l;simp only[S,lk]at l;split at l
    .rename_i e1;cases l;exact .inl ⟨e1,rfl⟩
    rename_i e1;split at l
    .rename_i e2;cases l;exact .inr (.inl ⟨e2,e1,rfl⟩)
    rename_i e2;rw[Ek]at l;split at l
    .cases l
    simp only[OF]at l;obtain⟨s,h1,rfl⟩:=l;exact .inr (.inr ⟨e1,e2,s,h1,rfl⟩)
   have bt:∀m,m≠d->m≠n->∀s,lk m σ.objs=some s->lk m S.objs=some (s.trn n []):=by grind [lk,Ek,Aa]
   have cf:∀b,b<w.heap.size->¬own O0 σ ρ b->¬own O0 S ρ' b:=by
    intro b f H co;rcases co with h0|⟨m,⟨G,ce⟩,J⟩
    .exact H (.inl h0)
    rcases aq m G ce with ⟨rfl,_⟩|⟨rfl,_,_⟩|⟨h1,p,s,q,_⟩
    .rw[ab]at J;rcases cp b J with E|E
     .exact H (.inr ⟨n,⟨_,hn⟩,Y b E⟩)
     omega
    .rw[ae]at J;exact H (.inr ⟨_,⟨_,hn⟩,bu b J⟩)
    rw[af m p h1]at J;exact H (.inr ⟨m,⟨s,q⟩,J⟩)
   have cg:plc loc=o:=by rw[<-ay];rfl
   have W:Rq (vw w O0 σ ρ) (vw w' O0 S ρ') n []:=by
    refine⟨cf,λm l _=>?_,λm l _ cd=>?_,⟨_,I⟩,?_,λb f H=>A.block b f λe1=>H (.inr ⟨n,⟨_,hn⟩,Y b e1.symm⟩)⟩
    .obtain⟨s,h1⟩:=l;by_cases ba:m=n
     .subst ba;exact⟨.nest et el k e xs (some i),by simp[S,lk,bc]⟩
     have cc:m≠d:=λe1=>by rw[e1,ak]at h1;cases h1
     exact⟨_,bt m cc ba s h1⟩
    .obtain⟨s,h1⟩:=l;exact af m cd (λe1=>by rw[e1,ak]at h1;cases h1)
    show plc (ρ' n)=plc (ρ n);rw[ae,cg,I];rfl
   have L:Cq ⟨w,own O0 σ ρ,λ_=>False,ρ⟩ (vw w' O0 S ρ'):=⟨W.O,λ_ h=>h.elim,λ_ h=>h.elim,W.heap⟩;refine⟨z,w',ρ',N,hs.swap br bs (T:=λm=>m=n) (λm l=>by obtain rfl:m=n:=l;exact⟨bz,_,hn,by rw[I];exact .inr ⟨_,rfl⟩⟩) (new:=[(d,.arr el e (row.2++ys)),(n,.nest et el k e xs (some i))]) A.os A.tape A.output A.size ?_ ?_ ?_ ?_ ?_ ?_ ?_ ?_⟩
   .exact λb f H=>A.block b f λe1=>H n rfl (Y b e1.symm)
   .grind [lk]
   .grind [lk]
   .grind [lk]
   .grind [lk]
   .grind [bk,lk]
   .intro m G l;rcases aq m G l with ⟨rfl,rfl⟩|⟨rfl,_,rfl⟩|⟨h1,p,s,q,rfl⟩
    .rw[ab];refine⟨by rw[ax];exact al,_,by rw[ax];exact C,?_⟩;exact Dm.keeps L (Ks bx U.elems M.1)
    .rw[ae];refine⟨o,ins.set i (.slice none 0 0),cells,.inl ay.symm,B.max,by rw[aT];exact B.len,JW (λb f=>A.block b (az b ((X b).2 (.inl f))) λe1=>B.out i b _ D e1.symm f) B.own,λj cs u h1 p=>?_,?_,?_⟩
     .rcases Z j u p with ⟨rfl,rfl⟩|⟨q,E⟩
      .rw[aw]at h1;cases h1;exact⟨c1,_,bv,B0.mono L.O L.heap ci,.inl ⟨by simp,rfl⟩⟩
      obtain⟨c2,bl,bm,bn,ai⟩:=B.row j cs u h1 E;rcases ai with ⟨ai,_⟩|⟨_,bo,bp⟩
      .cases ai
      refine⟨c2,bl,bm,B0.mono L.O L.heap bn,.inr ⟨ADF.2 (λe1=>q (by injection e1 with e1;exact e1.symm)),bo,?_⟩⟩;exact Rm.keeps (V:=⟨w,own O0 σ ρ,λ_=>False,ρ⟩) L (λb f=>A.block b (az b ((X b).2 (.inr ⟨j,u,E,f⟩))) λe1=>q (B.dist j i b u _ E D f e1.symm)) bp
     .intro bg bh b bi bj h1 p q E;rcases Z bg bi h1 with ⟨_,rfl⟩|⟨_,aj⟩
      .simp[blk]at q
      rcases Z bh bj p with ⟨_,rfl⟩|⟨_,bq⟩
      .simp[blk]at E
      exact B.dist bg bh b bi bj aj bq q E
     intro j b u h1 p;rcases Z j u h1 with ⟨_,rfl⟩|⟨_,aj⟩
     .simp[blk]at p
     exact B.out j b u aj p
    rw[af m p h1];refine qD W (λb f=>A.block b ((hs.objs m s q).block_lt f) λe1=>p (hs.dist m n b ⟨_,q⟩ ⟨_,hn⟩ f (Y b e1.symm))) (hs.objs m s q)
   intro s2 bl Q;rw[M0 a d z s2 (by rw[hs.nt];exact bw)];simp only[S,lk]at Q;split at Q
   .rename_i ah;cases Q;rw[BY ah];refine⟨⟨.arr el e (row.2++ys),by simp[S,lk]⟩,?_⟩;show DT (plc (ρ' d)) e.size 0 _ z;rw[ab,HZ C];exact GW C
   rename_i ah;rw[As ah];rw[Hl]at Q;simp only[OF]at Q;obtain⟨ct,cn,rfl⟩:=Q;exact aO W (hs.env s2 ct cn)
  cases h
end
end
section
open Go Go.RowKit
theorem aQ {w:World} {et:TypeId} {sz len g m c:Nat} {cells:List Value} (h:w.ownsRow 0 et sz (.slice (some ⟨g,0,none⟩) m c) len cells) {p:Nat} (hp:p<len*sz) (v:Value) :
  ∃a:List Value,w.heap[g]?=some (.cells a.toArray et (0,0))/\p+1<=a.length/\(w.setRow g (Ax a p [v]).toArray).ownsRow 0 et sz (.slice (some ⟨g,0,none⟩) m c) len (cells.set p v):=by
 obtain⟨t,l⟩:=h;rcases l with ⟨d,_⟩|⟨y,cap,a,d,z,i,e,o,f,u⟩
 .cases d
 injection d with b q r
 injection b with b
 injection b with b
 subst b;have A:len*sz<=cap*sz:=RU _ e;have B:a.toList.length=cap*sz:=by rw[<-f];simp
 have n:p + [v].length<=a.toList.length:=by simp only[IS];omega
 have s:w.heap[g]?=some (.cells a.toList.toArray et (0,0)):=by simpa using i
 have k:Ax a.toList p [v]=a.toList.set p v:=by
  apply AF1;intro j;simp only[Ax,RN,AAi,OS,Sz,AAk,IS,ADt];have x:min p a.toList.length=p:=by omega
  simp only[x];by_cases c1:j<p
  .grind
  grind
 refine⟨a.toList,s,by simpa using n,?_,.inr ⟨g,cap,_,by rw[q,r],NO _,setRow_heap w g _ _ et _ i,e,o,?_,?_⟩⟩
 .rw[aT];exact t
 .rw[k];simp[f]
 rw[k,<-u];simp[List.take_set]
section
variable {P:Program} {tb:Tb} {w0:World} {K O0:Nat->Prop} {nt:Nat} {ds:Fp} {σ σ':St} {ρ:Nat->Value} {a:Act} {w:World} {vc:Prop}
theorem A29 (hs:B9 w0 K O0 nt ds σ ρ a w) (bi:∀b,K b->b<w0.heap.size) (bj:∀b,O0 b->b<w0.heap.size) (hT:DH P tb) {id:TypeId} {ti:TI} (ce:lk id tb.ty=some ti) {x y:Operand} {n m i hi:Nat} {k e:Ty} (hty:ti.ty=.slice e) {cn:List Nat}
  (hx:Ap σ x=some (.ep n (.agg (.prod k (.slice e))) i cn k.size)) (ci:Ap σ y=some (.sr m e 0 hi)) {et A:TypeId} {xs:List (k.den×List e.den)} {ys:List e.den} (hn:lk n σ.objs=some (.nest et A k e xs (some i))) (F:lk m σ.objs=some (.arr A e ys))
  (br:Gr n=false) (ct:Gr m=false) (cx:hi=ys.length) :
  ∃w' ρ',(Instr.storeAt id (a.eval x) (a.eval y)).run P w=.ok () w'/\B9 w0 K O0 nt ds ⟨E3 n [m] σ.env,(n,.nest et A k e (xs.set i ((xs.getD i (k.dflt,[])).1,ys)) none) :: DI n [m] σ.objs⟩ ρ' a w':=by
 have ap:Ha (vw w O0 σ ρ) σ a.eval:=Fv hs.env;have bz:m≠n:=λe1=>by rw[e1,hn]at F;cases F
 obtain⟨cr,g,bb,c,aj,bv,cg⟩:=ap x _ hx;obtain⟨cs,be,cm,bf,M,_,cv,cp,cq,cy,_,h0,_⟩:=ap y _ ci;obtain⟨o,ins,cells,ax,s⟩:=hs.objs n _ hn;have am:Rm (vw w O0 σ ρ) A e ys (ρ m):=hs.objs m _ F;have au:=hs.objs m _ F;have M:plc (ρ m)=.slice be cm bf:=M;rw[UX au]at M;have cl:a.eval y=ρ m:=by
  obtain⟨rfl,rfl⟩:=h0 rfl;obtain⟨_,cz,cw,_⟩:=am;grind [Kq]
 have aj:plc (ρ n)=.slice (some ⟨g,0,none⟩) bb c:=aj;have ca:o=.slice (some ⟨g,0,none⟩) bb c:=by rw[<-ax.plc];exact aj
 subst ca;have bx:=Kq s.own;subst bx;have L:i<xs.length:=bv;have ah:i<ins.length:=by rw[s.len];exact L
 have Y:ρ n=.tuple ((.slice (some ⟨g,0,none⟩) xs.length c) :: ins).toArray:=ax.resolve_right λh=>by rw[h.2.2]at ah;simp at ah
 have hp:i*(k.size+1)+k.size<xs.length*(k.size+1):=by
  have:(i+1)*(k.size+1)<=xs.length*(k.size+1):=RU _ L;rw[ADH]at this;omega
 obtain⟨N,bs,bo,W⟩:=aQ s.own hp (ρ m);have cc:(ρ m).oneCell'=true:=by rw[M];rfl
 have U:(a.eval y).cells=#[ρ m]:=by rw[cl,M];rfl
 have aw:=Lw (P:=P) (xv:=a.eval y) (hT _ _ ce) bs (off:=i*(k.size+1)+k.size) (by rw[U,hty];rfl) (by rw[U];simpa using bo) (by rw[U];intro u hu;simp at hu;subst hu;exact cc);rw[U]at aw;refine⟨_,E5 ρ n (.tuple ((.slice (some ⟨g,0,none⟩) xs.length c) :: ins.set i (ρ m)).toArray),by rw[cg];exact aw,?_⟩;have D:=Fx w g (Ax N (i*(k.size+1)+k.size) [ρ m]).toArray;change B9 w0 K O0 nt ds _ _ a (w.setRow g (Ax N (i*(k.size+1)+k.size) [ρ m]).toArray);have W:(w.setRow g (Ax N (i*(k.size+1)+k.size) [ρ m]).toArray).ownsRow 0 et (k.size+1) (.slice (some ⟨g,0,none⟩) xs.length c) xs.length (cells.set (i*(k.size+1)+k.size) (ρ m)):=W;generalize w.setRow g (Ax N (i*(k.size+1)+k.size) [ρ m]).toArray=w' at D W;generalize ar:(Value.tuple ((.slice (some ⟨g,0,none⟩) xs.length c) :: ins.set i (ρ m)).toArray)=loc;have Z:E5 ρ n loc n=loc:=Bo _ _ _;have aa:∀j,j≠n->E5 ρ n loc j=ρ j:=λj h1=>by simp[E5,h1]
 generalize E5 ρ n loc=ρ' at Z aa;have ao:∀b,bk (ρ n) b↔blk (.slice (some ⟨g,0,none⟩) xs.length c)=some b\/∃(j:Nat) (u:Value),ins[j]?=some u/\blk u=some b:=λb=>by rw[Y];exact A7
 have X:∀(j:Nat) (u:Value),(ins.set i (ρ m))[j]?=some u->(j=i/\u=ρ m)\/(j≠i/\ins[j]?=some u):=by grind
 have ae:∀b,blk (ρ m)=some b->bk (ρ m) b:=λb d=>.inl d;have bm:∀b,bk loc b->bk (ρ n) b\/blk (ρ m)=some b:=by grind [A7]
 have bp:∀b,bk (ρ n) b->blk (ρ m)=some b->False:=λb h1 r=>bz (hs.dist m n b ⟨_,F⟩ ⟨_,hn⟩ (ae b r) h1);have af:bk (ρ n) g:=(ao g).2 (.inl rfl);have bu:∀b,bk (ρ n) b->b<w.heap.size:=λb d=>(hs.objs n _ hn).block_lt d;have bw:∀b,blk (ρ m)=some b->b<w.heap.size:=λb d=>au.block_lt (ae b d)
 let S:St:=⟨E3 n [m] σ.env,(n,.nest et A k e (xs.set i ((xs.getD i (k.dflt,[])).1,ys)) none) :: DI n [m] σ.objs⟩
 have an:∀j B,lk j S.objs=some B->(j=n/\B=.nest et A k e (xs.set i ((xs.getD i (k.dflt,[])).1,ys)) none)\/(j≠n/\j≠m/\∃p,lk j σ.objs=some p/\B=p.trn n [m]):=by
  intro j B l;simp only[S,lk]at l;split at l
  .grind
  rename_i e1;rw[Ek]at l;split at l
  .cases l
  rename_i e2;simp only[OF]at l;grind [Aa]
 have bl:∀j,j≠n->j≠m->∀p,lk j σ.objs=some p->lk j S.objs=some (p.trn n [m]):=by grind [lk,Ek,Aa]
 have cd:∀b,b<w.heap.size->¬own O0 σ ρ b->¬own O0 S ρ' b:=by
  intro b d G ck;rcases ck with h0|⟨j,⟨B,cb⟩,R⟩
  .exact G (.inl h0)
  rcases an j B cb with ⟨rfl,_⟩|⟨h1,r,p,f,_⟩
  .rw[Z]at R;rcases bm b R with t|t
   .exact G (.inr ⟨_,⟨_,hn⟩,t⟩)
   exact G (.inr ⟨m,⟨_,F⟩,ae b t⟩)
  rw[aa j h1]at R;exact G (.inr ⟨j,⟨p,f⟩,R⟩)
 have Q:Rq (vw w O0 σ ρ) (vw w' O0 S ρ') n [m]:=by
  refine⟨cd,λj l bt=>?_,λj _ _ ai=>aa j ai,⟨_,Y⟩,?_,λb d G=>D.block b d λe1=>?_⟩
  .obtain⟨p,h1⟩:=l;by_cases aq:j=n
   .exact⟨.nest et A k e (xs.set i ((xs.getD i (k.dflt,[])).1,ys)) none,by simp[S,lk,aq]⟩
   exact⟨_,bl j aq (λe1=>by simp[Aa,e1]at bt) p h1⟩
  .show plc (ρ' n)=plc (ρ n);rw[Z,<-ar,Y];rfl
  injection e1 with e1
  subst e1;exact G (.inr ⟨n,⟨_,hn⟩,af⟩)
 have E:Cq ⟨w,own O0 σ ρ,λ_=>False,ρ⟩ (vw w' O0 S ρ'):=⟨Q.O,λ_ h=>h.elim,λ_ h=>h.elim,Q.heap⟩;have ag:∀b,b<w.heap.size->b≠g->w'.heap[b]?=w.heap[b]?:=λb h1 r=>D.block b h1 λe1=>r (by injection e1);refine hs.swap bi bj (T:=λj=>j=n\/j=m) (dst:=none) (u:=undef) (λj l=>?_) (new:=[(n,.nest et A k e (xs.set i ((xs.getD i (k.dflt,[])).1,ys)) none)]) D.os D.tape D.output D.size ?_ ?_ ?_ ?_ ?_ ?_ ?_ ?_
 .rcases l with rfl|rfl
  .exact⟨br,_,hn,by rw[Y];exact .inr ⟨_,rfl⟩⟩
  grind [eO]
 .grind
 .grind [lk]
 .grind [lk]
 .grind [lk]
 .grind [lk]
 .grind [lk]
 .intro j B l;rcases an j B l with ⟨rfl,rfl⟩|⟨h1,r,p,f,rfl⟩
  .rw[Z];have bn:cells.length=xs.length*(k.size+1):=s.own.1;refine⟨_,ins.set i (ρ m),cells.set (i*(k.size+1)+k.size) (ρ m),.inl ar.symm,by rw[aT];exact s.max,by rw[aT,aT];exact s.len,by rw[aT];exact W,λj al u h1 r=>?_,?_,?_⟩
   .have bq:∀(c2:List Value) (C:Value),j≠i->c2.length=k.size->(∀(q:Nat) (z:Value),(c2++[C])[q]?=some z->cells[j*(k.size+1)+q]?=some z)->∀(q:Nat) (z:Value),(c2++[C])[q]?=some z->(cells.set (i*(k.size+1)+k.size) (ρ m))[j*(k.size+1)+q]?=some z:=by
     intro c2 C cu hl H q z v;have ak:=(RF.1 v).1;simp only[By,IS,hl]at ak;have ai:i*(k.size+1)+k.size≠j*(k.size+1)+q:=by
      intro e1;rcases Nat.lt_or_ge i j with f|f
      .have:(i+1)*(k.size+1)<=j*(k.size+1):=RU _ f;rw[ADH]at this;omega
      have:(j+1)*(k.size+1)<=i*(k.size+1):=RU _ (by omega);rw[ADH]at this;omega
     rw[ADt,As ai];exact H q z v
    rcases X j u r with ⟨rfl,rfl⟩|⟨f,t⟩
    .have ch:xs[j]?=some (xs.getD j (k.dflt,[])):=by
      rw[AT L,AS,AT L];rfl
     obtain⟨c2,C,H,I,_⟩:=s.row j _ ins[j] ch (AT ah);have cf:al=((xs.getD j (k.dflt,[])).1,ys):=by
      rw[List.getElem?_set_self L]at h1;exact(Option.some.inj h1).symm
     subst cf;have hl:c2.length=k.size:=I.length;refine⟨c2,ρ m,λq z v=>?_,B0.mono E.O E.heap I,.inr ⟨rfl,.inl rfl,?_⟩⟩
     .have ak:=(RF.1 v).1;simp only[By,IS,hl]at ak;rw[ADt];by_cases av:q=k.size
      .rw[av,BY rfl,BY (by rw[bn];exact hp)];rw[av,<-hl,RW (If _),AE5]at v;exact v
      rw[As (by omega)];refine H q z ?_;rw[RZ (by omega)]at v ⊢;exact v
     exact Rm.keeps (V:=⟨w,own O0 σ ρ,λ_=>False,ρ⟩) E (λb d=>ag b (bw b d) λe1=>bp b (by rw[e1];exact af) d) am
    have h1:xs[j]?=some al:=by
     rw[ADt,As (λe1=>f e1.symm)]at h1;exact h1
    obtain⟨c2,C,H,I,ab⟩:=s.row j al u h1 t;rcases ab with ⟨ab,_⟩|⟨_,bg,bh⟩
    .exact absurd (by simpa using ab) (λe1:i=j=>f e1.symm)
    refine⟨c2,C,bq c2 C f I.length H,B0.mono E.O E.heap I,.inr ⟨rfl,bg,?_⟩⟩;exact Rm.keeps (V:=⟨w,own O0 σ ρ,λ_=>False,ρ⟩) E (λb d=>ag b (bu b ((ao b).2 (.inr ⟨j,u,t,d⟩))) λe1=>s.out j b u t d (by rw[e1];rfl)) bh
   .intro az ba b bc bd h1 r f t;rcases X az bc h1 with ⟨J,rfl⟩|⟨_,J⟩<;>rcases X ba bd r with ⟨ad,rfl⟩|⟨_,ad⟩
    .rw[J,ad]
    .grind
    .grind
    exact s.dist az ba b bc bd J ad f t
   intro j b u h1 r f;rcases X j u h1 with ⟨_,rfl⟩|⟨_,J⟩
   .grind
   exact s.out j b u J r f
  rw[aa j h1];refine qD Q (λb d=>ag b ((hs.objs j p f).block_lt d) λe1=>h1 (hs.dist j n b ⟨_,f⟩ ⟨_,hn⟩ d (by rw[e1];exact af))) (hs.objs j p f)
 intro s2 C ay;simp only[Hl,OF]at ay;obtain⟨co,cj,rfl⟩:=ay;exact aO Q (hs.env s2 co cj)
end
end
section
open Go Go.RowKit
section
variable {P:Program} {tb:Tb} {w0:World} {K O0:Nat->Prop} {nt:Nat} {ds:Fp} {σ σ':St} {ρ:Nat->Value} {a:Act} {w:World} {vc:Prop}
theorem B9.swap1 (h:B9 w0 K O0 nt ds σ ρ a w) (I:∀b,K b->b<w0.heap.size) (J:∀b,O0 b->b<w0.heap.size) {tl:List Nat} (hT:∀n,n∈tl->Gr n=false/\∃o,lk n σ.objs=some o/\seat (ρ n))
  {e:Nat} (ad:e∈tl\/lk e σ.objs=none) {j:Obj} {loc:Value} {w':World}
  (V:w'.os=w.os) (Z:w'.tape=w.tape) (W:w'.output=w.output) (X:w.heap.size<=w'.heap.size)
  (C:∀b,b<w.heap.size->(∀n,n∈tl->¬bk (ρ n) b)->w'.heap[b]?=w.heap[b]?)
  (Q:∀b,bk loc b->(∃m,m∈tl/\bk (ρ m) b)\/w.heap.size<=b)
  (U:∀V':Vw,V'.w=w'->Cq ⟨w,own O0 σ ρ,λ_=>False,ρ⟩ V'->A3 V' j loc)
  {d:Nat} (O:d<nt) {v:AV} {u:Value} (N:∀V':Vw,V'.L e->V'.ρ e=loc->B3 V' v u) :
  B9 w0 K O0 nt ds ⟨(d,v) :: CN tl σ.env,(e,j) :: Ar tl tl σ.objs⟩ (E5 ρ e loc) (a.put (some d) u) w':=by
 let S:St:=⟨(d,v) :: CN tl σ.env,(e,j) :: Ar tl tl σ.objs⟩
 have E:∀m o,lk m S.objs=some o->(m=e/\o=j)\/(m≠e/\m∉tl/\∃c,lk m σ.objs=some c/\o=c.fgt tl):=by
  intro m o f;simp only[S,lk]at f;split at f
  .grind
  rename_i e1;rw[B7]at f;split at f
  .cases f
  rename_i e2;simp only[OF]at f;grind [Am]
 have M:∀m,m≠e->m∉tl->∀c,lk m σ.objs=some c->lk m S.objs=some (c.fgt tl):=by grind [lk,B7,Am]
 have G:∀m,m∉tl->(∃o,lk m σ.objs=some o)->m≠e:=by grind
 have r:E5 ρ e loc e=loc:=Bo _ _ _;have z:∀m,m≠e->E5 ρ e loc m=ρ m:=λm h1=>by simp[E5,h1]
 generalize E5 ρ e loc=ρ' at r z;have H:∀b,b<w.heap.size->¬own O0 σ ρ b->¬own O0 S ρ' b:=by
  intro b l p ab;rcases ab with h0|⟨m,⟨o,R⟩,q⟩
  .exact p (.inl h0)
  rcases E m o R with ⟨rfl,_⟩|⟨h1,i,c,g,_⟩
  .rw[r]at q;rcases Q b q with ⟨t,Y,D⟩|D
   .obtain⟨_,c,k,_⟩:=hT t Y;exact p (.inr ⟨t,⟨c,k⟩,D⟩)
   omega
  rw[z m h1]at q;exact p (.inr ⟨m,⟨c,g⟩,q⟩)
 have F:∀b,b<w.heap.size->¬own O0 σ ρ b->w'.heap[b]?=w.heap[b]?:=λb l p=>C b l λn hn B=>by
  obtain⟨_,c,k,_⟩:=hT n hn;exact p (.inr ⟨n,⟨c,k⟩,B⟩)
 have P:Cq ⟨w,own O0 σ ρ,λ_=>False,ρ⟩ (vw w' O0 S ρ'):=⟨H,λ_ h=>h.elim,λ_ h=>h.elim,F⟩;have hk:Cq ((vw w O0 σ ρ).buts tl) (vw w' O0 S ρ'):=by
  refine⟨H,λm f=>?_,λm f=>?_,F⟩
  .obtain⟨⟨c,h1⟩,i⟩:=f;have g:m∉tl:=λh=>by rw[(Am _ _).2 h]at i;cases i
   exact⟨_,M m (G m g ⟨c,h1⟩) g c h1⟩
  obtain⟨⟨c,h1⟩,i⟩:=f;have g:m∉tl:=λh=>by rw[(Am _ _).2 h]at i;cases i
  exact z m (G m g ⟨c,h1⟩)
 refine h.swap I J (T:=λm=>m∈tl) hT (new:=[(e,j)]) V Z W X C ?_ ?_ ?_ ?_ ?_ ?_ ?_
 .grind [lk]
 .grind [lk]
 .grind [lk]
 .grind [lk]
 .grind [lk]
 .intro m o f;rcases E m o f with ⟨rfl,rfl⟩|⟨h1,i,c,g,rfl⟩
  .rw[r];exact U _ rfl P
  rw[z m h1];refine aM hk (λb l=>C b ((h.objs m c g).block_lt l) λn hn B=>?_) (h.objs m c g);obtain⟨_,ae,k,_⟩:=hT n hn;exact i ((h.dist m n b ⟨_,g⟩ ⟨_,k⟩ l B)▸hn)
 intro s x hs;rw[M0 a d u s (by rw[h.nt];exact O)];simp only[S,lk]at hs;split at hs
 .rename_i A;cases hs;rw[BY A];exact N _ ⟨j,by simp[S,lk]⟩ r
 rename_i A;rw[As A];rw[Es]at hs;simp only[OF]at hs;obtain⟨y,aa,rfl⟩:=hs;exact(Ua (h.env s y aa)).keeps hk
theorem Z9.move {V:Vw} {a:TypeId} {k e:Ty} {hole:Bool} {cells cells':List Value} {i i':Nat} {x:k.den×List e.den} {u:Value} (h:Z9 V a k e hole cells i x u)
  (c:∀(j:Nat) (z:Value),cells[i*(k.size+1)+j]?=some z->cells'[i'*(k.size+1)+j]?=some z):Z9 V a k e hole cells' i' x u :=
 let ⟨c1,v,h1,b⟩:=h
 ⟨c1,v,λj z d=>c j z (h1 j z d),b⟩
theorem Ye {V V':Vw} {et D y:TypeId} {k e:Ty} {xs ys:List (k.den×List e.den)} {o C z:Value} {ins f cells l:List Value} (h1:LT V et y k e xs none o ins cells) (n:LT V D y k e ys none C f l)
  (q:∀b,bk (.tuple (o :: ins).toArray) b->bk (.tuple (C :: f).toArray) b->False)
  (J:V'.w.ownsRow 0 et (k.size+1) z (xs.length+ys.length) (cells++l)) (K:blk z=blk o\/∀b,blk z=some b->V.w.heap.size<=b)
  (A:∀b,b<V.w.heap.size->blk o≠some b->V'.w.heap[b]?=V.w.heap[b]?) (hk:Cq ⟨V.w,V.O,λ_=>False,V.ρ⟩ V') (H:xs.length+ys.length<=AO) :
  LT V' et y k e (xs++ys) none z (ins++f) (cells++l):=by
 have E:cells.length=xs.length*(k.size+1):=h1.own.1;have F:∀(i b:Nat) (u:Value),ins[i]?=some u->blk u=some b->b<V.w.heap.size:=λi b u hi c=>h1.block_lt (A7.2 (.inr ⟨i,u,hi,c⟩));have G:∀(i b:Nat) (u:Value),f[i]?=some u->blk u=some b->b<V.w.heap.size:=λi b u hi c=>n.block_lt (A7.2 (.inr ⟨i,u,hi,c⟩));have B:∀(i b:Nat) (u:Value),f[i]?=some u->blk u=some b->blk o≠some b:=λi b u hi c I=>q b (A7.2 (.inl I)) (A7.2 (.inr ⟨i,u,hi,c⟩));have t:∀(i:Nat) (u:Value),(ins++f)[i]?=some u->(i<xs.length/\ins[i]?=some u)\/(xs.length<=i/\f[i-xs.length]?=some u):=by
  intro i u hi;rw[AAi]at hi;split at hi
  .rename_i h;rw[h1.len]at h;exact .inl ⟨h,hi⟩
  rename_i h;rw[h1.len]at h hi;exact .inr ⟨by omega,hi⟩
 have L:∀b,blk z=some b->(∃(i:Nat) (u:Value),ins[i]?=some u/\blk u=some b)\/(∃(i:Nat) (u:Value),f[i]?=some u/\blk u=some b)->False:=by
  intro b c hi;rcases K with d|d
  .rw[d]at c;rcases hi with ⟨i,u,a,g⟩|⟨i,u,a,g⟩
   .exact h1.out i b u a g c
   exact B i b u a g c
  grind
 refine⟨by rw[By];exact H,by rw[By,By,h1.len,n.len],by rw[By];exact J,λi x u hx hu=>?_,λi j b u v hi r hu p=>?_,λi b u hi c M=>?_⟩
 .rcases t i u hu with ⟨d,a⟩|⟨d,a⟩
  .have hx:xs[i]?=some x:=by rwa [RZ d]at hx
   have s:=(h1.row i x u hx a).move (cells':=cells++l) (i':=i) λj z r=>by grind
   exact Z9.keeps (V:=⟨V.w,V.O,λ_=>False,V.ρ⟩) hk (λb c=>A b (F i b u a c) (h1.out i b u a c)) s
  have hx:ys[i-xs.length]?=some x:=by rwa [RW d]at hx
  have s:=(n.row _ x u hx a).move (cells':=cells++l) (i':=i) λj z r=>by
   have g:i*(k.size+1)=cells.length+(i-xs.length)*(k.size+1):=by
    rw[E,<-AF0];congr 1;omega
   grind
  exact Z9.keeps (V:=⟨V.w,V.O,λ_=>False,V.ρ⟩) hk (λb c=>A b (G _ b u a c) (B _ b u a c)) s
 .rcases t i u hi with ⟨d,a⟩|⟨d,a⟩<;>rcases t j v r with ⟨g,m⟩|⟨g,m⟩
  .exact h1.dist i j b u v a m hu p
  .exact(q b (A7.2 (.inr ⟨i,u,a,hu⟩)) (A7.2 (.inr ⟨_,v,m,p⟩))).elim
  .exact(q b (A7.2 (.inr ⟨j,v,m,p⟩)) (A7.2 (.inr ⟨_,u,a,hu⟩))).elim
  have:=n.dist _ _ b u v a m hu p;omega
 grind
theorem A2a (V:Vw) (et a:TypeId) (k e:Ty):LT V et a k e [] none (.slice none 0 0) [] [] :=
 ⟨by simp[AO],rfl,AEC V.w 0 et _,λi x u h=>by simp at h,λi j b u v h=>by simp at h,λi b u h=>by simp at h⟩
theorem Lx {w:World} {base:Nat} {et:TypeId} {sz b n:Nat} {loc v:Value} {cells:List Value} (f:w.ownsRow base et sz loc n cells) (h:DT loc b 0 n v):v=loc:=by
 obtain⟨a,m,c,rfl,_,_,d,e,rfl,_,h0,_⟩:=h;grind [Kq]
theorem A5N {w:World} {O:Nat->Prop} {et:TypeId} {e:Ty} {xs:List e.den} {loc:Value} {cells:List Value} (d:xs.length<=AO) (a:w.ownsRow 0 et e.size loc xs.length cells) (c:Dm w O e cells xs):Src w O e loc xs cells:=by
 refine⟨?_,a.1,c,YZ (V:=⟨w,O,λ_=>False,λ_=>undef⟩) a c,d⟩;rcases a.2 with ⟨b,hn⟩|⟨g,cap,f,b,_⟩
 .grind
 subst b;exact⟨some ⟨g,0,none⟩,cap,rfl,.inr ⟨_,rfl,a.cells (g:=g) rfl⟩⟩
theorem QA {V:Vw} {et a:TypeId} {k e:Ty} {xs:List (k.den×List e.den)} {o:Value} {ins cells:List Value} (h:LT V et a k e xs none o ins cells):Src V.w (λ_=>False) (.agg (.prod k (.slice e))) o xs cells :=
 A5N (e:=.agg (.prod k (.slice e))) (xs:=xs) h.max h.own (OU (λ_ _ h=>h) h λ_ _ _ _ _ h=>h)
theorem Rr {V:Vw} {et b:TypeId} {k e:Ty} {xs:List (k.den×List e.den)} {hl:Option Nat} {loc:Value} (a:A3 V (.nest et b k e xs hl) loc):seat loc:=by
 obtain⟨o,ins,cells,hl,_⟩:=a;exact hl.elim (λh=>.inr ⟨_,h⟩) (λh=>.inl ⟨_,_,_,h.1⟩)
theorem A2b (hs:B9 w0 K O0 nt ds σ ρ a w) (R:∀b,K b->b<w0.heap.size) (T:∀b,O0 b->b<w0.heap.size) (hT:DH P tb) {d:Nat} (U:d<nt) {t ty:TypeId} {x y:Operand} {n m hi A:Nat} {E s:Ty} {k e:Ty}
  (hx:Ap σ x=some (.sr n E 0 hi)) (f:Ap σ y=some (.sr m s 0 A)) {et O r:TypeId} {xs ys:List (k.den×List e.den)} (hn:lk n σ.objs=some (.nest et r k e xs none)) (B:lk m σ.objs=some (.nest O r k e ys none)) (X:n≠m)
  (af:Gr n=false) (ae:Gr m=false) (hu:P.underlying t=some (.slice et)) {te:TI} (H:lk et tb.ty=some te) (I:te.ty=.agg (.prod k (.slice e))) (Z:hi=xs.length) (aa:A=ys.length) (J:(xs.length+ys.length)*te.bytes<=AO) :
  ∃z w' ρ',(Builtin.append_ #[t,t] ty #[a.eval x,a.eval y]).run P w=.ok z w' /\
   B9 w0 K O0 nt ds ⟨(d,.sr n (.agg (.prod k (.slice e))) 0 (xs.length+ys.length)) :: CN [n,m] σ.env,(n,.nest et r k e (xs++ys) none) :: Ar [n,m] [n,m] σ.objs⟩ ρ' (a.put (some d) z) w':=by
 subst Z aa;have v:Ha (vw w O0 σ ρ) σ a.eval:=Fv hs.env;have C:=hs.objs n _ hn;have D:=hs.objs m _ B;have ah:=Rr C;have ai:=Rr D;obtain⟨o,ins,cells,l,h⟩:=C;obtain⟨aj,M,N,q,p⟩:=D;obtain⟨_,hx⟩:=v x _ hx;obtain⟨_,f⟩:=v y _ f;have hx:DT (plc (ρ n)) E.size 0 xs.length (a.eval x):=hx;have f:DT (plc (ρ m)) s.size 0 ys.length (a.eval y):=f;rw[l.plc]at hx;rw[q.plc]at f;have hx:=Lx h.own hx;have f:=Lx p.own f;rw[hx,f];obtain⟨z,w',G,F,g,V⟩:=GX (ty:=ty) hT hu H I h.own (QA p) J (NO _);have L:=Hb (ty:=ty) hT hu H I h.own (QA p) J G;rw[Ub h.own]at g;refine⟨z,w',_,G,hs.swap1 (loc:=.tuple (z :: (ins++M)).toArray) R T (tl:=[n,m]) (λj ag=>?_) (.inl (by simp)) g.os g.tape g.output g.size ?_ ?_ ?_ U ?_⟩
 .grind
 .exact λb c Y=>g.block b c λe1=>Y n (by simp) (l.bk.2 (A7.2 (.inl e1.symm)))
 .intro b c;rcases A7.1 c with c|⟨i,u,hi,c⟩
  .rcases L with h1|h1
   .exact .inl ⟨n,by simp,l.bk.2 (A7.2 (.inl (by rw[<-h1];exact c)))⟩
   exact .inr (h1 b c)
  rw[AAi]at hi;split at hi
  .exact .inl ⟨n,by simp,l.bk.2 (A7.2 (.inr ⟨_,u,hi,c⟩))⟩
  exact .inl ⟨m,by simp,q.bk.2 (A7.2 (.inr ⟨_,u,hi,c⟩))⟩
 .intro V' ab hk;subst ab;refine⟨z,ins++M,cells++N,.inl rfl,Ye h p (λb h1 Q=>?_) F L (λb c W=>g.block b c λe1=>W e1.symm) hk V⟩;exact X (hs.dist n m b ⟨_,hn⟩ ⟨_,B⟩ (l.bk.2 h1) (q.bk.2 Q))
 intro V' S ad;refine⟨S,?_⟩;show DT (plc (V'.ρ n)) _ 0 _ z;rw[ad];exact GW F
theorem A5O (hs:B9 w0 K O0 nt ds σ ρ a w) (J:∀b,K b->b<w0.heap.size) (M:∀b,O0 b->b<w0.heap.size) (hT:DH P tb) {d:Nat} (N:d<nt) {t ty:TypeId} {x y:Operand} {m r:Nat} {o:Ty} {k e:Ty}
  (hx:Ap σ x=some (.raw (.slice none 0 0))) (f:Ap σ y=some (.sr m o 0 r)) {et I n:TypeId} {ys:List (k.den×List e.den)} (Q:lk m σ.objs=some (.nest I n k e ys none)) (O:lk d σ.objs=none)
  (X:Gr m=false) (hu:P.underlying t=some (.slice et)) {te:TI} (C:lk et tb.ty=some te) (D:te.ty=.agg (.prod k (.slice e))) (T:r=ys.length) (E:ys.length*te.bytes<=AO) :
  ∃z w' ρ',(Builtin.append_ #[t,t] ty #[a.eval x,a.eval y]).run P w=.ok z w' /\
   B9 w0 K O0 nt ds ⟨(d,.sr d (.agg (.prod k (.slice e))) 0 ys.length) :: CN [m] σ.env,(d,.nest et n k e ys none) :: Ar [m] [m] σ.objs⟩ ρ' (a.put (some d) z) w':=by
 subst T;have q:Ha (vw w O0 σ ρ) σ a.eval:=Fv hs.env;have s:=hs.objs m _ Q;have aa:=Rr s;obtain⟨ab,G,H,B,l⟩:=s;have hx:a.eval x=.slice none 0 0:=q x _ hx;obtain⟨_,f⟩:=q y _ f;have f:DT (plc (ρ m)) o.size 0 ys.length (a.eval y):=f;rw[B.plc]at f;have f:=Lx l.own f;rw[hx,f];have h:=A2a (vw w O0 σ ρ) et n k e;obtain⟨z,w',A,v,g,R⟩:=GX (ty:=ty) hT hu C D h.own (QA l) (by simpa using E) (NO _);have F:=Hb (ty:=ty) hT hu C D h.own (QA l) (by simpa using E) A;rw[Ub h.own]at g;refine⟨z,w',_,A,hs.swap1 (loc:=.tuple (z :: ([]++G)).toArray) J M (tl:=[m]) (λj Y=>?_) (.inr O) g.os g.tape g.output g.size ?_ ?_ ?_ N ?_⟩
 .grind
 .exact λb c Z=>g.block b c λe1=>by simp[blk]at e1
 .intro b c;rcases A7.1 c with c|⟨i,u,hi,c⟩
  .rcases F with h1|h1
   .grind [blk]
   exact .inr (h1 b c)
  exact .inl ⟨m,by simp,B.bk.2 (A7.2 (.inr ⟨_,u,by simpa using hi,c⟩))⟩
 .intro V' U hk;subst U;refine⟨z,[]++G,[]++H,.inl rfl,?_⟩;have:=Ye h l (λb h1 W=>?_) v F (λb c S=>g.block b c λe1=>S e1.symm) hk R
  .simpa using this
  grind [A7,blk]
 intro V' L V;refine⟨L,?_⟩;show DT (plc (V'.ρ d)) _ 0 _ z;rw[V];have p:=GW v;simp only[AAg,AE4]at p;exact p
theorem lW (hs:B9 w0 K O0 nt ds σ ρ a w) (r:∀b,K b->b<w0.heap.size) (s:∀b,O0 b->b<w0.heap.size) (hT:DH P tb) {d:Option Nat} (A:∀k,d=some k->k<nt) {t u ty:TypeId} {x y:Operand}
  (h:EX tb σ d t u (Ap σ x) (Ap σ y)=some (vc,σ')) (p:vc) :
  ∃z w' ρ',(Builtin.append_ #[t,u] ty #[a.eval x,a.eval y]).run P w=.ok z w'/\B9 w0 K O0 nt ds σ' ρ' (a.put d z) w':=by
 by_cases J:∃n e hi,Ap σ x=some (.sr n e 0 hi)/\Co (lk n σ.objs)=false
 .exact lV hs r s hT A h p J
 unfold EX at h;split at h
 .rename_i n e hi v hx q;split at h
  .rename_i d;split at h
   .rename_i o;obtain⟨rfl,H⟩:=o;cases f:lk t tb.ty with
    | none=>rw[f]at h;simp[Eh]at h
    | some ti =>
     rw[f]at h;unfold Eh at h;split at h
     .rename_i N offs el b D;cases D;split at h
      .rename_i F;subst F;obtain⟨hu,L,te,g,l⟩:=CU (hT _ _ f) hT;rw[g]at h;unfold Ce at h;split at h
       .rename_i ti et e2 xs h1 hn;exact absurd ⟨n,_,hi,hx,by rw[hn];rfl⟩ J
       .rename_i ti et M k e2 xs h1 hn;cases h1;split at h
        .rename_i c;obtain⟨rfl,rfl⟩:=c;unfold TA at h;split at h
         .rename_i m E T;unfold Lp at h;split at h
          .rename_i Q Z Y O ys I;split at h
           .rename_i c;obtain⟨rfl,U,G⟩:=c;cases C:BO (.slice (.agg (.prod k (.slice e2)))) ⟨.slice (.agg (.prod Y (.slice O))),ys⟩ with
            | none=>rw[C]at h;simp[Km]at h
            | some ab =>
             obtain⟨j,R⟩:=Bh C;injection j with j
             injection j with j B
             injection B with B
             subst j B;cases R;rw[C]at h;simp only[Km]at h;cases h;obtain⟨V,W,X⟩:=p;exact A2b hs r s hT (A _ rfl) hx q hn I U H G hu g l V W X
           cases h
          cases h
         cases h
        cases h
       cases h
      cases h
     cases h
   cases h
  cases h
 .rename_i n e i len v hx q;split at h
  .rename_i d;split at h
   .rename_i o;subst o;cases f:lk t tb.ty with
    | none=>rw[f]at h;simp[Pl]at h
    | some ti =>
     rw[f]at h;unfold Pl at h;split at h
     .rename_i N offs el b D;cases D;split at h
      .rename_i F;subst F;obtain⟨hu,L,te,g,l⟩:=CU (hT _ _ f) hT;rw[g]at h;unfold S9 at h;split at h
       .rename_i ti et M k e1 xs h1 hn;cases h1;split at h
        .rename_i c;obtain⟨rfl,rfl,H⟩:=c;exact A5M hs r s hT (A _ rfl) hx q hn H hu g l h p
        cases h
       cases h
      cases h
     cases h
   cases h
  cases h
 .rename_i v hx q;split at h
  .rename_i d;split at h
   .rename_i o;subst o;unfold Z7 at h;split at h
    .rename_i m E T aa offs el b f;obtain⟨hu,L,te,g,l⟩:=CU (hT _ _ f) hT;rw[g]at h;unfold Pn at h;split at h
     .rename_i ti Q M k e ys h1 I;cases h1;split at h
      .rename_i c;subst c;unfold Pm at h;split at h
       .rename_i c;obtain⟨S,G⟩:=c;cases h;exact A5O hs r s hT (A _ rfl) hx q I (by simpa using S) G hu g l p.1 p.2
       cases h
      cases h
     cases h
    cases h
   cases h
  cases h
 cases h
theorem lX (hs:B9 w0 K O0 nt ds σ ρ a w) (r:∀b,K b->b<w0.heap.size) (s:∀b,O0 b->b<w0.heap.size) (hT:DH P tb) {id:TypeId} {x y:Operand} (h:Hv σ (lk id tb.ty) (Ap σ x) (Ap σ y)=some (vc,σ')) (C:vc) :
  ∃w' ρ',(Instr.storeAt id (a.eval x) (a.eval y)).run P w=.ok () w'/\B9 w0 K O0 nt ds σ' ρ' a w':=by
 by_cases A:∃n e i l off,Ap σ x=some (.ep n e i l off)/\Co (lk n σ.objs)=true
 .obtain⟨n,e,i,l,off,hx,f⟩:=A;unfold Hv at h;split at h
  .grind
  .rename_i ti I F i' L J v B g D;rw[hx]at g;cases g;unfold DZ at h;split at h
   .rename_i hn;rw[hn]at f;cases f
   .rename_i et G k e1 xs j hn;split at h
    .rename_i m E hi;split at h
     .rename_i c;obtain⟨rfl,rfl,q⟩:=c;subst q;unfold Lq at h;split at h
      .rename_i c;obtain⟨hty,rfl,rfl⟩:=c;unfold Lo at h;split at h
       .rename_i H e2 ys z;split at h
        .rename_i c;obtain⟨rfl,t,u⟩:=c;cases d:BO (.slice E) ⟨.slice e2,ys⟩ with
         | none=>rw[d]at h;simp[Kl]at h
         | some M =>
          obtain⟨o,p⟩:=Bh d;subst o;cases p;rw[d]at h;simp only[Kl]at h;cases h;exact A29 hs r s hT B hty hx D hn z u t C
        cases h
       cases h
      cases h
     cases h
    cases h
   cases h
  cases h
 grind [zZ,Co,lk]
end
end
end Go.Proofs.YtapkhdkbkodbjaaGreat.Fw
