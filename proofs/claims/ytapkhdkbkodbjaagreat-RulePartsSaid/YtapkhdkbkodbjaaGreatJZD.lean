/- Calls by contract; stores; appends. -/
import Derived.Test.YtapkhdkbkodbjaaGreatJZC
import Derived.CallsIn
import Derived.TacticsIn
import Derived.OrdersIn
import Derived.RangeFuncCalls
set_option linter.unusedVariables false
set_option linter.unusedSimpArgs false
namespace Go.Proofs.YtapkhdkbkodbjaaGreat.Fw
section
open Go Go.RowKit
def Su (w:World) (O:Nat->Prop):(ts:List Ty)->List Value->KR ts->Prop
 | [],a,_=>a=[]
 | t :: ts,a,ds=>∃(v:Value) (r:List Value),a=v :: r/\Bl w O t v ds.1/\Su w O ts r ds.2
def FR (r:Option Nat):Fence:={ fn:=λ_=>True,depth:=none,alive:=false,round:=r }
theorem Ob {r:Option Nat} {n:Nat} {P:Program} {f:FuncId} {args:Array Value} {w:World} {R:Ending->World->Prop} (h:Calls P f args w R):CallsIn (FR r) n P f args w R:=by
 cases r with
 | none=>exact callsIn_wide.2 h
 | some l=>exact((callsIn_wide.2 h:CallsIn Fence.wide n P f args w R).inRound l:CallsIn _ n P f args w R)
theorem Gv (r:Option Nat) (ρ:Operand->Value) (o:Oper) (h:∀c,o.op≠.defer c):o.semAt r ρ=execOp ρ o:=by
 cases r with
 | none=>exact Oper.semAt_none ρ o
 | some l=>exact Oper.semAt_some l ρ o h
def A1D (w:World) (O:Nat->Prop) (a:List RV) (u:Value) (w':World):Prop :=
 ∀nm:Nat,∃ρ',QS w O ⟨[],[]⟩ (λ_=>undef) (Jo nm a) (DF nm a) u ρ' w'
def A90 (P:Program) (f:FuncId) (sp:Aa):Prop :=
 ∀(w:World) (O:Nat->Prop) (a:List Value) (ds:KR sp.ins),(∀b,O b->b<w.heap.size)->Su w O sp.ins a ds->sp.pre ds ->
  Calls P f a.toArray w λe w'=>∃u,e=.returned u/\A1D w O (sp.out ds) u w'
def Ab (P:Program) (f:FuncId) (sp:Aa):Prop :=
 (∃ fn : Func, P.funcs[f]? = some fn /\ (fn.name == "runtime.NumGoroutine") = false /\ fn.body.isNone = false) /\ A90 P f sp
def Iv (P:Program) (tb:Tb):Prop:=∀f sp,lk f tb.fns=some sp->Ab P f sp
theorem Pp {w w':World} {O O':Nat->Prop}:∀ {t:Ty} {cs:List Value} {d:t.den},t.flat=true->B0 w O t cs d->B0 w' O' t cs d
 | .int _,_,_,_,h=>h
 | .bool,_,_,_,h=>h
 | .str,_,_,_,h=>h
 | .ref _,_,_,_,h=>h
 | .slice _,_,_,hf,_=>by simp[Ty.flat]at hf
 | .prod a b,_,_,hf,h=>by
  simp only[Ty.flat,AT]at hf;obtain⟨c1,c2,rfl,h1,c⟩:=h;exact⟨c1,c2,rfl,Pp hf.1 h1,Pp hf.2 c⟩
 | .agg t,cs,d,hf,h=>by
  simp only[Ty.flat]at hf;have h:B0 w O t cs d:=h;exact(Pp hf h:B0 w' O' t cs d)
theorem Yl {w w':World} {O O':Nat->Prop} {t:Ty} {v:Value} {d:t.den} (hf:t.flat=true) (h:Bl w O t v d):Bl w' O' t v d :=
 let ⟨cs,h1,a⟩:=h
 ⟨cs,Pp hf h1,a⟩
theorem Sv:∀ {l:List RV} (nm:Nat),l.all RV.flat=true->DF nm l=[]
 | [],_,_=>rfl
 | .p t d :: l,nm,h=>by
  simp only[AE7,AT]at h;simp[DF,Sj,Sv (nm+10000) h.2]
 | .own _ _ _ :: l,nm,h=>by simp[RV.flat]at h
theorem A1E {r:RV} (h:r.flat=true) (nm:Nat):∃t d,eL nm r=.p t d/\t.flat=true:=by
 cases r with
 | p t d=>exact⟨t,d,rfl,h⟩
 | own _ _ _=>simp[RV.flat]at h
theorem A1F {V V':Vw}:∀ {l:List RV} {nm:Nat} {a:List Value},l.all RV.flat=true->Js V (Nt nm l) a->Js V' (Nt nm l) a
 | [],_,_,_,h=>h
 | r :: l,nm,a,hf,h=>by
  simp only[AE7,AT]at hf;obtain⟨v,f,rfl,h1,b⟩:=h;obtain⟨t,d,e,c⟩:=A1E hf.1 nm;refine⟨v,f,rfl,?_,A1F hf.2 b⟩;rw[e]at h1 ⊢;exact Yl c h1
theorem A1G {V V':Vw} {l:List RV} {nm:Nat} {u:Value} (hf:l.all RV.flat=true) (h:B7 V (Jo nm l) u):B7 V' (Jo nm l) u:=by
 match l,hf,h with
 | [],_,h=>exact h
 | [r],hf,h =>
  simp only[AE7,List.all_nil,Bool.and_true]at hf;obtain⟨t,d,e,a⟩:=A1E hf nm;simp only[Jo]at h ⊢;rw[e]at h ⊢;exact Yl a h
 | c :: f :: l,hf,h =>
  obtain⟨b,rfl,h1⟩:=h;exact⟨b,rfl,A1F hf h1⟩
section
variable {P:Program} {tb:Tb} {w:World} {O0:Nat->Prop} {σ:St} {ρ:Nat->Value} {vc:Prop} {v:AV} {obs:List (Nat×Obj)}
theorem QS.call {c:List RV} {nm:Nat} {u:Value} {ρ':Nat->Value} {w':World} (hf:Bi (DF nm c) σ=true)
  (h:QS w (own O0 σ ρ) ⟨[],[]⟩ (λ_=>undef) (Jo nm c) (DF nm c) u ρ' w') :
  QS w O0 σ ρ (Jo nm c) (DF nm c) u (λn=>if (lk n (DF nm c)).isSome then ρ' n else ρ n) w':=by
 have f:∀n,HH (EZ ⟨[],[]⟩ (DF nm c)) n↔∃o,lk n (DF nm c)=some o:=λn=>by simp[HH,EZ]
 have hk:Cb (vw w' (own O0 σ ρ) (EZ ⟨[],[]⟩ (DF nm c)) ρ') (vw w' O0 (EZ σ (DF nm c)) (λn=>if (lk n (DF nm c)).isSome then ρ' n else ρ n)):=by
  refine⟨?_,?_,?_,λ_ _ _=>rfl⟩
  ·intro b _ d e;rcases e with h0|⟨n,i,hn⟩
   ·exact d (.inl (.inl h0))
   ·rcases L4 i with ⟨o,a⟩|⟨k,j⟩
    ·refine d (.inr ⟨n,(f n).2 ⟨o,a⟩,?_⟩);simpa[a] using hn
    ·refine d (.inl (.inr ⟨n,j,?_⟩));simpa[k] using hn
  ·intro n hn;obtain⟨o,a⟩:=(f n).1 hn;exact⟨o,by simp[EZ,A5,a]⟩
  ·intro n hn;obtain⟨o,a⟩:=(f n).1 hn;simp[vw,a]
 refine⟨h.below,λn hn=>by simp[hn],h.av.keeps hk,λn o a=>?_,λn o b a d=>?_,λn m o l b a g d e=>?_⟩
 ·simp only[a,AFa,AD1];exact(h.obj n o a).keeps hk (λ_ _=>rfl)
 ·simp only[a,AFa,AD1]at d;exact h.new n o b a d
 ·simp only[a,g,AFa,AD1]at d e;exact h.dist n m o l b a g d e
theorem bE {V:Vw} {O':Nat->Prop} {l:Bool} (c:∀b,¬V.O b->¬O' b) (f:l=true->∀b,¬O' b) (e:∀n o,lk n σ.objs=some o->A8 V o (V.ρ n)) {ev:Operand->Value} (d:GZ V σ ev) :
  ∀ {ts:List Ty} {xs:List Operand} {ds:KR ts},GP l σ ts xs=some ds->Su V.w O' ts (xs.map ev) ds
 | [],[],ds,h=>rfl
 | [],_ :: _,ds,h=>by simp[GP]at h
 | _ :: _,[],ds,h=>by simp[GP]at h
 | t :: ts,x :: xs,ds,h=>by
  simp only[GP]at h;cases a:Ak σ x with
  | none=>rw[a]at h;cases h
  | some av =>
   rw[a]at h;simp only at h;split at h
   ·rename_i y ys g i;cases h;exact⟨ev x,xs.map ev,rfl,Iu c f e g (d x av a),bE c f e d i⟩
   ·cases h
theorem A91 (H:Iv P tb) (z:∀n o,lk n σ.objs=some o->A8 (vw w O0 σ ρ) o (ρ n)) (M:∀b,own O0 σ ρ b->b<w.heap.size) {a:Act} (m:GZ (vw w O0 σ ρ) σ a.eval) {d:Nat} {xs:List Operand} {g:Operand}
  {o:Oper} {ts:Array TypeId} (y:o.op=.call { callee:=.value g,args:=xs.toArray,argTypes:=ts })
  (h:Lw tb σ d xs (Ak σ g)=some (vc,v,obs)) (B:vc) (hf:Bi obs σ=true) {next:Act->World->Prop} {Q:Exit->Act->World->Prop} {r:Option Nat}
  (hn:∀u ρ' w',QS w O0 σ ρ v obs u ρ' w'->next (a.put o.dst u) w'):o.wpIn (FR r) 0 P a w next Q:=by
 cases p:Ak σ g with
 | none=>rw[p]at h;simp[Lw]at h
 | some C =>
  rw[p]at h;have J:=m g C p;unfold Lw at h;split at h
  ·rename_i f F;cases F;have I:a.eval g=.func (.func f) #[] #[]:=J;cases t:lk f tb.fns with
   | none=>rw[t]at h;simp[JW]at h
   | some sp =>
    rw[t]at h;simp only[JW]at h;cases i:GP sp.lend σ sp.ins xs with
    | none=>rw[i]at h;simp[KX]at h
    | some ds =>
     rw[i]at h;simp only[KX]at h;split at h
     ·rename_i j;cases h;obtain⟨⟨fn,G,L,E⟩,A⟩:=H f sp t;have N:(execOp a.eval o).run P w=.ok (.enter f (xs.map a.eval).toArray) w:=by
       have h1 : ¬ fn.name = "runtime.NumGoroutine" := by simpa using L
       have D:¬fn.body=none:=by intro e;simp[e]at E
       simp[execOp,y,resolve,Deferred.ofValue,I,invoke,callFunc,G,h1,D]
      refine⟨λ_ _=>trivial,?_⟩;rw[Gv _ _ _ (λc e=>by rw[y]at e;cases e),N,Oper.uponIn_enter];refine⟨λh=>(by simp[FR]at h),Ob ?_⟩;by_cases q:sp.lend=true
      ·rw[q]at i;have x:(sp.out ds).all RV.flat=true:=by
        rcases j with j|j
        ·rw[q]at j;cases j
        ·exact j
       have l:=bE (V:=vw w O0 σ ρ) (O':=λ_=>False) (λ_ _ h=>h) (λ_ _ h=>h) z m i;refine(A w (λ_=>False) _ ds (λ_ h=>h.elim) l B).mono λe w' hh=>?_;obtain⟨u,rfl,s⟩:=hh;obtain⟨ρ',k⟩:=s d;refine hn u ρ w' ?_;rw[Sv d x]at k ⊢;exact⟨k.below,λ_ _=>rfl,A1G x k.av,(λ_ _ h=>by cases h),(λ_ _ _ h=>by cases h),(λ_ _ _ _ _ h=>by cases h)⟩
      ·have K:sp.lend=false:=by simpa using q
       rw[K]at i;have l:=bE (V:=vw w O0 σ ρ) (O':=own O0 σ ρ) (λ_ h=>h) (λh=>by cases h) z m i;refine(A w (own O0 σ ρ) _ ds M l B).mono λe w' hh=>?_;obtain⟨u,rfl,s⟩:=hh;obtain⟨ρ',k⟩:=s d;exact hn u _ w' (QS.call hf k)
     ·cases h
  ·cases h
end
end
section
open Go Go.RowKit
section
variable {P:Program} {tb:Tb} {w:World} {O0:Nat->Prop} {σ:St} {ρ:Nat->Value} {vc:Prop} {v:AV} {obs:List (Nat×Obj)}
theorem Av {o:Oper} {a:Act} {u:Value} {w':World} {next:Act->World->Prop} {Q:Exit->Act->World->Prop} {r:Option Nat} (h:(execOp a.eval o).run P w=.ok (.value u) w') (hn:next (a.put o.dst u) w') (b:∀c,o.op≠.defer c:=by intro c e;cases e):o.wpIn (FR r) 0 P a w next Q:=by
 refine⟨λ_ _=>trivial,?_⟩;rw[Gv _ _ _ b,h];exact hn
theorem A1H {V:Vw} (x:Value):B7 V (HV x) x:=by
 unfold HV;split
 ·rename_i k n;split
  ·rename_i h;exact BU h
  ·exact(rfl:(Value.int k n)=_)
 ·exact Bm _
 ·rename_i s;split
  ·rename_i h;exact VR h
  ·exact(rfl:(Value.string s)=_)
 ·exact(rfl:x=x)
theorem Et {V:Vw} {a:Act} (h:∀s v,lk s σ.env=some v->B7 V v (a.tmps.getD s undef)):GZ V σ a.eval:=by
 intro x v b;cases x with
 | tmp t=>exact h t v b
 | const c=>simp only[Ak]at b;cases b;exact A1H c
 | global g=>simp[Ak]at b
 | func f=>simp only[Ak]at b;cases b;rfl
structure AAo (P:Program) (tb:Tb) (w:World) (O0:Nat->Prop) (σ:St) (ρ:Nat->Value) (a:Act):Prop where
 hT:DH P tb
 hF:Iv P tb
 obj:∀n o,lk n σ.objs=some o->A8 (vw w O0 σ ρ) o (ρ n)
 own:∀b,own O0 σ ρ b->b<w.heap.size
 ev:GZ (vw w O0 σ ρ) σ a.eval
theorem QS.toP {d n:Nat} {el:TypeId} {e:Ty} {xs:List e.den} {u:Value} {ρ':Nat->Value} {w':World} (hown:∀b,own O0 σ ρ b->b<w.heap.size) (hf:Bi [(d,.arr el e xs)] σ=true)
  (hq:QS w O0 σ ρ (.sr d e 0 n) [(d,.arr el e xs)] u ρ' w') (hn:n=xs.length):QS w O0 σ ρ (.p (.slice e) xs) [] u ρ w' where
 below:=hq.below
 rho:=λ_ _=>rfl
 av:=by
  have hO:∀b,¬own O0 (EZ σ [(d,.arr el e xs)]) ρ' b->¬own O0 (EZ σ []) ρ b:=by
   intro b hb hb';rcases hb' with h0|⟨m,⟨o,hm⟩,hmb⟩
   ·exact hb (.inl h0)
   ·have hm:lk m σ.objs=some o:=hm;have hne:lk m [(d,Obj.arr el e xs)]=none:=by grind [lk,OW]
    refine hb (.inr ⟨m,⟨o,by simp only[EZ,A5,hne];simpa using hm⟩,?_⟩);rw[hq.rho m hne];exact hmb
  have hd:lk d [(d,Obj.arr el e xs)]=some (.arr el e xs):=by simp[lk]
  have hb:∀b,bk (ρ' d) b->¬own O0 (EZ σ []) ρ b:=λb hb hb'=>by
   have h1:=hq.new d _ b hd hb;have h2:=hown b hb';omega
  have hr:=aY (V:=vw w' O0 (EZ σ [(d,.arr el e xs)]) ρ') hO (λb hb'=>hb b (.inl hb')) (hq.obj d _ hd) hq.av.2;rw[hn,Ij]at hr;obtain⟨_,_,_,_,_,_,a',c',hve,_⟩:=hq.av.2;exact⟨[u],hr,by rw[hve];rfl⟩
 obj:=λ_ _ h=>by cases h
 new:=λ_ _ _ h=>by cases h
 dist:=λ_ _ _ _ _ h=>by cases h
theorem YT {id:TypeId} {ti:TI} (hT:EH P tb id ti) (g:DH P tb) (r:∀n o,lk n σ.objs=some o->A8 (vw w O0 σ ρ) o (ρ n)) (z:∀b,own O0 σ ρ b->b<w.heap.size) {ev:Operand->Value} (i:GZ (vw w O0 σ ρ) σ ev) {s:Bool} {d n:Nat} {parts:List (Nat×Operand)}
  (h:Bh s σ d n parts (some ti)=some (vc,v,obs)) (f:vc) (hf:Bi obs σ=true) :
  ∃u ρ' w',(Instr.buildSlice id n (parts.map λp=>(p.1,ev p.2)).toArray).run P w=.ok u w'/\QS w O0 σ ρ v obs u ρ' w':=by
 cases s with
 | false=>exact Pn hT g r i h f hf
 | true =>
  unfold Bh at h;split at h
  ·rename_i e offs el b C;cases hp:FD σ e 0 parts with
   | none=>rw[hp]at h;simp[Bp]at h
   | some xs =>
    rw[hp]at h;simp only[Bp,AD1]at h;cases h;obtain⟨a,y⟩:∃a,lk a σ.objs=none:=by
     have:∀l:List (Nat×Obj),∃m,∀k,m<=k->lk k l=none:=by
      intro l;induction l with
      | nil=>exact⟨0,λ_ _=>rfl⟩
      | cons x l B =>
       obtain⟨m,c⟩:=B;refine⟨max m (x.1+1),λk hk=>?_⟩;have:¬k=x.1:=by omega
       obtain⟨j,o⟩:=x;simp only[lk,this,AE4];exact c k (by omega)
     obtain⟨m,c⟩:=this σ.objs;exact⟨m,c m (NO m)⟩
    have q:Bi [(a,.arr el e xs)] σ=true:=by simp[Bi,y]
    have A:Bh false σ a n parts (some ti)=some (xs.length=n/\n*e.size<=16777216,.sr a e 0 n,[(a,.arr el e xs)]):=by grind [Bh,Bp]
    obtain⟨u,ρ',w',h1,t⟩:=Pn hT g r i A f q;exact⟨u,ρ,w',h1,t.toP z q f.1.symm⟩
  ·cases h
theorem fH {V:Vw} {ev:Operand->Value} (f:GZ V σ ev) (w':World) {k:IntKind}:∀(r:List Operand) (a m:Int),Fg σ k (some a) r=some m->KO k a->((r.map ev).foldlM Builtin.min2 (.int k a)).run P w'=.ok (.int k m) w'/\KO k m
 | [],a,m,h,ha=>by
  simp only[Fg,tO]at h;subst h;exact⟨rfl,ha⟩
 | x :: r,a,m,h,ha=>by
  simp only[Fg]at h;cases d:Ak σ x with
  | none=>rw[d]at h;cases r<;>simp[Nu,Fg]at h
  | some xv =>
   rw[d]at h;cases c:Nu k a (some xv) with
   | none=>rw[c]at h;cases r<;>simp[Fg]at h
   | some b' =>
    rw[c]at h;unfold Nu at c;split at c
    ·rename_i j b e;cases e;split at c
     ·rename_i hk;subst hk;cases c;obtain⟨g,i⟩:=BR (f x _ d);have:=fH f w' r _ m h (by split;exact i;exact ha);rw[UQ,List.foldlM_cons,g];simpa[Builtin.min2] using this
     ·cases c
    ·cases c
theorem pQ {a:Act} (H:AAo P tb w O0 σ ρ a) {o:Oper} (h:aq tb σ (o.dst.getD 0) o.op=some (vc,v,obs)) (C:vc) (hf:Bi obs σ=true)
  {next:Act->World->Prop} {Q:Exit->Act->World->Prop} {r:Option Nat} (hn:∀u ρ' w',QS w O0 σ ρ v obs u ρ' w'->next (a.put o.dst u) w'):o.wpIn (FR r) 0 P a w next Q:=by
 obtain⟨hT,hF,E,W,q⟩:=H;have R:∀n,(vw w O0 σ ρ).L n->∃o,A8 (vw w O0 σ ρ) o ((vw w O0 σ ρ).ρ n):=λn ⟨o,ae⟩=>⟨o,E n o ae⟩;obtain⟨dst,op,type,pos,after,guard⟩:=o;simp only at h hn;cases op<;>simp only[aq]at h<;>try(cases h;done)
 case move x =>
  cases d:Ak σ x with
  | none=>rw[d]at h;cases h
  | some xv =>
   rw[d]at h;simp only[Gt]at h;cases h;exact Av (u:=a.eval x) (by simp[execOp]) (hn _ _ _ (QS.still (q x _ d)))
 case assign x =>
  cases d:Ak σ x with
  | none=>rw[d]at h;cases h
  | some xv =>
   rw[d]at h;simp only[Gt]at h;cases h;exact Av (u:=a.eval x) (by simp[execOp]) (hn _ _ _ (QS.still (q x _ d)))
 case pick c x y =>
  cases H:Ak σ c with
  | none=>rw[H]at h;simp[LR]at h
  | some O =>
   rw[H]at h;have T:=q c O H;unfold LR at h;split at h
   ·rename_i F;cases F;have D:=EM T;cases d:Ak σ x with
    | none=>rw[d]at h;simp[Gt]at h
    | some xv =>
     rw[d]at h;simp only[Gt]at h;cases h;exact Av (u:=a.eval x) (by simp[execOp,D,asBool]) (hn _ _ _ (QS.still (q x _ d)))
   ·rename_i F;cases F;have D:=EM T;cases A:Ak σ y with
    | none=>rw[A]at h;simp[Gt]at h
    | some I =>
     rw[A]at h;simp only[Gt]at h;cases h;exact Av (u:=a.eval y) (by simp[execOp,D,asBool]) (hn _ _ _ (QS.still (q y _ A)))
   ·cases h
 case alloc t =>
  cases e:lk t tb.ty with
  | none=>rw[e]at h;simp[KT]at h
  | some ti =>
   rw[e]at h;obtain⟨u,ρ',w',h1,j⟩:=A50 (w:=w) (O0:=O0) (ρ:=ρ) (hT _ _ e) h hf;exact Av (u:=u) (w':=w') (by simp[execOp,h1]) (hn _ _ _ j)
 case box t x =>
  cases e:lk t tb.ty with
  | none=>rw[e]at h;simp[Tj]at h
  | some ti =>
   cases d:Ak σ x with
   | none=>rw[e,d]at h;simp[Tj]at h
   | some xv =>
    rw[e,d]at h;obtain⟨u,ρ',w',h1,j⟩:=AAm (hT _ _ e) h (q x _ d) hf;exact Av (u:=u) (w':=w') (by simp[execOp,h1]) (hn _ _ _ j)
 case build t parts =>
  cases e:lk t tb.ty with
  | none=>rw[e]at h;simp[JS]at h
  | some ti =>
   rw[e]at h;obtain⟨rfl,u,h1,j⟩:=A52 (hT _ _ e) E q h;have h1:(Instr.build t (parts.map λp=>(p.1,a.eval p.2))).run P w=.ok u w:=by
    rw[<-h1]
    congr 2
    apply Array.ext';simp
   exact Av (u:=u) (w':=w) (by simp[execOp,h1]) (hn _ _ _ (QS.still j))
 case buildSlice t n parts =>
  cases U:lk (dst.getD 0) tb.nests with
  | some am =>
   rw[U]at h;simp only[Gm]at h;cases e:lk t tb.ty with
   | none=>rw[e]at h;simp[JU]at h
   | some ti =>
    rw[e]at h;obtain⟨u,ρ',w',h1,j⟩:=A8V (hT _ _ e) hT E q h C hf;have h1:(Instr.buildSlice t n (parts.map λp=>(p.1,a.eval p.2))).run P w=.ok u w':=by
     rw[<-h1]
     congr 2
     grind
    exact Av (u:=u) (w':=w') (by simp[execOp,h1]) (hn _ _ _ j)
  | none =>
  rw[U]at h;simp only[Gm]at h;cases e:lk t tb.ty with
  | none=>rw[e]at h;simp[Bh]at h
  | some ti =>
   rw[e]at h;obtain⟨u,ρ',w',h1,j⟩:=YT (hT _ _ e) hT E W q h C hf;have h1:(Instr.buildSlice t n (parts.map λp=>(p.1,a.eval p.2))).run P w=.ok u w':=by
    rw[<-h1]
    congr 2
    apply Array.ext';simp
   exact Av (u:=u) (w':=w') (by simp[execOp,h1]) (hn _ _ _ j)
 case load t x =>
  cases e:lk t tb.ty with
  | none=>rw[e]at h;simp[Jp]at h
  | some ti =>
   cases d:Ak σ x with
   | none=>rw[e,d]at h;simp[Jp]at h
   | some xv =>
    rw[e,d]at h;obtain⟨rfl,u,h1,j⟩:=A1u (hT _ _ e) E h (q x _ d);exact Av (u:=u) (w':=w) (by simp[execOp,h1]) (hn _ _ _ (QS.still j))
 case nilCheck x =>
  cases d:Ak σ x with
  | none=>rw[d]at h;simp[VK]at h
  | some xv =>
   rw[d]at h;obtain⟨rfl,⟨ad,F⟩,j⟩:=AAl h (q x _ d);exact Av (u:=a.eval x) (w':=w) (by simp[execOp,F]) (hn _ _ _ (QS.still j))
 case binOp op t x y au =>
  cases d:Ak σ x with
  | none=>rw[d]at h;simp[Ra]at h
  | some xv =>
   cases A:Ak σ y with
   | none=>rw[d,A]at h;cases xv<;>simp[Ra]at h
   | some I =>
    rw[d,A]at h;obtain⟨rfl,h1,u,j,B⟩:=AAh (P:=P) (t:=t) (λD=>by
     cases e:lk t tb.ty with
     | none=>rw[e]at D;cases D
     | some ti =>
      have h0:=(hT _ _ e).2;rw[e]at D;unfold Sk at D;split at D
      ·grind
      ·cases D) w h C (q x _ d) (q y _ A)
    exact Av (u:=u) (w':=w) (by simp[execOp,h1,j]) (hn _ _ _ (QS.still B))
 case unOp op t x =>
  cases d:Ak σ x with
  | none=>rw[d]at h;cases op<;>simp[qUn]at h
  | some xv =>
   rw[d]at h;obtain⟨rfl,u,j,B⟩:=ADI (P:=P) w h C (q x _ d);exact Av (u:=u) (w':=w) (by simp[execOp,j]) (hn _ _ _ (QS.still B))
 case convert s t x =>
  cases hs:lk s tb.ty with
  | none=>rw[hs]at h;simp[Jq]at h
  | some ar =>
   cases e:lk t tb.ty with
   | none=>rw[hs,e]at h;simp[Jq]at h
   | some ti =>
    cases d:Ak σ x with
    | none=>rw[hs,e,d]at h;simp[Jq]at h
    | some xv =>
     rw[hs,e,d]at h;obtain⟨rfl,u,j,B⟩:=A8R (P:=P) hT rfl (hT _ _ hs) (hT _ _ e) h C (q x _ d);have j:(convert s t (a.eval x)).run P w=.ok u w:=j;exact Av (u:=u) (w':=w) (by simp[execOp,j]) (hn _ _ _ (QS.still B))
 case makeSlice t l c =>
  cases e:lk t tb.ty with
  | none=>rw[e]at h;simp[Iq]at h
  | some ti =>
   cases d:Ak σ l with
   | none=>rw[e,d]at h;simp[Iq]at h
   | some ao =>
    cases A:Ak σ c with
    | none=>rw[e,d,A]at h;simp[Iq]at h
    | some O =>
     rw[e,d,A]at h;obtain⟨u,ρ',w',h1,j⟩:=A8W (hT _ _ e) hT h C (q l _ d) (q c _ A) hf;exact Av (u:=u) (w':=w') (by simp[execOp,h1]) (hn _ _ _ j)
 case slice t x lo hi ai =>
  cases ai with
  | some m =>
   cases lo with
   | some _=>cases hi<;>simp[aq]at h
   | none =>
    cases hi with
    | none=>simp[aq]at h
    | some h1 =>
     simp only[aq]at h;cases e:lk t tb.ty with
     | none=>rw[e]at h;simp[Dz]at h
     | some ti =>
      cases d:Ak σ x with
      | none=>rw[e,d]at h;simp[Dz]at h
      | some xv =>
       cases hh:Ak σ h1 with
       | none=>rw[e,d,hh]at h;simp[Dz]at h
       | some al =>
        cases G:Ak σ m with
        | none=>rw[e,d,hh,G]at h;simp[Dz]at h
        | some ap =>
         rw[e,d,hh,G]at h;obtain⟨rfl,u,j,B⟩:=A1z (P:=P) (V:=vw w O0 σ ρ) (hT _ _ e) hT h C (q x _ d) (q h1 _ hh) (q m _ G);have j:(Instr.sliceAt t (a.eval x) none (some (a.eval h1)) (some (a.eval m))).run P w=.ok u w:=j;exact Av (u:=u) (w':=w) (by simp[execOp,j]) (hn _ _ _ (QS.still B))
  | none =>
   simp only[aq]at h;cases e:lk t tb.ty with
   | none=>rw[e]at h;simp[FX]at h
   | some ti =>
    cases d:Ak σ x with
    | none=>rw[e,d]at h;simp[FX]at h
    | some xv =>
     have S:∀ {y:Option Operand} {N:Option AV},Gr σ y=some N->e9 (V:=vw w O0 σ ρ) N (y.map a.eval):=by
      intro y N A;cases y with
      | none=>simp only[Gr]at A;cases A;trivial
      | some z =>
       simp only[Gr,If]at A;obtain⟨Z,ah,rfl⟩:=A;exact q z Z ah
     cases J:Gr σ lo with
     | none=>rw[e,d,J]at h;simp[FX]at h
     | some an =>
      cases K:Gr σ hi with
      | none=>rw[e,d,J,K]at h;simp[FX]at h
      | some ak =>
       rw[e,d,J,K]at h;obtain⟨rfl,u,j,B⟩:=A4Z (P:=P) (V:=vw w O0 σ ρ) (hT _ _ e) hT h C (q x _ d) (S J) (S K);have j:(Instr.sliceAt t (a.eval x) (lo.map a.eval) (hi.map a.eval) none).run P w=.ok u w:=j;exact Av (u:=u) (w':=w) (by simp[execOp,j]) (hn _ _ _ (QS.still B))
 case fieldAddr s x f =>
  cases hs:lk s tb.ty with
  | none=>rw[hs]at h;simp[HJ]at h
  | some ti =>
   cases d:Ak σ x with
   | none=>rw[hs,d]at h;simp[HJ]at h
   | some xv =>
    rw[hs,d]at h;obtain⟨rfl,u,j,B⟩:=A4V (P:=P) (hT _ _ hs) w h (q x _ d);exact Av (u:=u) (w':=w) (by simp[execOp,j]) (hn _ _ _ (QS.still B))
 case indexAddr t x i =>
  cases e:lk t tb.ty with
  | none=>rw[e]at h;simp[F4]at h
  | some ti =>
   cases d:Ak σ x with
   | none=>rw[e,d]at h;simp[F4]at h
   | some xv =>
    cases hi:Ak σ i with
    | none=>rw[e,d,hi]at h;simp[F4]at h
    | some X =>
     rw[e,d,hi]at h;obtain⟨rfl,u,j,B⟩:=A4W (P:=P) (V:=vw w O0 σ ρ) (hT _ _ e) hT h C (q x _ d) (q i _ hi) R;have j:(Instr.indexAt t (a.eval x) (a.eval i)).run P w=.ok u w:=j;exact Av (u:=u) (w':=w) (by simp[execOp,j]) (hn _ _ _ (QS.still B))
 case index t x i =>
  cases e:lk t tb.ty with
  | none=>rw[e]at h;simp[Ed]at h
  | some ti =>
   cases d:Ak σ x with
   | none=>rw[e,d]at h;simp[Ed]at h
   | some xv =>
    cases hi:Ak σ i with
    | none=>rw[e,d,hi]at h;simp[Ed]at h
    | some X =>
     rw[e,d,hi]at h;obtain⟨rfl,u,j,B⟩:=A1w (P:=P) (hT _ _ e) w h C (q x _ d) (q i _ hi);exact Av (u:=u) (w':=w) (by simp[execOp,j]) (hn _ _ _ (QS.still B))
 case extract x i =>
  cases d:Ak σ x with
  | none=>rw[d]at h;simp[Eo]at h
  | some xv =>
   rw[d]at h;obtain⟨rfl,u,j,B⟩:=yT (P:=P) w h (q x _ d);exact Av (u:=u) (w':=w) (by simp[execOp,j]) (hn _ _ _ (QS.still B))
 case makeFunc fn first ab =>
  obtain⟨rfl,u,j,B⟩:=AAn (P:=P) q h;have j:(Instr.makeFunc fn (first.map a.eval) (ab.map a.eval)).run P w=.ok u w:=by
   rw[<-j]
   congr 2<;>(apply Array.ext';simp)
  exact Av (u:=u) (w':=w) (by simp[execOp,j]) (hn _ _ _ (QS.still B))
 case makeMap t res =>
  cases res with
  | some z=>simp[aq]at h
  | none =>
   simp only[aq]at h;cases e:lk t tb.ty with
   | none=>rw[e]at h;simp[F5]at h
   | some ti =>
    rw[e]at h;obtain⟨u,ρ',w',h1,j⟩:=yY (w:=w) (O0:=O0) (ρ:=ρ) (hT _ _ e) h hf;exact Av (u:=u) (w':=w') (by simp[execOp,h1]) (hn _ _ _ j)
 case lookup t x i ok =>
  cases e:lk t tb.ty with
  | none=>rw[e]at h;simp[It]at h
  | some ti =>
   cases d:Ak σ x with
   | none=>rw[e,d]at h;simp[It]at h
   | some xv =>
    cases hi:Ak σ i with
    | none=>rw[e,d,hi]at h;simp[It]at h
    | some X =>
     rw[e,d,hi]at h;obtain⟨rfl,u,j,B⟩:=A8Z (P:=P) (hT _ _ e) hT E h (q x _ d) (q i _ hi);exact Av (u:=u) (w':=w) (by simp[execOp,j]) (hn _ _ _ (QS.still B))
 case call c =>
  obtain⟨callee,args,argTypes⟩:=c;cases callee with
  | invoke r m=>simp[DB]at h
  | value g =>
   simp only[DB]at h;exact A91 hF E W q (xs:=args.toList) (ts:=argTypes) (o:=⟨dst,.call ⟨.value g,args,argTypes⟩,type,pos,after,guard⟩) (by simp) h C hf hn
  | builtin b =>
   simp only[DB]at h;obtain⟨args⟩:=args;obtain⟨argTypes⟩:=argTypes;simp only at h;unfold DM at h;split at h
   ·rename_i x t;cases e:lk t tb.ty with
    | none=>rw[e]at h;simp[Tk]at h
    | some ti =>
     cases d:Ak σ x with
     | none=>rw[e,d]at h;simp[Tk]at h
     | some xv =>
      rw[e,d]at h;obtain⟨rfl,u,j,B⟩:=AAi (P:=P) (ty:=type) (V:=vw w O0 σ ρ) R (hT _ _ e) w h (q x _ d);exact Av (u:=u) (w':=w) (by simp[execOp,resolve,invoke,builtin,j]) (hn _ _ _ (QS.still B))
   ·rename_i x y t u;cases d:Ak σ x with
    | none=>rw[d]at h;simp[Cl]at h
    | some xv =>
     cases A:Ak σ y with
     | none=>rw[d,A]at h;simp[Cl]at h
     | some I =>
      rw[d,A]at h;obtain⟨z,ρ',w',h1,j⟩:=A1C (ty:=type) hT E h C (q x _ d) (q y _ A) hf;exact Av (u:=z) (w':=w') (by simp[execOp,resolve,invoke,builtin,h1]) (hn _ _ _ j)
   ·rename_i x y t u;cases d:Ak σ x with
    | none=>rw[d]at h;simp[Rb]at h
    | some xv =>
     cases A:Ak σ y with
     | none=>rw[d,A]at h;simp[Rb]at h
     | some I =>
      rw[d,A]at h;obtain⟨rfl,z,h1,j⟩:=AAj (P:=P) (ts:=#[t,u]) (ty:=type) w h (q x _ d) (q y _ A);exact Av (u:=z) (w':=w) (by simp[execOp,resolve,invoke,builtin,h1]) (hn _ _ _ (QS.still j))
   ·rename_i x y t u;cases d:Ak σ x with
    | none=>rw[d]at h;simp[Rc]at h
    | some xv =>
     cases A:Ak σ y with
     | none=>rw[d,A]at h;simp[Rc]at h
     | some I =>
      rw[d,A]at h;obtain⟨rfl,z,h1,j⟩:=AAk (P:=P) (ts:=#[t,u]) (ty:=type) w h (q x _ d) (q y _ A);exact Av (u:=z) (w':=w) (by simp[execOp,resolve,invoke,builtin,h1]) (hn _ _ _ (QS.still j))
   ·rename_i x y Y t u aj;cases d:Ak σ x with
    | none=>rw[d]at h;simp[Ir]at h
    | some xv =>
     cases A:Ak σ y with
     | none=>rw[d,A]at h;simp[Ir]at h
     | some I =>
      cases M:Ak σ Y with
      | none=>rw[d,A,M]at h;simp[Ir]at h
      | some Z =>
       rw[d,A,M]at h;obtain⟨rfl,z,h1,j⟩:=A8S (P:=P) (ts:=#[t,u,aj]) (ty:=type) w h (q x _ d) (q y _ A) (q Y _ M);exact Av (u:=z) (w':=w) (by simp[execOp,resolve,invoke,builtin,h1]) (hn _ _ _ (QS.still j))
   ·rename_i ts x y z u r;cases d:Ak σ x with
    | none=>rw[d]at h;simp[Nv]at h
    | some xv =>
     rw[d]at h;unfold Nv at h;split at h
     ·rename_i k aa F;cases F;cases G:Fg σ k (some aa) (y :: z :: u :: r) with
      | none=>rw[G]at h;simp[Pc]at h
      | some m =>
       rw[G]at h;simp only[Pc,tO,AF8]at h;obtain⟨rfl,rfl,rfl⟩:=h;obtain⟨af,ag⟩:=BR (q x _ d);obtain⟨h1,j⟩:=fH (P:=P) q w _ _ _ G ag;have B:(Builtin.min_ ⟨argTypes⟩ type (a.eval x :: a.eval y :: a.eval z :: a.eval u :: r.map a.eval).toArray).run P w=.ok (.int k m) w:=by
        rw[af];exact h1
       exact Av (u:=.int _ m) (w':=w) (by simp[execOp,resolve,invoke,builtin,B]) (hn _ _ _ (QS.still (BU j)))
     ·cases h
   ·cases h
end
end
section
open Go Go.RowKit
section
variable {w0:World} {K O0:Nat->Prop} {nt:Nat} {ds:Fp} {σ:St} {ρ:Nat->Value} {a:Act} {w:World}
theorem A54 {n:Nat} {o:Obj} {env:List (Nat×AV)} (m:Nat):HH ⟨env,upd n o σ.objs⟩ m↔HH σ m:=by
 constructor
 ·rintro⟨x,a⟩;rw[GY]at a;split at a
  ·rename_i e;subst e;simp only[If]at a;obtain⟨y,b,_⟩:=a;exact⟨y,b⟩
  ·exact⟨x,a⟩
 ·rintro⟨x,a⟩;by_cases e:m=n
  ·subst e;exact⟨o,by simp[GY,a]⟩
  ·exact⟨x,by simp[GY,e,a]⟩
theorem Bv.upd (h:Bv w0 K O0 nt ds σ ρ a w) (A:∀b,K b->b<w0.heap.size) {n:Nat} {o j:Obj} (hn:lk n σ.objs=some o) {g:Nat} (r:blk (ρ n)=some g) {w':World} (c:w.grownBy w' (some g))
  (G:A8 (vw w' O0 σ ρ) j (ρ n)):Bv w0 K O0 nt ds ⟨σ.env,Fw.upd n j σ.objs⟩ ρ a w':=by
 have f:HH ⟨σ.env,Fw.upd n j σ.objs⟩=HH σ:=funext λm=>propext (A54 m);have y:vw w' O0 ⟨σ.env,Fw.upd n j σ.objs⟩ ρ=vw w' O0 σ ρ:=by
  have E:own O0 ⟨σ.env,Fw.upd n j σ.objs⟩ ρ=own O0 σ ρ:=by
   funext b;simp only[own,f]
  simp only[vw,f,E]
 have C:own O0 σ ρ g:=.inr ⟨n,⟨o,hn⟩,.inl r⟩;have hk:Cb (vw w O0 σ ρ) (vw w' O0 σ ρ):=⟨λ_ _ h=>h,λ_ h=>h,λ_ _=>rfl,λb D B=>c.block b D (λe=>by injection e with e;subst e;exact B C)⟩;refine⟨⟨c.os.trans h.frm.os,c.tape.trans h.frm.tape,c.output.trans h.frm.output,UD h.frm.size c.size,λk t=>?_⟩,h.nt,h.defers,λp hp=>by rw[f];exact h.pin p hp,?_,?_,?_,?_⟩
 ·refine(c.block k (AA8 (A k t) h.frm.size) (λe=>?_)).trans (h.frm.block k t);injection e with e
  subst e;exact(h.free n k ⟨o,hn⟩ (.inl r)).1 t
 ·intro m x i;rw[y];rw[GY]at i;split at i
  ·grind
  ·rename_i e;refine(h.objs m x i).keeps hk λb l=>?_;refine c.block b ((h.objs m x i).block_lt l) (λq=>?_);injection q with q
   subst q;exact e (h.dist m n b ⟨x,i⟩ ⟨o,hn⟩ l (.inl r))
 ·intro m b d l;rw[f]at d;exact h.free m b d l
 ·intro m F b d u h1 z;rw[f]at d u;exact h.dist m F b d u h1 z
 ·intro s v hs;rw[y];exact(h.env s v hs).keeps hk
theorem Jt (n s:Nat):∀l:List (Nat×AV),lk s (F2 n l)=(lk s l).map (AV.drp n)
 | []=>rfl
 | (j,v) :: l=>by
  simp only[F2,lk];split
  ·rfl
  ·exact Jt n s l
def Obj.drp (n:Nat):Obj->Obj
 | .arr et e xs=>.arr et e xs
 | .box et st fs=>.box et st (AV.drps n fs)
 | .mapo k v l=>.mapo k v l
 | .nest et b k e xs h=>.nest et b k e xs h
 | .frame i fs=>.frame i (F2 n fs)
 | .loop L=>.loop L
 | .itr c g d f a=>.itr c g d f a
 | .dfr=>.dfr
theorem Bw (n s:Nat):∀l:List (Nat×Obj),lk s (Bg n l)=(lk s l).map (Obj.drp n)
 | []=>rfl
 | (j,.arr et e xs) :: l=>by
  simp only[Bg,lk];split
  ·rfl
  ·exact Bw n s l
 | (j,.box et st fs) :: l=>by
  simp only[Bg,lk];split
  ·rfl
  ·exact Bw n s l
 | (j,.mapo k v x) :: l=>by
  simp only[Bg,lk];split
  ·rfl
  ·exact Bw n s l
 | (j,.nest et b k e xs h) :: l=>by
  simp only[Bg,lk];split
  ·rfl
  ·exact Bw n s l
 | (j,.frame i fs) :: l=>by
  simp only[Bg,lk];split
  ·rfl
  ·exact Bw n s l
 | (j,.loop L) :: l=>by
  simp only[Bg,lk];split
  ·rfl
  ·exact Bw n s l
 | (j,.itr c g d f a) :: l=>by
  simp only[Bg,lk];split
  ·rfl
  ·exact Bw n s l
 | (j,.dfr) :: l=>by
  simp only[Bg,lk];split
  ·rfl
  ·exact Bw n s l
def Vw.but (V:Vw) (n:Nat):Vw:=⟨V.w,V.O,λm=>V.L m/\m≠n,V.ρ⟩
def seat (v:Value):Prop:=(∃a m c,v=.slice a m c)\/∃b,v=.tuple b
theorem Iw {V:Vw} {n:Nat} (hn:seat (V.ρ n)) {x:AV} {v:Value} (h:VL V x v):VL (V.but n) (x.drp n) v:=by
 cases x;case sr m e lo hi =>
  simp only[AV.drp];split
  ·trivial
  ·rename_i g;exact⟨⟨h.1,g⟩,h.2⟩
 case ep m e i p off =>
  simp only[AV.drp];split
  ·trivial
  ·rename_i g;exact⟨⟨h.1,g⟩,h.2⟩
 case nin m e i len =>
  simp only[AV.drp];split
  ·trivial
  ·rename_i g;exact⟨⟨h.1,g⟩,h.2⟩
 case bp m p off =>
  simp only[AV.drp];refine⟨⟨h.1,λe=>?_⟩,h.2⟩;subst e;obtain⟨_,b,d,_⟩:=h;rcases hn with ⟨a,j,c,hs⟩|⟨k,hs⟩<;>(rw[hs]at d;cases d)
 case clo f ns =>
  simp only[AV.drp];refine⟨h.1,λm o=>?_⟩;obtain⟨h1,b,d⟩:=h.2 m o;refine⟨⟨h1,λe=>?_⟩,b,d⟩;subst e;rcases hn with ⟨a,j,c,hs⟩|⟨k,hs⟩<;>(rw[hs]at d;cases d)
 case mp m =>
  simp only[AV.drp];refine⟨⟨h.1,λe=>?_⟩,h.2⟩;subst e;obtain⟨_,b,d,_⟩:=h;rcases hn with ⟨a,j,c,hs⟩|⟨k,hs⟩<;>(rw[hs]at d;cases d)
 case yl m =>
  simp only[AV.drp];refine⟨⟨h.1,λe=>?_⟩,h.2⟩;subst e;obtain⟨_,b,d,_⟩:=h;rcases hn with ⟨a,j,c,hs⟩|⟨k,hs⟩<;>(rw[hs]at d;cases d)
 case ag l=>exact h.elim
 case tup l=>exact h.elim
 all_goals simp only[AV.drp];exact h
theorem A55 {V:Vw} {n:Nat} (hn:seat (V.ρ n)) {x:AV} {cs:List Value} (h:Nm V x cs):Nm (V.but n) (x.drp n) cs:=by
 cases x;case p t d=>simp only[AV.drp];exact h
 case ag l=>obtain⟨v,_,_,hf⟩:=h;exact hf.elim
 case tup l=>obtain⟨v,_,_,hf⟩:=h;exact hf.elim
 all_goals
  obtain⟨v,rfl,h1,c⟩:=h;have a:=Iw hn c;simp only[AV.drp]at a ⊢;first
   | exact⟨v,rfl,h1,a⟩
   | (split at a<;>rename_i b<;>first|(rw[BY b];exact⟨v,rfl,h1,a⟩)|(rw[An b];exact⟨v,rfl,h1,a⟩))
theorem Pq {V:Vw} {n:Nat} (hn:seat (V.ρ n)):∀ {l:List AV} {cs:List Value},Dn V l cs->Dn (V.but n) (AV.drps n l) cs
 | [],cs,h=>(h:cs=[])
 | x :: r,cs,h=>by
  obtain⟨c1,c2,rfl,h1,a⟩:=h;simp only[AV.drps];exact⟨c1,c2,rfl,A55 hn h1,Pq hn a⟩
theorem A56 {V:Vw} {n:Nat} (hn:seat (V.ρ n)) {x:AV} {v:Value} (a:Sn V x v):Sn (V.but n) (x.drp n) v:=by
 cases x;case ag l=>obtain⟨cs,h1,b⟩:=a;simp only[AV.drp];exact⟨cs,h1,Pq hn b⟩
 all_goals exact Sn.of1 (Iw hn a)
theorem fJ {V:Vw} {n:Nat} (hn:seat (V.ρ n)):∀ {l:List AV} {a:List Value},Js V l a->Js (V.but n) (AV.drps n l) a
 | [],a,h=>(h:a=[])
 | x :: r,a,h=>by
  obtain⟨v,c,rfl,h1,b⟩:=h;simp only[AV.drps];exact⟨v,c,rfl,A56 hn h1,fJ hn b⟩
theorem A57 {V:Vw} {x:AV} {v:Value} (h:VL V x v):B7 V x v:=by
 cases x;case ag l=>exact h.elim
 case tup l=>exact h.elim
 all_goals exact h
theorem pR {V:Vw} {n:Nat} (hn:seat (V.ρ n)) {x:AV} {v:Value} (h:B7 V x v):B7 (V.but n) (x.drp n) v:=by
 cases x;case ag l=>obtain⟨cs,h1,a⟩:=h;simp only[AV.drp];exact⟨cs,h1,Pq hn a⟩
 case tup l=>obtain⟨b,h1,a⟩:=h;simp only[AV.drp];exact⟨b,h1,fJ hn a⟩
 all_goals exact A57 (Iw hn h)
theorem Sw (n:Nat):∀l:List AV,(AV.drps n l).length=l.length
 | []=>rfl
 | _ :: r=>by simp[AV.drps,Sw n r]
theorem A58 {n:Nat} {c:Obj} {env:List (Nat×AV)} (m:Nat):HH ⟨env,upd n c (Bg n σ.objs)⟩ m↔HH σ m:=by
 constructor
 ·rintro⟨x,a⟩;rw[GY,Bw,Bw]at a;split at a
  ·rename_i e;subst e;simp only[Option.map_map,If]at a;obtain⟨y,b,_⟩:=a;exact⟨y,b⟩
  ·simp only[If]at a;obtain⟨y,b,_⟩:=a;exact⟨y,b⟩
 ·rintro⟨x,a⟩;by_cases e:m=n
  ·subst e;exact⟨c,by simp[GY,Bw,a]⟩
  ·exact⟨x.drp n,by simp[GY,Bw,e,a]⟩
theorem Bv.app (h:Bv w0 K O0 nt ds σ ρ a w) (ae:∀b,K b->b<w0.heap.size) (ar:∀b,O0 b->b<w0.heap.size) {n:Nat} (ai:Gq n=false) {et:TypeId} {e:Ty} {xs ys:List e.den} (hn:lk n σ.objs=some (.arr et e xs)) {loc:Value} {w':World} {cells:List Value}
  (E:w.grownBy w' (blk (ρ n))) (U:blk loc=blk (ρ n)\/∀b,blk loc=some b->w.heap.size<=b) (I:ys.length<=AP)
  (Q:w'.ownsRow 0 et e.size loc ys.length cells) (ah:Dx w (own O0 σ ρ) e cells ys) {d:Nat} (ag:d<nt) {hi:Nat} (aj:hi=ys.length) :
  Bv w0 K O0 nt ds ⟨(d,.sr n e 0 hi) :: F2 n σ.env,Fw.upd n (.arr et e ys) (Bg n σ.objs)⟩ (Ei ρ n loc) (a.put (some d) loc) w':=by
 subst aj;have J:∃a m c,(vw w O0 σ ρ).ρ n=.slice a m c:=by
  obtain⟨_,cells',am,_⟩:=h.objs n _ hn;rcases am.2 with ⟨D,_⟩|⟨g,cap,X,D,_⟩
  ·exact⟨_,_,_,D⟩
  ·exact⟨_,_,_,D⟩
 let σ':St:=⟨(d,.sr n e 0 ys.length) :: F2 n σ.env,Fw.upd n (.arr et e ys) (Bg n σ.objs)⟩
 have F:∀m,HH σ' m↔HH σ m:=λm=>A58 m;have H:∀b,bk loc b↔blk loc=some b:=λb=>by
  rcases Q.2 with ⟨D,_⟩|⟨g,cap,X,D,_⟩
  ·rw[D];exact L3
  ·rw[D];exact L3
 have au:∀b,bk (ρ n) b↔blk (ρ n)=some b:=λb=>by
  obtain⟨aa,ap,c2,t⟩:=J;have t:ρ n=_:=t;rw[t];exact L3
 have ak:∀b,bk loc b->own O0 σ ρ b\/w.heap.size<=b:=by
  intro b f;replace f:=(H b).1 f;rcases U with h1|h1
  ·exact .inl (.inr ⟨n,⟨_,hn⟩,.inl (by rw[<-h1];exact f)⟩)
  ·exact .inr (h1 b f)
 have hk:Cb ((vw w O0 σ ρ).but n) (vw w' O0 σ' (Ei ρ n loc)):=by
  refine⟨?_,λm I=>(F m).2 I.1,λm I=>?_,?_⟩
  ·intro b O f C;rcases C with h0|⟨m,i,N⟩
   ·exact f (.inl h0)
   ·by_cases P:m=n
    ·subst P;rw[Bn]at N;rcases ak b N with h1|h1
     ·exact f h1
     ·have O:b<w.heap.size:=O;omega
    ·have:Ei ρ n loc m=ρ m:=by simp[Ei,P]
     rw[this]at N;exact f (.inr ⟨m,(F m).1 i,N⟩)
  ·have:m≠n:=I.2;show Ei ρ n loc m=ρ m;simp[Ei,this]
  ·intro b O f;exact E.block b O (λj=>f (.inr ⟨n,⟨_,hn⟩,.inl j.symm⟩))
 refine⟨⟨E.os.trans h.frm.os,E.tape.trans h.frm.tape,E.output.trans h.frm.output,UD h.frm.size E.size,λk S=>?_⟩,by rw[L5];exact h.nt,by rw[Hq];exact h.defers,λp hp=>?_,?_,?_,?_,?_⟩
 ·refine(E.block k (AA8 (ae k S) h.frm.size) (λj=>?_)).trans (h.frm.block k S);exact(h.free n k ⟨_,hn⟩ (.inl j.symm)).1 S
 ·obtain⟨h1,G,B⟩:=h.pin p hp;have aw:p.1≠n:=by
   intro r;obtain⟨aa,ap,c2,t⟩:=J;have t:ρ n=_:=t;rw[<-r,G]at t;rw[t]at B;rcases B with B|B
   ·cases B
   ·rw[r,ai]at B;cases B
  grind [Ei]
 ·intro m x u;show A8 (vw w' O0 σ' (Ei ρ n loc)) x (Ei ρ n loc m);rw[GY]at u;split at u
  ·rename_i j;subst j;rw[Bw,hn]at u;simp only[AEg]at u;cases u;rw[Bn];exact⟨I,cells,Q,ah.keeps (V:=(vw w O0 σ ρ).but m) hk⟩
  ·rename_i j;rw[Bw]at u;simp only[If]at u;obtain⟨y,q,rfl⟩:=u;have:Ei ρ n loc m=ρ m:=by simp[Ei,j]
   rw[this];have f:∀b,bk (ρ m) b->w'.heap[b]?=w.heap[b]?:=λb C=>by
    refine E.block b ((h.objs m y q).block_lt C) (λr=>?_);exact j (h.dist m n b ⟨y,q⟩ ⟨_,hn⟩ C (.inl r.symm))
   have A:=h.objs m y q;cases y with
   | arr Z r bc=>exact A8.keeps (V:=(vw w O0 σ ρ).but n) hk f A
   | box Z st fs =>
    obtain⟨h0,b,cs,i,hh,af⟩:=A;exact A8.keeps (V:=(vw w O0 σ ρ).but n) (o:=.box Z st (AV.drps n fs)) hk f ⟨λan=>by rw[Sw];exact h0 an,b,cs,i,hh,Pq (.inl J) af⟩
   | mapo k v l=>exact A8.keeps (V:=(vw w O0 σ ρ).but n) hk f A
   | nest et ao k e xs i=>exact A8.keeps (V:=(vw w O0 σ ρ).but n) (o:=.nest et ao k e xs i) hk f (M7 (V:=vw w O0 σ ρ) (V':=(vw w O0 σ ρ).but n) rfl rfl A)
   | frame aq fs =>
    obtain⟨h0,h1⟩:=A;refine A8.keeps (V:=(vw w O0 σ ρ).but n) (o:=.frame aq (F2 n fs)) hk f ⟨h0,λs z W=>?_⟩;rw[Jt]at W;simp only[If]at W;obtain⟨y,q,rfl⟩:=W;exact pR (.inl J) (h1 s y q)
   | loop L=>exact A8.keeps (V:=(vw w O0 σ ρ).but n) hk f A
   | itr ay bb az ba ax=>exact A8.keeps (V:=(vw w O0 σ ρ).but n) hk f A
   | dfr=>exact A8.keeps (V:=(vw w O0 σ ρ).but n) hk f A
 ·intro m b i f;replace i:=(F m).1 i;by_cases j:m=n
  ·subst j;rw[Bn]at f;rcases U with h1|h1
   ·exact h.free m b i (.inl (by rw[<-h1];exact(H b).1 f))
   ·have:=h1 b ((H b).1 f);have:=h.frm.size;grind
  ·have:Ei ρ n loc m=ρ m:=by simp[Ei,j]
   rw[this]at f;exact h.free m b i f
 ·have key:∀m b,HH σ m->m≠n->bk (ρ m) b->bk loc b->False:=by
   intro m b i P f C;rcases U with h1|h1
   ·exact P (h.dist m n b i ⟨_,hn⟩ f (.inl (by rw[<-h1];exact(H b).1 C)))
   ·have G:=h1 b ((H b).1 C);obtain⟨y,q⟩:=i;have:=(h.objs m y q).block_lt f;have:b<w.heap.size:=this;omega
  intro m M b i T h1 G;replace i:=(F m).1 i;replace T:=(F M).1 T;by_cases Y:m=n<;>by_cases r:M=n
  ·rw[Y,r]
  ·grind [Ei,Bn]
  ·grind [Ei,Bn]
  ·have ab:Ei ρ n loc m=ρ m:=by simp[Ei,Y]
   have ad:Ei ρ n loc M=ρ M:=by simp[Ei,r]
   rw[ab]at h1;rw[ad]at G;exact h.dist m M b i T h1 G
 ·intro s v hs;show B7 (vw w' O0 σ' (Ei ρ n loc)) v _;rw[Kg a d loc s (by rw[h.nt];exact ag)];simp only[lk]at hs;split at hs
  ·rename_i R;cases hs;rw[BY R];refine⟨(F n).2 ⟨_,hn⟩,?_⟩;show DG (plc (Ei ρ n loc n)) e.size 0 ys.length loc;rw[Bn,HW Q];rcases Q.2 with ⟨rfl,al⟩|⟨g,cap,X,rfl,_,_,av,_⟩
   ·exact⟨none,0,0,rfl,by omega,by omega,none,0,by rw[al],by omega,λ_=>⟨rfl,rfl⟩,λh=>by omega⟩
   ·exact⟨some ⟨g,0,none⟩,ys.length,cap,rfl,by omega,by omega,some ⟨g,0,none⟩,cap,by simp,by omega,λ_=>⟨rfl,rfl⟩,λ_=>by simp[M4]⟩
  ·rename_i R;rw[An R];rw[Jt]at hs;simp only[If]at hs;obtain⟨y,q,rfl⟩:=hs;exact(pR (.inl J) (h.env s y q)).keeps hk
end
end
section
open Go Go.RowKit
def Vw.buts (V:Vw) (hs:List Nat):Vw:=⟨V.w,V.O,λm=>V.L m/\Ac m hs=false,V.ρ⟩
theorem bF {V:Vw} {hs:List Nat} {x:AV} {v:Value} (h:VL V x v):VL (V.buts hs) (x.fgt hs) v:=by
 cases x;case clo f ns =>
  simp only[AV.fgt];split
  ·trivial
  ·rename_i a;refine⟨h.1,λn hn=>⟨⟨(h.2 n hn).1,?_⟩,(h.2 n hn).2⟩⟩;grind
 case ag l=>exact h.elim
 case tup l=>exact h.elim
 case p t d=>simp only[AV.fgt];exact h
 case pc e d=>simp only[AV.fgt];exact h
 case raw u=>simp only[AV.fgt];exact h
 case ip t d=>simp only[AV.fgt];exact h
 case fn f=>simp only[AV.fgt];exact h
 case top=>trivial
 all_goals
  simp only[AV.fgt];split
  ·trivial
  ·rename_i a;exact⟨⟨h.1,by simpa using a⟩,h.2⟩
theorem A59 {V:Vw} {hs:List Nat} {x:AV} {cs:List Value} (h:Nm V x cs):Nm (V.buts hs) (x.fgt hs) cs:=by
 cases x;case p t d=>simp only[AV.fgt];exact h
 case ag l=>obtain⟨v,_,_,hf⟩:=h;exact hf.elim
 case tup l=>obtain⟨v,_,_,hf⟩:=h;exact hf.elim
 all_goals
  obtain⟨v,rfl,h1,c⟩:=h;have a:=bF (hs:=hs) c;simp only[AV.fgt]at a ⊢;first
   | exact⟨v,rfl,h1,a⟩
   | (split at a<;>rename_i b<;>first|(rw[BY b];exact⟨v,rfl,h1,a⟩)|(rw[An b];exact⟨v,rfl,h1,a⟩))
theorem Pr {V:Vw} {hs:List Nat}:∀ {l:List AV} {cs:List Value},Dn V l cs->Dn (V.buts hs) (AV.fgts hs l) cs
 | [],cs,h=>(h:cs=[])
 | x :: r,cs,h=>by
  obtain⟨c1,c2,rfl,h1,a⟩:=h;simp only[AV.fgts];exact⟨c1,c2,rfl,A59 h1,Pr a⟩
theorem A5a {V:Vw} {hs:List Nat} {x:AV} {v:Value} (a:Sn V x v):Sn (V.buts hs) (x.fgt hs) v:=by
 cases x;case ag l=>obtain⟨cs,h1,b⟩:=a;simp only[AV.fgt];exact⟨cs,h1,Pr b⟩
 all_goals exact Sn.of1 (bF a)
theorem fL {V:Vw} {hs:List Nat}:∀ {l:List AV} {a:List Value},Js V l a->Js (V.buts hs) (AV.fgts hs l) a
 | [],a,h=>(h:a=[])
 | x :: r,a,h=>by
  obtain⟨v,c,rfl,h1,b⟩:=h;simp only[AV.fgts];exact⟨v,c,rfl,A5a h1,fL b⟩
theorem Ps {V:Vw} {hs:List Nat} {x:AV} {v:Value} (h:B7 V x v):B7 (V.buts hs) (x.fgt hs) v:=by
 cases x;case ag l=>obtain⟨cs,h1,a⟩:=h;simp only[AV.fgt];exact⟨cs,h1,Pr a⟩
 case tup l=>obtain⟨b,h1,a⟩:=h;simp only[AV.fgt];exact⟨b,h1,fL a⟩
 all_goals exact A57 (bF h)
theorem EO (hs:List Nat) (s:Nat):∀l:List (Nat×AV),lk s (Bu hs l)=(lk s l).map (AV.fgt hs)
 | []=>rfl
 | (j,v) :: l=>by
  simp only[Bu,lk];split
  ·rfl
  ·exact EO hs s l
theorem Sx (hs:List Nat):∀l:List AV,(AV.fgts hs l).length=l.length
 | []=>rfl
 | _ :: r=>by simp[AV.fgts,Sx hs r]
theorem Bj (a hs:List Nat) (n:Nat):∀l:List (Nat×Obj),lk n (Ao a hs l)=if Ac n a=true then none else (lk n l).map (Obj.fgt hs)
 | []=>by simp[Ao,lk]
 | (j,o) :: l=>by
  simp only[Ao];by_cases b:Ac j a=true
  ·rw[BY b,Bj a hs n l];grind [lk]
  ·rw[An b];simp only[lk];by_cases hn:n=j
   ·subst hn;simp[b]
   ·simp[hn,Bj a hs n l]
theorem Ua {V V':Vw} {hs:List Nat} (hk:Cb (V.buts hs) V') {o:Obj} {loc:Value} (a:∀b,bk loc b->V'.w.heap[b]?=V.w.heap[b]?) (h:A8 V o loc):A8 V' (o.fgt hs) loc:=by
 cases o with
 | arr et e xs=>exact A8.keeps (V:=V.buts hs) hk a h
 | box et st fs =>
  obtain⟨h0,b,cs,c,hh,f⟩:=h;exact A8.keeps (V:=V.buts hs) (o:=.box et st (AV.fgts hs fs)) hk a ⟨λg=>by rw[Sx];exact h0 g,b,cs,c,hh,Pr f⟩
 | mapo k v l=>exact A8.keeps (V:=V.buts hs) hk a h
 | nest et j k e xs c=>exact A8.keeps (V:=V.buts hs) (o:=.nest et j k e xs c) hk a (M7 (V:=V) (V':=V.buts hs) rfl rfl h)
 | frame m fs =>
  obtain⟨h0,h1⟩:=h;refine A8.keeps (V:=V.buts hs) (o:=.frame m (Bu hs fs)) hk a ⟨h0,λs z d=>?_⟩;rw[EO]at d;simp only[If]at d;obtain⟨y,i,rfl⟩:=d;exact Ps (h1 s y i)
 | loop L=>exact A8.keeps (V:=V.buts hs) hk a h
 | itr p t q r n=>exact A8.keeps (V:=V.buts hs) hk a h
 | dfr=>exact A8.keeps (V:=V.buts hs) hk a h
section
variable {w0:World} {K O0:Nat->Prop} {nt:Nat} {ds:Fp} {σ:St} {ρ:Nat->Value} {a:Act} {w:World}
theorem Bv.swap (h:Bv w0 K O0 nt ds σ ρ a w) (H:∀b,K b->b<w0.heap.size) (ab:∀b,O0 b->b<w0.heap.size) {T:Nat->Prop} (hT:∀n,T n->Gq n=false/\∃o,lk n σ.objs=some o/\seat (ρ n))
  {new:List (Nat×Obj)} {σ':St} {ρ':Nat->Value} {w':World} {dst:Option Nat} {u:Value}
  (V:w'.os=w.os) (Z:w'.tape=w.tape) (W:w'.output=w.output) (X:w.heap.size<=w'.heap.size)
  (M:∀b,b<w.heap.size->(∀n,T n->¬bk (ρ n) b)->w'.heap[b]?=w.heap[b]?)
  (r:∀n o,lk n σ'.objs=some o->lk n new=none->¬T n/\∃d,lk n σ.objs=some d)
  (N:∀n o,lk n σ.objs=some o->¬T n->lk n new=none/\∃d,lk n σ'.objs=some d)
  (l:∀n,lk n new=none->ρ' n=ρ n)
  (D:∀n o b,lk n new=some o->bk (ρ' n) b->(∃m,T m/\bk (ρ m) b)\/w.heap.size<=b)
  (I:∀n m o t b,lk n new=some o->lk m new=some t->bk (ρ' n) b->bk (ρ' m) b->n=m)
  (U:∀n o,lk n σ'.objs=some o->A8 (vw w' O0 σ' ρ') o (ρ' n))
  (J:∀s v,lk s σ'.env=some v->B7 (vw w' O0 σ' ρ') v ((a.put dst u).tmps.getD s undef)) :
  Bv w0 K O0 nt ds σ' ρ' (a.put dst u) w':=by
 have ad:∀m,T m->∀b,bk (ρ m) b->b<w.heap.size:=λm c b i=>by
  obtain⟨_,o,g,_⟩:=hT m c;exact(h.objs m o g).block_lt i
 have A:∀m,T m->∀b,bk (ρ m) b->¬K b/\¬O0 b:=λm c b i=>by
  obtain⟨_,o,g,_⟩:=hT m c;exact h.free m b ⟨o,g⟩ i
 refine⟨⟨V.trans h.frm.os,Z.trans h.frm.tape,W.trans h.frm.output,UD h.frm.size X,λk hk=>?_⟩,by rw[L5];exact h.nt,by rw[Hq];exact h.defers,λp hp=>?_,U,?_,?_,J⟩
 ·exact(M k (AA8 (H k hk) h.frm.size) λn hn i=>(A n hn k i).1 hk).trans (h.frm.block k hk)
 ·obtain⟨⟨o,h1⟩,f,j⟩:=h.pin p hp;have P:¬T p.1:=λY=>by
   obtain⟨hf,_,_,hs⟩:=hT _ Y;rw[f]at hs;rcases j with j|j
   ·rcases hs with ⟨_,_,_,z⟩|⟨_,z⟩<;>rw[z]at j<;>cases j
   ·rw[hf]at j;cases j
  obtain⟨F,G⟩:=N p.1 o h1 P;exact⟨G,(l _ F).trans f,j⟩
 ·intro n b y i;obtain⟨o,g⟩:=y;cases hn:lk n new with
  | none =>
   obtain⟨_,d,h1⟩:=r n o g hn;rw[l n hn]at i;exact h.free n b ⟨d,h1⟩ i
  | some e =>
   rcases D n e b hn i with ⟨m,c,x⟩|L
   ·exact A m c b x
   ·have:=h.frm.size;grind
 ·have key:∀n m o e b,lk n σ'.objs=some o->lk n new=none->lk m new=some e->bk (ρ' n) b->bk (ρ' m) b->False:=by
   intro n m o e b g hn c h1 f;obtain⟨Q,d,q⟩:=r n o g hn;rw[l n hn]at h1;rcases D m e b c f with ⟨E,B,x⟩|L
   ·obtain⟨_,aa,S,_⟩:=hT E B;have:=h.dist n E b ⟨d,q⟩ ⟨aa,S⟩ h1 x;exact Q (this▸B)
   ·have ae:b<w.heap.size:=(h.objs n d q).block_lt h1;omega
  intro n m b y O h1 f;obtain⟨o,g⟩:=y;obtain⟨t,C⟩:=O;cases hn:lk n new with
  | none =>
   cases c:lk m new with
   | none =>
    obtain⟨_,d,q⟩:=r n o g hn;obtain⟨_,e,R⟩:=r m t C c;rw[l n hn]at h1;rw[l m c]at f;exact h.dist n m b ⟨d,q⟩ ⟨e,R⟩ h1 f
   | some e=>exact(key n m o e b g hn c h1 f).elim
  | some d =>
   cases c:lk m new with
   | none=>exact(key m n t d b C c hn f h1).elim
   | some e=>exact I n m d e b hn c h1 f
end
end
section
open Go Go.RowKit
structure Rh (V V':Vw) (n:Nat) (hs:List Nat):Prop where
 O:∀b,b<V.w.heap.size->¬V.O b->¬V'.O b
 L:∀m,V.L m->Ac m hs=false->V'.L m
 ρ:∀m,V.L m->Ac m hs=false->m≠n->V'.ρ m=V.ρ m
 tup:∃vs,V.ρ n=.tuple vs
 plc:plc (V'.ρ n)=plc (V.ρ n)
 heap:∀b,b<V.w.heap.size->¬V.O b->V'.w.heap[b]?=V.w.heap[b]?
section
variable {V V':Vw} {n:Nat} {hs:List Nat}
theorem Rh.pl (h:Rh V V' n hs) {m:Nat} (a:V.L m) (b:Ac m hs=false):Fw.plc (V'.ρ m)=Fw.plc (V.ρ m):=by
 by_cases e:m=n
 ·subst e;exact h.plc
 ·rw[h.ρ m a b e]
theorem Rh.ptr (h:Rh V V' n hs) {m:Nat} (b:V.L m) (c:Ac m hs=false) {v:Value} (d:V.ρ m=v) (f:∀a,v≠.tuple a):V'.ρ m=v:=by
 have e:m≠n:=λe=>by
  obtain⟨a,h1⟩:=h.tup;grind
 rw[h.ρ m b c e,d]
theorem bG (h:Rh V V' n hs) {x:AV} {v:Value} (c:VL V x v):VL V' (x.trn n hs) v:=by
 cases x;case ag l=>exact c.elim
 case tup l=>exact c.elim
 case p t d=>simp only[AV.trn];exact Bl.mono h.O h.heap c
 case pc e d=>simp only[AV.trn];exact⟨Bl.mono h.O h.heap c.1,c.2⟩
 case raw u=>simp only[AV.trn];exact c
 case fn f=>simp only[AV.trn];exact c
 case top=>trivial
 case ip t d =>
  simp only[AV.trn];obtain⟨ad,cs,o,q,r,B⟩:=c;have s:ad.block<V.w.heap.size:=by
   have hp:=t.size_pos;have F:=B.length;have:=block_lt_of_cell (r 0 (cs[0]'(by omega)) (At (by omega)))
   rwa [CO]at this
  refine⟨ad,cs,o,h.O _ s q,λj u C=>?_,B0.mono h.O h.heap B⟩;rw[AF7 (w:=V.w) (w':=V'.w)]
  ·exact r j u C
  ·rw[CO];exact h.heap _ s q
 case sr m e lo hi =>
  simp only[AV.trn];split
  ·trivial
  ·rename_i a;have a:Ac m hs=false:=by simpa using a
   exact⟨h.L m c.1 a,by rw[h.pl c.1 a];exact c.2⟩
 case ep m e i E off =>
  simp only[AV.trn];split
  ·trivial
  ·rename_i a;have a:Ac m hs=false:=by simpa using a
   exact⟨h.L m c.1 a,by rw[h.pl c.1 a];exact c.2⟩
 case nin m e i len =>
  simp only[AV.trn];split
  ·trivial
  ·rename_i a;have D:m≠n:=λe=>a (.inl e);have y:Ac m hs=false:=by grind
   exact⟨h.L m c.1 y,by rw[h.ρ m c.1 y D];exact c.2⟩
 case bp m E off =>
  simp only[AV.trn];split
  ·trivial
  ·rename_i a;have a:Ac m hs=false:=by simpa using a
   obtain⟨g,b,k,o⟩:=c;exact⟨h.L m g a,b,h.ptr g a k (λ_ e=>by cases e),o⟩
 case mp m =>
  simp only[AV.trn];split
  ·trivial
  ·rename_i a;have a:Ac m hs=false:=by simpa using a
   obtain⟨g,b,k,o⟩:=c;exact⟨h.L m g a,b,h.ptr g a k (λ_ e=>by cases e),o⟩
 case yl m =>
  simp only[AV.trn];split
  ·trivial
  ·rename_i a;have a:Ac m hs=false:=by simpa using a
   obtain⟨g,b,k,o⟩:=c;exact⟨h.L m g a,b,h.ptr g a k (λ_ e=>by cases e),o⟩
 case clo f ns =>
  simp only[AV.trn];split
  ·trivial
  ·rename_i G;have z:∀m∈ns,Ac m hs=false:=λm a=>by grind
   have A:∀m∈ns,V'.ρ m=V.ρ m:=λm a=>by
    obtain⟨g,b,k⟩:=c.2 m a;rw[h.ptr g (z m a) k (λ_ e=>by cases e),k]
   refine⟨?_,λm a=>⟨h.L m (c.2 m a).1 (z m a),by rw[A m a];exact(c.2 m a).2⟩⟩;rw[c.1]
   congr 2
   exact UI λm a=>(A m a).symm
theorem A5b (h:Rh V V' n hs) {x:AV} {cs:List Value} (b:Nm V x cs):Nm V' (x.trn n hs) cs:=by
 cases x;case p t d=>simp only[AV.trn];exact(B0.mono h.O h.heap b:B0 V'.w V'.O t cs d)
 case ag l=>obtain⟨v,_,_,hf⟩:=b;exact hf.elim
 case tup l=>obtain⟨v,_,_,hf⟩:=b;exact hf.elim
 all_goals
  obtain⟨v,rfl,h1,e⟩:=b;have a:=bG h e;simp only[AV.trn]at a ⊢;first
   | exact⟨v,rfl,h1,a⟩
   | (split at a<;>rename_i c<;>first|(rw[BY c];exact⟨v,rfl,h1,a⟩)|(rw[An c];exact⟨v,rfl,h1,a⟩))
theorem Pt (h:Rh V V' n hs):∀ {l:List AV} {cs:List Value},Dn V l cs->Dn V' (AV.trns n hs l) cs
 | [],cs,a=>(a:cs=[])
 | x :: r,cs,a=>by
  obtain⟨c1,c2,rfl,h1,b⟩:=a;simp only[AV.trns];exact⟨c1,c2,rfl,A5b h h1,Pt h b⟩
theorem A5c (h:Rh V V' n hs) {x:AV} {v:Value} (a:Sn V x v):Sn V' (x.trn n hs) v:=by
 cases x;case ag l=>obtain⟨cs,h1,b⟩:=a;simp only[AV.trn];exact⟨cs,h1,Pt h b⟩
 all_goals exact Sn.of1 (bG h a)
theorem fN (h:Rh V V' n hs):∀ {l:List AV} {a:List Value},Js V l a->Js V' (AV.trns n hs l) a
 | [],a,b=>(b:a=[])
 | x :: r,a,b=>by
  obtain⟨v,d,rfl,h1,c⟩:=b;simp only[AV.trns];exact⟨v,d,rfl,A5c h h1,fN h c⟩
theorem bH (h:Rh V V' n hs) {x:AV} {v:Value} (b:B7 V x v):B7 V' (x.trn n hs) v:=by
 cases x;case ag l=>obtain⟨cs,h1,a⟩:=b;simp only[AV.trn];exact⟨cs,h1,Pt h a⟩
 case tup l=>obtain⟨c,h1,a⟩:=b;simp only[AV.trn];exact⟨c,h1,fN h a⟩
 all_goals exact A57 (bG h b)
theorem Fl (n:Nat) (hs:List Nat) (s:Nat):∀l:List (Nat×AV),lk s (EY n hs l)=(lk s l).map (AV.trn n hs)
 | []=>rfl
 | (j,v) :: l=>by
  simp only[EY,lk];split
  ·rfl
  ·exact Fl n hs s l
theorem Sy (n:Nat) (hs:List Nat):∀l:List AV,(AV.trns n hs l).length=l.length
 | []=>rfl
 | _ :: r=>by simp[AV.trns,Sy n hs r]
theorem DY (n:Nat) (hs:List Nat) (m:Nat):∀l:List (Nat×Obj),lk m (Ck n hs l)=if Ac m (n :: hs)=true then none else (lk m l).map (Obj.trn n hs)
 | []=>by simp[Ck,lk]
 | (j,o) :: l=>by
  simp only[Ck];by_cases a:Ac j (n :: hs)=true
  ·rw[BY a,DY n hs m l];grind [lk]
  ·rw[An a];simp only[lk];by_cases b:m=j
   ·subst b;simp[a]
   ·simp[b,DY n hs m l]
theorem pS (h:Rh V V' n hs) {o:Obj} {loc:Value} (c:∀b,bk loc b->V'.w.heap[b]?=V.w.heap[b]?) (a:A8 V o loc):A8 V' (o.trn n hs) loc:=by
 have hk:Cb ⟨V.w,V.O,λ_=>False,V.ρ⟩ V':=⟨h.O,λ_ h=>h.elim,λ_ h=>h.elim,h.heap⟩;cases o with
 | arr et e xs=>exact A8.keeps (V:=⟨V.w,V.O,λ_=>False,V.ρ⟩) (o:=.arr et e xs) hk c a
 | box et st fs =>
  obtain⟨h0,b,cs,rfl,h1,f⟩:=a;exact⟨λi=>by rw[Sy];exact h0 i,b,cs,rfl,(c b (.inl rfl)).trans h1,Pt h f⟩
 | mapo k v l=>exact A8.keeps (V:=⟨V.w,V.O,λ_=>False,V.ρ⟩) (o:=.mapo k v l) hk c a
 | nest et p k e xs g=>exact A8.keeps (V:=⟨V.w,V.O,λ_=>False,V.ρ⟩) (o:=.nest et p k e xs g) hk c (M7 (V:=V) (V':=⟨V.w,V.O,λ_=>False,V.ρ⟩) rfl rfl a)
 | frame x fs =>
  obtain⟨h0,h1⟩:=a;refine⟨h0,λs z d=>?_⟩;rw[Fl]at d;simp only[If]at d;obtain⟨y,j,rfl⟩:=d;exact bH h (h1 s y j)
 | loop L=>exact A8.keeps (V:=⟨V.w,V.O,λ_=>False,V.ρ⟩) (o:=.loop L) hk c a
 | itr q u r t m=>exact A8.keeps (V:=⟨V.w,V.O,λ_=>False,V.ρ⟩) (o:=.itr q u r t m) hk c a
 | dfr=>exact A8.keeps (V:=⟨V.w,V.O,λ_=>False,V.ρ⟩) (o:=.dfr) hk c a
end
end
section
open Go Go.RowKit
theorem lI {t:Ty} (h:t.cell1=true):t.size=1:=by cases t<;>simp[Ty.cell1]at h<;>rfl
theorem Ym {V:Vw} {ty:Ty} {x:AV} {a:List Value} (c:Nm V x a) (hf:Ns ty x=true):a.length=ty.size:=by
 by_cases b:x=.top
 ·subst b;obtain⟨v,rfl,_⟩:=c;grind [Ns,lI]
 ·have hf:Ca ty x=true:=by cases x<;>first|exact hf|exact absurd rfl b
  exact(lF c hf).1
theorem yZ {V:Vw} {ty:Ty} {st:Bool} {fs m:List AV} {q:List Nat} {off:Nat} {u v:AV} {cs f:List Value} (g:Dn V fs cs) (G:st=false->fs.length=1)
  (h:KZ st fs v q=some m) (i:Pa fs q=some off) (b:Jn st fs q=some u) (hu:Ns ty u=true) (P:Ca ty v=true)
  (K:∀l,v=.ag l->Dn V l f) (o:(∀l,v≠.ag l)->Nm V v f) (L:f.length=ty.size) :
  off+f.length<=cs.length/\Dn V m (A3 cs off f)/\(st=false->m.length=1):=by
 unfold KZ at h;split at h
 ·simp only[Pa]at i;cases i;simp only[Jn]at b;cases st with
  | true =>
   simp only[AD1]at h b;cases b;have N:cs.length=ty.size:=by
    have:=g.length;cases ty<;>simp only[Ns,Ca]at hu<;>try(cases hu;done)
    grind [Ty.size]
   rw[D5 (by omega)];split at h
   ·grind [Nm,B0,A1B]
   ·grind
   ·cases h
  | false =>
   simp only[ADB,AE4]at h b;split at h
   ·rename_i c;have c:∀l,v≠.ag l:=λl e=>by subst e;simp[Pe]at c
    cases h;obtain⟨x,rfl⟩:=ADS.1 (G rfl);simp at b;subst b;obtain⟨c1,c2,rfl,h1,a⟩:=g;have a:c2=[]:=a;subst a;have B:=Ym h1 hu;rw[UO,D5 (by omega)];exact⟨by omega,⟨f,[],by simp,o c,rfl⟩,by simp⟩
   ·cases h
 ·rename_i k;split at h
  ·rename_i s;simp only[AT]at s;obtain⟨rfl,c⟩:=s;have c:∀l,v≠.ag l:=λl e=>by subst e;simp[Pe]at c
   cases h;simp only[Jn,AD1]at b;obtain⟨h1,a⟩:=g.get b;have B:=Ym a hu;have J:=a.length;have F:off=CL fs k:=by grind [Pa,Lt]
   subst F;have j:=o c;have n:=j.length;exact⟨by omega,g.set b j (by omega),by simp⟩
  ·cases h
 ·rename_i k r M;cases st with
  | false=>simp at h
  | true =>
   simp only[AD1]at h;split at h
   ·rename_i t d I x hk;simp only[If]at h;obtain⟨y,H,rfl⟩:=h;simp only[Pa,hk,If]at i;obtain⟨Q,E,rfl⟩:=i;obtain⟨h1,a⟩:=g.get hk;have A:B0 V.w V.O t _ d:=a;have j:B0 V.w V.O I f x:=o (by simp);obtain⟨n,C⟩:=VQ H E A j;have D:=a.length;simp only[AV.cells]at h1 D C n;have z:=g.set (y:=.p t y) hk (n:B0 V.w V.O t _ y) rfl;rw[Nx _ _ _ _ _ (by omega) h1]at z;exact⟨by omega,z,by simp⟩
   ·cases h
section
variable {P:Program} {tb:Tb} {w0:World} {K O0:Nat->Prop} {nt:Nat} {ds:Fp} {σ σ':St} {ρ:Nat->Value} {a:Act} {w:World} {vc:Prop}
theorem Sz {n:Nat} {o:Obj} (hn:lk n σ.objs=some o) {g:Nat} (c:blk (ρ n)=some g) {w':World} (d:w.grownBy w' (some g)):Cb (vw w O0 σ ρ) (vw w' O0 σ ρ) :=
 ⟨λ_ _ h=>h,λ_ h=>h,λ_ _=>rfl,λb f a=>d.block b f (λe=>by injection e with e;subst e;exact a (.inr ⟨n,⟨o,hn⟩,.inl c⟩))⟩
theorem F9 (w:World) (g:Nat) (cs:Array Value):w.grownBy (w.setRow g cs) (some g) :=
 ⟨rfl,rfl,rfl,by simp,λk _ hk=>setRow_other w g k cs (λe=>hk (by rw[e]))⟩
theorem MA {id:TypeId} {ti:TI} (hT:EH P tb id ti) {g off:Nat} {cs:List Value} {et:TypeId} {xv:Value} (hh:w.heap[g]?=some (.cells cs.toArray et (0,0))) (hs:xv.cells.size=ti.ty.size)
  (b:off+xv.cells.toList.length<=cs.length) (h1:∀u∈xv.cells.toList,u.oneCell'=true) :
  (Instr.storeAt id (.pointer (some ⟨g,off,none⟩)) xv).run P w=.ok () (w.setRow g (A3 cs off xv.cells.toList).toArray):=by
 have a:=run_storeCells_at P g off et xv.cells.toList 0 cs.toArray w hh (by simpa using b) h1;simp only[Nat.add_zero]at a;have c:¬xv.cells.size≠ti.ty.size:=by omega
 simp only[Instr.storeAt,Instr.sureAddr,storeVar,ADA,AEr,aS,Hr w hT,An c,a];rfl
theorem pT {o:Oper} {w':World} {next:Act->World->Prop} {Q:Exit->Act->World->Prop} {r:Option Nat} (h:(execOp a.eval o).run P w=.ok .skip w') (hn:next (a.put o.dst undef) w') (b:∀c,o.op≠.defer c:=by intro c e;cases e):o.wpIn (FR r) 0 P a w next Q:=by
 refine⟨λ_ _=>trivial,?_⟩;rw[Gv _ _ _ b,h];exact hn
theorem y3 (hs:Bv w0 K O0 nt ds σ ρ a w) (al:∀b,K b->b<w0.heap.size) (hT:DH P tb) {id:TypeId} {x y:Operand} (bu:∀n e i s off,Ak σ x=some (.ep n e i s off)->Cs (lk n σ.objs)=false) (h:Hn σ (lk id tb.ty) (Ak σ x) (Ak σ y)=some (vc,σ')) (cy:vc) :
  ∃w',(Instr.storeAt id (a.eval x) (a.eval y)).run P w=.ok () w'/\Bv w0 K O0 nt ds σ' ρ a w':=by
 have G:GZ (vw w O0 σ ρ) σ a.eval:=Et hs.env;unfold Hn at h;split at h
 ·rename_i ti n s off v ab Q ah;have af:=G x _ Q;have D:=G y _ ah;cases hn:lk n σ.objs with
  | none=>rw[hn]at h;simp[Dj]at h
  | some o =>
   rw[hn]at h;cases o with
   | arr et e xs=>simp[Dj]at h
   | mapo k v l=>simp[Dj]at h
   | frame cn fs=>simp[Dj]at h
   | loop L=>simp[Dj]at h
   | itr ci cl cj ck cg=>simp[Dj]at h
   | dfr=>simp[Dj]at h
   | nest et ch k e xs bq=>simp[Dj]at h
   | box et st fs =>
    simp only[Dj]at h;cases I:Jn st fs s with
    | none=>rw[I]at h;simp[FI]at h
    | some u =>
     cases Z:KZ st fs v s with
     | none=>rw[I,Z]at h;simp[FI]at h
     | some cq =>
      rw[I,Z]at h;simp only[FI]at h;split at h
      ·rename_i ay;obtain⟨hu,ad,bv,_⟩:=ay;cases h;obtain⟨cb,b,cs,W,C,bi⟩:=hs.objs n _ hn;obtain⟨bg,b',f,ae⟩:=af;have f:ρ n=_:=f;rw[W]at f;injection f with f
       injection f with f
       injection f with f
       subst f;have H:=A1t D ad (Ny D ad);have am:∀l,v=.ag l->Dn (vw w O0 σ ρ) l (a.eval y).cells.toList:=by
        intro l e;subst e;obtain⟨cp,A,bj⟩:=D;rw[A];simpa[Value.cells] using bj
       obtain⟨h1,R,bd⟩:=yZ bi cb Z bv I hu ad am (λJ=>H.2 J) (by simpa using H.1);have bx:∀z∈(a.eval y).cells.toList,z.oneCell'=true:=by
        by_cases J:∃l,v=.ag l
        ·obtain⟨l,e⟩:=J;exact(am l e).one
        ·exact(H.2 (λl e=>J ⟨l,e⟩)).one
       have Y:=MA (hT _ _ ab) C H.1 h1 bx;rw[ae];refine⟨_,Y,?_⟩;have t:blk (ρ n)=some b:=by rw[W];rfl
       refine hs.upd al hn t (F9 w b _) ⟨bd,b,_,W,setRow_heap w b _ _ et _ C,?_⟩;exact R.keeps (Sz hn t (F9 w b _))
      ·cases h
 ·rename_i ti n e i s off v ab Q ah;have af:=G x _ Q;have D:=G y _ ah;cases hn:lk n σ.objs with
  | none=>rw[hn]at h;simp[Dk]at h
  | some o =>
   rw[hn]at h;cases o with
   | box et st fs=>simp[Dk]at h
   | mapo k v l=>simp[Dk]at h
   | frame cn fs=>simp[Dk]at h
   | loop L=>simp[Dk]at h
   | itr ci cl cj ck cg=>simp[Dk]at h
   | dfr=>simp[Dk]at h
   | nest et ch k e xs bq=>have:=bu _ _ _ _ _ Q;rw[hn]at this;cases this
   | arr et d xs =>
    simp only[Dk]at h;cases T:BW (.slice e) ⟨.slice d,xs⟩ with
    | none=>rw[T]at h;simp[Eq]at h
    | some ys =>
     obtain⟨rfl,R⟩:=Bq T;cases R;rw[T]at h;cases S:LQ false σ ti.ty v with
     | none=>rw[S]at h;simp[Eq]at h
     | some co =>
      rw[S]at h;simp only[Eq]at h;cases aa:VI s d (xs.getD i d.dflt) ⟨ti.ty,co⟩ with
      | none=>rw[aa]at h;simp[F6]at h
      | some z =>
       rw[aa]at h;simp only[F6]at h;split at h
       ·rename_i bw;cases h;obtain⟨bs,cells,M,F⟩:=hs.objs n _ hn;obtain⟨bg,g,m,c,f,X,ae⟩:=af;have f:plc (ρ n)=_:=f;have M:w.ownsRow 0 et d.size (ρ n) xs.length cells:=M;rw[HW M]at f;have F:Dx w (own O0 σ ρ) d cells xs:=F;have ce:=Iu (V:=vw w O0 σ ρ) (O':=own O0 σ ρ) (λ_ h=>h) (λh=>by cases h) hs.objs S D;obtain⟨ax,aw⟩:=Yg ce;obtain⟨av,bz⟩:=M;rcases bz with ⟨A,_⟩|⟨cr,cap,r,A,cu,C,ao,bh,U,cc⟩
        ·grind
        ·rw[f]at A;injection A with B bk bl
         injection B with B
         injection B with B
         subst B;subst bk;have cf:xs[i]?=some (xs.getD i d.dflt):=by
          rw[At X,AS,At X];rfl
         obtain⟨ak,bn,aq,bm⟩:=F i _ cf;obtain⟨be,bf⟩:=VQ aa bw bm aw;have ct:cells.length=xs.length*d.size:=av;have bp:(i+1)*d.size<=xs.length*d.size:=UP _ X;have cv:xs.length*d.size<=cap*d.size:=UP _ ao;rw[ADU]at bp;have an:i*d.size+off+(a.eval y).cells.toList.length<=r.toList.length:=by
          have br:r.toList.length=cap*d.size:=by rw[<-U];simp
          have cx:(a.eval y).cells.toList.length=ti.ty.size:=by rw[<-ax];simp
          omega
         have bo:w.heap[g]?=some (.cells r.toList.toArray et (0,0)):=by simpa using C
         have Y:=MA (hT _ _ ab) bo ax an aw.one;rw[ae];refine⟨_,Y,?_⟩;have t:blk (ρ n)=some g:=by rw[f];rfl
         have ca:(A3 r.toList (i*d.size+off) (a.eval y).cells.toList).length=r.size:=by rw[FL an];simp
         have cd:(A3 r.toList (i*d.size+off) (a.eval y).cells.toList).take (xs.length*d.size)=A3 cells (i*d.size+off) (a.eval y).cells.toList:=by
          rw[<-cc];apply AEV;intro j;simp only[A3,UN,US,AAe,ON,ADg,AFm];have ai:min (i*d.size+off) r.toList.length=i*d.size+off:=by omega
          have E:min (i*d.size+off) (xs.length*d.size)=i*d.size+off:=by omega
          have cm:min (xs.length*d.size) r.toList.length=xs.length*d.size:=by
           have br:r.toList.length=cap*d.size:=by rw[<-U];simp
           omega
          simp only[ai,E,cm];by_cases c1:j<i*d.size+off
          ·simp[c1,show j<xs.length*d.size by omega]
          ·by_cases c2:j-(i*d.size+off)<(a.eval y).cells.toList.length
           ·simp only[c1,c2,AE4,AD1,show j<xs.length*d.size by omega]
           ·simp only[c1,c2,AE4];by_cases aj:j<xs.length*d.size
            ·rw[BY aj,BY (by omega)]
            ·rw[An aj,An (by omega)]
         refine hs.upd al hn t (F9 w g _) ⟨by simpa using bs,A3 cells (i*d.size+off) (a.eval y).cells.toList,⟨?_,.inr ⟨g,cap,_,by rw[f,bl];simp,IS _,setRow_heap w g _ _ et _ C,by simpa using ao,bh,by simp[ca,U],?_⟩⟩,?_⟩
         ·rw[FL (by omega)];simpa using av
         ·simpa using cd
         ·have hk:=Sz (O0:=O0) hn t (F9 w g (A3 r.toList (i*d.size+off) (a.eval y).cells.toList).toArray);have bt:Dx (vw w O0 σ ρ).w (vw w O0 σ ρ).O d (A3 cells (i*d.size+off) (a.eval y).cells.toList) (xs.set i z):=by
           intro k q N;rw[ADz]at N;split at N
           ·rename_i ar;subst ar;cases N;refine⟨A3 ak off (a.eval y).cells.toList,by rw[FL bf];exact bn,λj u p=>?_,be⟩;simp only[A3,UN,AAe,ON,US,ADg]at p ⊢;have ai:min off ak.length=off:=by omega
            have E:min (i*d.size+off) cells.length=i*d.size+off:=by omega
            simp only[ai]at p;simp only[E];by_cases c1:j<off
            ·simp only[c1,AD1]at p;simp only[show i*d.size+j<i*d.size+off by omega,AD1];exact aq _ _ p
            ·simp only[c1,AE4]at p;simp only[show ¬i*d.size+j<i*d.size+off by omega,AE4];rw[show i*d.size+j-(i*d.size+off)=j-off by omega];by_cases c2:j-off<(a.eval y).cells.toList.length
             ·simp only[c2,AD1]at p ⊢;exact p
             ·simp only[c2,AE4]at p ⊢;have:=aq _ _ p;rw[<-this]
              congr 1
              omega
           ·rename_i ar;obtain⟨az,ba,bb,bc⟩:=F k q N;refine⟨az,ba,λj u p=>?_,bc⟩;have cw:=(UC.1 p).1;have ap:=bb j u p;simp only[A3,UN,AAe,ON,US,ADg];have E:min (i*d.size+off) cells.length=i*d.size+off:=by omega
            simp only[E];rcases Nat.lt_or_ge k i with au|au
            ·have:(k+1)*d.size<=i*d.size:=UP _ au;rw[ADU]at this;simp only[show k*d.size+j<i*d.size+off by omega,AD1];exact ap
            ·have:(i+1)*d.size<=k*d.size:=UP _ (by omega);rw[ADU]at this;simp only[show ¬k*d.size+j<i*d.size+off by omega,AE4,show ¬k*d.size+j-(i*d.size+off)<(a.eval y).cells.toList.length by omega];rw[<-ap]
             congr 1
             omega
          exact bt.keeps hk
       ·cases h
 ·cases h
theorem y4 (hs:Bv w0 K O0 nt ds σ ρ a w) (B:∀b,K b->b<w0.heap.size) (s:DH P tb) {t:TypeId} {m x y:Operand} (h:Kd tb σ (lk t tb.ty) (Ak σ m) (Ak σ x) (Ak σ y)=some (vc,σ')) :
  ∃w',(Instr.mapUpdate t (a.eval m) (a.eval x) (a.eval y)).run P w=.ok () w'/\Bv w0 K O0 nt ds σ' ρ a w':=by
 have g:GZ (vw w O0 σ ρ) σ a.eval:=Et hs.env;unfold Kd at h;split at h
 ·rename_i k e _ _ n xv W N J O R;have Q:=g x _ O;have S:=g y _ R;obtain⟨X,b,d,L⟩:=g m _ J;have d:ρ n=_:=d;cases hn:lk n σ.objs with
  | none=>rw[hn]at h;simp[F7]at h
  | some o =>
   rw[hn]at h;cases o with
   | mapo Y U l =>
    cases j:lk k tb.ty with
    | none=>simp[F7,j]at h
    | some T =>
     simp only[F7,j,AEg,tO]at h;split at h
     ·rename_i E;obtain⟨rfl,F⟩:=E;cases f:LQ false σ T.ty xv with
      | none=>rw[f]at h;simp[Gn]at h
      | some kd =>
       cases p:LQ false σ U W with
       | none=>rw[f,p]at h;simp[Gn]at h
       | some aa =>
        rw[f,p]at h;simp only[Gn]at h;split at h
        ·rename_i H;cases h;have h1:=Iu (V:=vw w O0 σ ρ) (O':=own O0 σ ρ) (λ_ h=>h) (λh=>by cases h) hs.objs f Q;have A:=Iu (V:=vw w O0 σ ρ) (O':=own O0 σ ρ) (λ_ h=>h) (λh=>by cases h) hs.objs p S;obtain⟨b',r,q,c,M,⟨Z,z⟩,G,D⟩:=A8Y (w:=w) (V:=vw w O0 σ ρ) s (s _ _ N) (n:=n) rfl rfl j rfl (hs.objs n _ hn) F H h1 A;have c:ρ n=_:=c;rw[d]at c;injection c with c
         injection c with c
         subst c;rw[L];refine⟨_,M,?_⟩;have u:blk (ρ n)=some b:=by rw[d];rfl
         have v:w.grownBy { w with heap:=w.heap.setIfInBounds b (.map r q) } (some b) :=
          ⟨rfl,rfl,rfl,by simp,λi _ hi=>(MapKept.heap_set z).2 i (λe=>hi (by rw[e]))⟩
         refine hs.upd B hn u v ⟨b,r,q,d,(MapKept.heap_set z).1,?_⟩;refine⟨?_,D⟩;exact G.mono (λ_ _ h=>h) (λb2 I C=>v.block b2 I (λe=>by injection e with e;subst e;exact C (.inr ⟨n,⟨_,hn⟩,.inl u⟩)))
        ·cases h
     ·cases h
   | _=>simp[F7]at h
 ·cases h
end
end
section
open Go Go.RowKit
section
variable {P:Program} {tb:Tb} {w0:World} {K O0:Nat->Prop} {nt:Nat} {ds:Fp} {σ σ':St} {ρ:Nat->Value} {a:Act} {w:World} {vc:Prop} {id:TypeId}
theorem Ub {w:World} {base:Nat} {et:TypeId} {sz n:Nat} {s:Value} {xs:List Value} (h:w.ownsRow base et sz s n xs):s.ownBlock=blk s:=by
 rcases h.2 with ⟨rfl,_⟩|⟨g,cap,a,rfl,_⟩<;>rfl
theorem HX (v:DH P tb) {el:TypeId} {e:Ty} (hu:P.underlying id=some (.slice el)) {te:TI} (A:lk el tb.ty=some te) (J:te.ty=e) {base ty:Nat} {s xv:Value} {n:Nat} {xs C:List Value}
  (q:w.ownsRow base el e.size s n xs) {O:Nat->Prop} {ys:List e.den} (T:Src w O e xv ys C) (U:(n+ys.length)*te.bytes<=AP) {f:Value} {w':World}
  (h:(Builtin.append_ #[id,id] ty #[s,xv]).run P w=.ok f w'):blk f=blk s\/∀b,blk f=some b->w.heap.size<=b:=by
 subst J;obtain⟨⟨⟨_,H,_⟩,i,z,hi,o,x,B,ai⟩,_⟩:=v _ _ A;have R:n+ys.length<=AP:=by
  have:(n+ys.length)*1<=(n+ys.length)*te.bytes:=AEh _ H;omega
 have ae:AP=140737488355328:=rfl;obtain⟨⟨a,c,rfl,F⟩,M,Z,ag,ab⟩:=T;have hs:(sizeOf el).run P w=.ok te.ty.size w:=Hr w (v _ _ A);have aj:∀ {l D:Nat} {W:World},Result.ok (Value.slice (some ⟨w.heap.size,0,none⟩) l D) W=Result.ok f w'->blk f=blk s\/∀b,blk f=some b->w.heap.size<=b:=by grind [blk]
 have V:∀(ad:Addr) (m:Nat) (d:List Value),d.length=m*te.ty.size->(∀(j:Nat) (u:Value),d[j]?=some u->w.cell? (ad.add j)=some u)->(∀u∈d,u.oneCell'=true)->n+m<=AP->(n+m)*te.bytes<=AP ->
   (Builtin.append_ #[id,id] ty #[s,.slice (some ad) m c]).run P w=.ok f w'->blk f=blk s\/∀b,blk f=some b->w.heap.size<=b:=by
  intro ad m d k p h1 aa G h;rcases q.2 with ⟨rfl,rfl⟩|⟨g,cap,t,rfl,X,L,af,Y,I,ah⟩
  ·by_cases N:m=0
   ·subst N;have:d=[]:=UL (by simpa using k);simp[Builtin.append_,UH hu,hs,Builtin.lenOf,Builtin.firstCells,loadCells,loadCellsFrom]at h;grind
   ·have:=run_append_nil (P:=P) w id ty el i z hu hi B ad m c d (by rw[o];exact k) p (by omega) (by omega) (by rw[x];simp at G;omega);grind
  ·by_cases y:n+m<=cap
   ·have K:n*i.size+d.length<=t.size:=by
     rw[k,o,I,<-AET];exact UP _ y
    have:=run_append_room (P:=P) w id ty el i hu hi g n cap t L ad m c d (by rw[o];exact k) p h1 y K;rw[this]at h;injection h with r E
    subst r;exact .inl rfl
   ·have S:∀j u,xs[j]?=some u->w.cell? ((⟨g,0,none⟩:Addr).add j)=some u:=q.cells (g:=g) rfl;have:=run_append_grow (P:=P) w id ty el i z hu hi B ⟨g,0,none⟩ n cap xs (by rw[o];exact q.1) S ad m c d (by rw[o];exact k) p (by omega) (by omega) (by rw[x];exact growslice_fits (by omega) (by omega));grind
 rcases F with rfl|⟨ad,rfl,p⟩
 ·have Q:C=[]:=UL (by simpa using M);subst Q;cases a with
  | none =>
   have:=Sq (P:=P) (ty:=ty) hu hs q c;rw[show ([]:List te.ty.den).length=0 from rfl,this]at h;injection h with r E
   subst r;exact .inl rfl
  | some ad=>exact V ad 0 [] (by simp) (by simp) (by simp) (by simpa using R) (by simpa using U) h
 ·grind
theorem lJ {w:World} {O:Nat->Prop} {e:Ty} {c:List Value} {xs:List e.den} (h:Dx w O e c xs) (n:Nat):Dx w O e (c.take (n*e.size)) (xs.take n):=by
 intro i x hi;rw[US]at hi;split at hi
 ·rename_i g;obtain⟨a,b,k,d⟩:=h i x hi;refine⟨a,b,λj u f=>?_,d⟩;have l:=(UC.1 f).1;have:(i+1)*e.size<=n*e.size:=UP _ g;grind
 ·cases hi
theorem lK (hs:Bv w0 K O0 nt ds σ ρ a w) (af:∀b,K b->b<w0.heap.size) (ag:∀b,O0 b->b<w0.heap.size) (hT:DH P tb) {d:Option Nat} (ai:∀k,d=some k->k<nt) {t u ty:TypeId} {x y:Operand}
  (h:DN tb σ d t u (Ak σ x) (Ak σ y)=some (vc,σ')) (ar:vc) (ah:∃n e hi,Ak σ x=some (.sr n e 0 hi)/\Cs (lk n σ.objs)=false) :
  ∃z w' ρ',(Builtin.append_ #[t,u] ty #[a.eval x,a.eval y]).run P w=.ok z w'/\Bv w0 K O0 nt ds σ' ρ' (a.put d z) w':=by
 have O:GZ (vw w O0 σ ρ) σ a.eval:=Et hs.env;obtain⟨n0,ad,am,Y,S⟩:=ah;unfold DN at h;split at h
 ·rename_i n e hi v X au;obtain⟨rfl,rfl,rfl⟩:n=n0/\e=ad/\hi=am:=by rw[X]at Y;cases Y;exact⟨rfl,rfl,rfl⟩
  split at h
  ·rename_i d;split at h
   ·rename_i I;obtain⟨I,al⟩:=I;subst I;cases H:lk t tb.ty with
    | none=>rw[H]at h;simp[Er]at h
    | some ti =>
     rw[H]at h;unfold Er at h;split at h
     ·rename_i p offs el b i;cases i;split at h
      ·rename_i aj;subst aj;obtain⟨hu,bi,te,G,U⟩:=CM (hT _ _ H) hT;rw[G]at h;cases hn:lk n σ.objs with
       | none=>rw[hn]at h;cases f:PZ σ p v<;>rw[f]at h<;>simp[Ci]at h
       | some o =>
        rw[hn]at h;cases o with
        | box et st fs=>cases f:PZ σ p v<;>rw[f]at h<;>simp[Ci]at h
        | mapo av v1 l=>cases f:PZ σ p v<;>rw[f]at h<;>simp[Ci]at h
        | frame br fs=>cases f:PZ σ p v<;>rw[f]at h<;>simp[Ci]at h
        | loop L=>cases f:PZ σ p v<;>rw[f]at h<;>simp[Ci]at h
        | itr bl bo bm bn bj=>cases f:PZ σ p v<;>rw[f]at h<;>simp[Ci]at h
        | nest et bk av s xs be=>rw[hn]at S;cases S
        | dfr=>cases f:PZ σ p v<;>rw[f]at h<;>simp[Ci]at h
        | arr et j xs =>
         simp only[Ci]at h;split at h
         ·rename_i ak;subst ak;cases B:BW (.slice p) ⟨.slice j,xs⟩ with
          | none=>rw[B]at h;simp[FJ]at h
          | some bs =>
           obtain⟨rfl,ae⟩:=Bq B;cases ae;rw[B]at h;cases f:PZ σ j v with
           | none=>rw[f]at h;simp[FJ]at h
           | some ys =>
            rw[f]at h;simp only[FJ]at h;cases h;obtain⟨bp,F⟩:=UZ hs.objs f (O y _ au);obtain⟨bh,cells,r,C⟩:=hs.objs n _ hn;have r:w.ownsRow 0 et j.size (ρ n) xs.length cells:=r;have C:Dx w (own O0 σ ρ) j cells xs:=C;obtain⟨bb,aa,m,c,q,bg,bd,Z,ab,J,bc,h0,h1⟩:=O x _ X;have q:plc (ρ n)=.slice aa m c:=q;rw[HW r]at q;obtain⟨rfl,rfl⟩:=h0 rfl;simp only[Nat.sub_zero]at J;have bf:=r.1;have R:hi<=xs.length:=by
             rcases r.2 with ⟨i,ap⟩|⟨g,cap,M,i,_⟩
             ·rw[q]at i;injection i;omega
             ·rw[q]at i;injection i;omega
            have ao:hi*j.size<=xs.length*j.size:=UP _ R;have E:w.ownsRow 0 et j.size (a.eval x) hi (cells.take (hi*j.size)):=by
             rw[J];refine⟨by rw[ON];omega,?_⟩;rcases r.2 with ⟨i,ap⟩|⟨g,cap,M,i,aw,ax,bq,ay,az,ba⟩
             ·rw[q]at i;injection i with s j A
              subst s;subst A;have:hi=0:=by omega
              subst this;exact .inl ⟨rfl,rfl⟩
             ·rw[q]at i;injection i with s j A
              subst s;subst A;refine .inr ⟨g,ab,M,rfl,aw,ax,by omega,ay,az,?_⟩;rw[<-ba,AFm,AEi ao]
            have V:(hi+ys.length)*te.bytes<=AP:=ar;obtain⟨z,w',T,aq,Q,an⟩:=Ga (ty:=ty) hT hu G U E F V (IS _);have W:=HX (ty:=ty) hT hu G U E F V T;have N:blk (a.eval x)=blk (ρ n):=by
             rw[J,q];cases Z<;>rfl
            rw[N]at W;rw[Ub E,N]at Q;refine⟨z,w',Ei ρ n z,T,?_⟩;have D:(xs.take hi++ys).length=hi+ys.length:=by simp;omega
            exact hs.app af ag al hn Q W (by rw[D];exact an) (by rw[D];exact aq) (Kj (lJ C hi) F.elems (by rw[ON,ON];rw[AEi R];omega)) (ai d rfl) D.symm
         ·cases h
      ·cases h
     ·cases h
   ·cases h
  ·cases h
 ·grind
 ·grind
 ·cases h
theorem NB (n:Nat) (e:Ty) (xs:List e.den) (s:Nat):∀l:List (Nat×AV),lk s (DW n e xs l)=(lk s l).map (AV.frz n e xs)
 | []=>rfl
 | (j,v) :: l=>by
  simp only[DW,lk];split
  ·rfl
  ·exact NB n e xs s l
def Obj.frz (n:Nat) (e:Ty) (xs:List e.den):Obj->Obj
 | .arr et a ys=>.arr et a ys
 | .box et st fs=>.box et st (AV.frzs n e xs fs)
 | .mapo k v l=>.mapo k v l
 | .nest et c k e ys h=>.nest et c k e ys h
 | .frame j fs=>.frame j (DW n e xs fs)
 | .loop L=>.loop L
 | .itr d i f g b=>.itr d i f g b
 | .dfr=>.dfr
theorem Cf (n:Nat) (e:Ty) (xs:List e.den) (s:Nat):∀l:List (Nat×Obj),lk s (BB n e xs l)=(lk s l).map (Obj.frz n e xs)
 | []=>rfl
 | (j,.arr et a ys) :: l=>by
  simp only[BB,lk];split
  ·rfl
  ·exact Cf n e xs s l
 | (j,.box et st fs) :: l=>by
  simp only[BB,lk];split
  ·rfl
  ·exact Cf n e xs s l
 | (j,.mapo k v x) :: l=>by
  simp only[BB,lk];split
  ·rfl
  ·exact Cf n e xs s l
 | (j,.nest _ _ _ _ _ _) :: l=>by
  simp only[BB,lk];split
  ·rfl
  ·exact Cf n e xs s l
 | (j,.frame h fs) :: l=>by
  simp only[BB,lk];split
  ·rfl
  ·exact Cf n e xs s l
 | (j,.loop L) :: l=>by
  simp only[BB,lk];split
  ·rfl
  ·exact Cf n e xs s l
 | (j,.itr c g d f b) :: l=>by
  simp only[BB,lk];split
  ·rfl
  ·exact Cf n e xs s l
 | (j,.dfr) :: l=>by
  simp only[BB,lk];split
  ·rfl
  ·exact Cf n e xs s l
theorem S0 (n:Nat) (e:Ty) (xs:List e.den):∀l:List AV,(AV.frzs n e xs l).length=l.length
 | []=>rfl
 | _ :: r=>by simp[AV.frzs,S0 n e xs r]
section
variable {V V':Vw} {n:Nat} {et:TypeId} {e:Ty} {xs:List e.den}
structure pU (V V':Vw) (n:Nat):Prop where
 w:V'.w=V.w
 ρ:V'.ρ=V.ρ
 L:∀m,V.L m->m≠n->V'.L m
 O:∀b,¬V.O b->¬V'.O b
 n:∀b,bk (V.ρ n) b->¬V'.O b
theorem pU.keeps (h:pU V V' n):Cb (V.but n) V':=⟨λb _ c=>h.O b c,λm a=>h.L m a.1 a.2,λm _=>by rw[h.ρ];rfl,λb _ _=>by rw[h.w];rfl⟩
structure Pu (V V':Vw) (n:Nat) (e:Ty) (xs:List e.den):Prop where
 seat:seat (V.ρ n)
 read:∀lo hi v,DG (plc (V.ρ n)) e.size lo hi v->B0 V'.w V'.O (.slice e) [v] (sub xs lo hi)
theorem fO {V:Vw} {et:TypeId} {e:Ty} {xs:List e.den} {loc:Value} (b:A8 V (.arr et e xs) loc):seat loc:=by
 obtain⟨_,cells',c,_⟩:=b;rcases c.2 with ⟨a,_⟩|⟨g,cap,d,a,_⟩
 ·exact .inl ⟨_,_,_,a⟩
 ·exact .inl ⟨_,_,_,a⟩
theorem pU.arr (h:pU V V' n) (a:A8 V (.arr et e xs) (V.ρ n)):Pu V V' n e xs:=⟨fO a,λlo hi v f=>by
 have d:=aY (V:=V) (O':=V'.O) h.O (λb c=>h.n b (.inl c)) a f
 rwa [<-h.w]at d⟩
theorem pU.nest (h:pU V V' n) {f:TypeId} {k e:Ty} {xs:List (k.den×List e.den)} (a:A8 V (.nest et f k e xs none) (V.ρ n)):Pu V V' n (.agg (.prod k (.slice e))) xs:=⟨by
 obtain⟨o,ins,cells,b,_⟩:=a;exact b.elim (λh=>.inr ⟨_,h⟩) (λh=>.inl ⟨_,_,_,h.1⟩),λlo hi v d=>by
 have c:=eO (V:=V) (O':=V'.O) h.O h.n a d
 rwa [<-h.w]at c⟩
theorem bI (h:pU V V' n) (g:Pu V V' n e xs) {x:AV} {v:Value} (b:VL V x v):VL V' (x.frz n e xs) v/\((∀t d,x≠.p t d)->∀t d,x.frz n e xs=.p t d->t.wrap [v]=v/\B0 V'.w V'.O t [v] d):=by
 have hk:=h.keeps;have c:=g.seat;cases x;case sr m f lo hi =>
  simp only[AV.frz];split
  ·rename_i a;subst a;split
   ·rename_i q;subst q;obtain⟨u,k⟩:=b;have j:=g.read lo hi v k;obtain⟨_,_,_,_,_,_,r,s,l,_⟩:=k;refine⟨⟨[v],j,by rw[l];rfl⟩,λ_ t d h=>?_⟩;injection h with h1 o
    subst h1;cases o;exact⟨by rw[l];rfl,j⟩
   ·exact⟨trivial,λ_ t d h=>by cases h⟩
  ·rename_i a;have:=Iw c b;simp only[AV.drp,An a]at this;exact⟨this.keeps hk,λ_ t d h=>by cases h⟩
 case ep m f i y off =>
  have:=Iw c b;simp only[AV.drp]at this;simp only[AV.frz];split
  ·exact⟨trivial,λ_ t d h=>by cases h⟩
  ·rename_i a;rw[An a]at this;exact⟨this.keeps hk,λ_ t d h=>by cases h⟩
 case nin m f i len =>
  have:=Iw c b;simp only[AV.drp]at this;simp only[AV.frz];split
  ·exact⟨trivial,λ_ t d h=>by cases h⟩
  ·rename_i a;rw[An a]at this;exact⟨this.keeps hk,λ_ t d h=>by cases h⟩
 case p t d=>exact⟨(Iw c b).keeps hk,λhp=>absurd rfl (hp t d)⟩
 all_goals
  have:=Iw c b;simp only[AV.drp]at this;simp only[AV.frz];exact⟨this.keeps hk,λ_ t d h=>by cases h⟩
theorem A5d (h:pU V V' n) (j:Pu V V' n e xs) {x:AV} {cs:List Value} (c:Nm V x cs):Nm V' (x.frz n e xs) cs:=by
 by_cases hp:∃t d,x=.p t d
 ·obtain⟨t,d,rfl⟩:=hp;simp only[AV.frz];have c:B0 V.w V.O t cs d:=c;have:B0 V'.w V'.O t cs d:=c.mono (λb _ i=>h.O b i) (λb _ _=>by rw[h.w]);exact this
 ·have k:∃v,cs=[v]/\v.oneCell'=true/\VL V x v:=by
   cases x;case p t d=>exact absurd ⟨t,d,rfl⟩ hp
   all_goals exact c
  obtain⟨v,rfl,h1,g⟩:=k;obtain⟨f,a⟩:=bI h j g;have a:=a (λt d e=>hp ⟨t,d,e⟩);generalize l:x.frz n e xs=y at f a;cases y;case p t d=>exact(a t d rfl).2
  all_goals exact⟨v,rfl,h1,f⟩
theorem Pv (h:pU V V' n) (b:Pu V V' n e xs):∀ {l:List AV} {cs:List Value},Dn V l cs->Dn V' (AV.frzs n e xs l) cs
 | [],cs,a=>(a:cs=[])
 | x :: r,cs,a=>by
  obtain⟨c1,c2,rfl,h1,c⟩:=a;simp only[AV.frzs];exact⟨c1,c2,rfl,A5d h b h1,Pv h b c⟩
theorem A5e (h:pU V V' n) (b:Pu V V' n e xs) {x:AV} {v:Value} (a:Sn V x v):Sn V' (x.frz n e xs) v:=by
 cases x;case ag l=>obtain⟨cs,h1,c⟩:=a;simp only[AV.frz];exact⟨cs,h1,Pv h b c⟩
 all_goals
  simp only[Sn]at a;exact Sn.of1 (bI h b a).1
theorem fP (h:pU V V' n) (c:Pu V V' n e xs):∀ {l:List AV} {a:List Value},Js V l a->Js V' (AV.frzs n e xs l) a
 | [],a,b=>(b:a=[])
 | x :: r,a,b=>by
  obtain⟨v,f,rfl,h1,d⟩:=b;simp only[AV.frzs];exact⟨v,f,rfl,A5e h c h1,fP h c d⟩
theorem pV (h:pU V V' n) (c:Pu V V' n e xs) {x:AV} {v:Value} (a:B7 V x v):B7 V' (x.frz n e xs) v:=by
 cases x;case ag l=>obtain⟨cs,h1,b⟩:=a;simp only[AV.frz];exact⟨cs,h1,Pv h c b⟩
 case tup l=>obtain⟨d,h1,b⟩:=a;simp only[AV.frz];exact⟨d,h1,fP h c b⟩
 all_goals
  simp only[B7]at a;exact A57 (bI h c a).1
end
theorem fQ (hs:Bv w0 K O0 nt ds σ ρ a w) (n:Nat) (N:¬Gq n=true) {U:Obj} (hn:lk n σ.objs=some U) {e:Ty} {xs:List e.den}
  (Q:pU (vw w O0 σ ρ) (vw w O0 ⟨DW n e xs σ.env,BB n e xs (del n σ.objs)⟩ ρ) n->Pu (vw w O0 σ ρ) (vw w O0 ⟨DW n e xs σ.env,BB n e xs (del n σ.objs)⟩ ρ) n e xs) :
  Bv w0 K O0 nt ds ⟨DW n e xs σ.env,BB n e xs (del n σ.objs)⟩ ρ a w:=by
 have F:∀m x,lk m (BB n e xs (del n σ.objs))=some x->m≠n/\∃y,lk m σ.objs=some y/\x=y.frz n e xs:=by
  intro m x d;rw[Cf,Re]at d;split at d
  ·simp at d
  ·rename_i B;simp only[If]at d;grind
 have h:∀m,HH ⟨DW n e xs σ.env,BB n e xs (del n σ.objs)⟩ m↔(HH σ m/\m≠n):=by
  intro m;constructor
  ·rintro⟨x,C⟩;obtain⟨h1,y,g,_⟩:=F m x C;exact⟨⟨y,g⟩,h1⟩
  ·rintro⟨⟨x,C⟩,B⟩;exact⟨x.frz n e xs,by simp[Cf,Re,B,C]⟩
 have hF:pU (vw w O0 σ ρ) (vw w O0 ⟨DW n e xs σ.env,BB n e xs (del n σ.objs)⟩ ρ) n:=by
  refine⟨rfl,rfl,λm h1 g=>(h m).2 ⟨h1,g⟩,λb f A=>?_,λb f A=>?_⟩
  ·rcases A with h0|⟨m,c,d⟩
   ·exact f (.inl h0)
   ·exact f (.inr ⟨m,((h m).1 c).1,d⟩)
  ·have f:bk (ρ n) b:=f;rcases A with h0|⟨m,c,d⟩
   ·exact(hs.free n b ⟨_,hn⟩ f).2 h0
   ·exact((h m).1 c).2 (hs.dist m n b ((h m).1 c).1 ⟨_,hn⟩ d f)
 have t:=Q hF;have P:∀p∈ds.pin,HH ⟨DW n e xs σ.env,BB n e xs (del n σ.objs)⟩ p.1/\ρ p.1=p.2/\(A8N p.2=true\/Gq p.1=true):=by
  intro p hp;obtain⟨h1,g,q⟩:=hs.pin p hp;refine⟨(h p.1).2 ⟨h1,λj=>?_⟩,g,q⟩;have q:A8N p.2=true:=q.resolve_right (by rw[j];exact N);have D:seat (ρ n):=t.seat;rw[<-j,g]at D;rcases D with ⟨_,_,_,E⟩|⟨_,E⟩<;>rw[E]at q<;>cases q
 refine⟨hs.frm,hs.nt,hs.defers,P,?_,?_,?_,?_⟩
 ·intro m x d;obtain⟨B,y,r,rfl⟩:=F m x d;have i:=hs.objs m y r;cases y with
  | arr u j J=>exact A8.keeps (V:=(vw w O0 σ ρ).but n) hF.keeps (λ_ _=>rfl) i
  | box u st fs =>
   obtain⟨h0,b,cs,c,hh,M⟩:=i;exact⟨λR=>by rw[S0];exact h0 R,b,cs,c,hh,Pv hF t M⟩
  | nest u S T j J c=>exact A8.keeps (V:=(vw w O0 σ ρ).but n) (o:=.nest u S T j J c) hF.keeps (λ_ _=>rfl) (M7 (V:=vw w O0 σ ρ) (V':=(vw w O0 σ ρ).but n) rfl rfl i)
  | mapo k v l=>exact A8.keeps (V:=(vw w O0 σ ρ).but n) hF.keeps (λ_ _=>rfl) i
  | frame ab fs =>
   obtain⟨h0,h1⟩:=i;refine⟨h0,λs z H=>?_⟩;simp only[NB,If]at H;obtain⟨y,r,rfl⟩:=H;exact pV hF t (h1 s y r)
  | loop L=>exact A8.keeps (V:=(vw w O0 σ ρ).but n) hF.keeps (λ_ _=>rfl) i
  | itr X aa Y Z W=>exact A8.keeps (V:=(vw w O0 σ ρ).but n) hF.keeps (λ_ _=>rfl) i
  | dfr=>exact A8.keeps (V:=(vw w O0 σ ρ).but n) hF.keeps (λ_ _=>rfl) i
 ·intro m b c f;exact hs.free m b ((h m).1 c).1 f
 ·intro m I b c O h1 g;exact hs.dist m I b ((h m).1 c).1 ((h I).1 O).1 h1 g
 ·intro s v G;simp only[NB,If]at G;obtain⟨y,r,rfl⟩:=G;exact pV hF t (hs.env s y r)
theorem A5f (hs:Bv w0 K O0 nt ds σ ρ a w) (n:Nat):Bv w0 K O0 nt ds (frz n σ) ρ a w:=by
 unfold frz;split
 ·exact hs
 rename_i b;cases hn:lk n σ.objs with
 | none=>exact hs
 | some d =>
 cases d with
 | box et st fs=>exact hs
 | mapo k v l=>exact hs
 | frame q fs=>exact hs
 | loop L=>exact hs
 | itr j p m o f=>exact hs
 | dfr=>exact hs
 | arr et e xs=>exact fQ hs n b hn λh=>h.arr (hs.objs n _ hn)
 | nest et g k e xs c =>
  cases c with
  | some i=>exact hs
  | none=>exact fQ hs n b hn λh=>h.nest (hs.objs n _ hn)
theorem Kk:∀ {l:List Nat} {σ:St},Bv w0 K O0 nt ds σ ρ a w->Bv w0 K O0 nt ds (Ct l σ) ρ a w
 | [],_,h=>h
 | n :: r,σ,h=>Kk (l:=r) (σ:=frz n σ) (A5f h n)
end
end
section
open Go Go.RowKit
section
variable {P:Program} {tb:Tb} {w0:World} {K O0:Nat->Prop} {nt:Nat} {ds:Fp} {σ σ':St} {ρ:Nat->Value} {a:Act} {w:World} {vc:Prop}
theorem A5g (hs:Bv w0 K O0 nt ds σ ρ a w) (bt:∀b,K b->b<w0.heap.size) (bu:∀b,O0 b->b<w0.heap.size) (hT:DH P tb) {d:Nat} (bz:d<nt) {t ty:TypeId} {x y:Operand} {n i len:Nat} {e:Ty} {v:AV}
  (cn:Ak σ x=some (.nin n e i len)) (co:Ak σ y=some v) {et el:TypeId} {k:Ty} {xs:List (k.den×List e.den)} (hn:lk n σ.objs=some (.nest et el k e xs none)) (cb:Gq n=false)
  (hu:P.underlying t=some (.slice el)) {te:TI} (ao:lk el tb.ty=some te) (ap:te.ty=e) (h:Ly σ d n et el k e xs i te.bytes (PZ σ e v)=some (vc,σ')) (ab:vc) :
  ∃z w' ρ',(Builtin.append_ #[t,t] ty #[a.eval x,a.eval y]).run P w=.ok z w'/\Bv w0 K O0 nt ds σ' ρ' (a.put (some d) z) w':=by
 have aw:GZ (vw w O0 σ ρ) σ a.eval:=Et hs.env;cases aq:PZ σ e v with
 | none=>rw[aq]at h;simp[Ly]at h
 | some ys =>
  rw[aq]at h;simp only[Ly]at h;split at h
  ·rename_i ax;have am:lk d σ.objs=none:=by simpa using ax.1
   cases h;obtain⟨ct,W⟩:=UZ hs.objs aq (aw y _ co);obtain⟨cx,cu,ad,c,U,J,E,cd,dd⟩:=aw x _ cn;have J:ρ n=.tuple cu:=J;have bf:=hs.objs n _ hn;have ay:=a9 (z:=(k.dflt,[])) bf J E;obtain⟨o,ins,cells,cl,C⟩:=bf;obtain rfl:=cl.tup J;have E:ins[i]?=some U:=by simpa using E
   obtain⟨c1,de,bx,ck,s⟩:=C.row i _ _ ay E;rcases s with ⟨s,_⟩|⟨_,cz,p,bh,N,ca⟩
   ·cases s
   generalize dc:xs.getD i (k.dflt,[])=row at *;obtain⟨z,w',Q,D,B,an,bg⟩:∃z w',(Builtin.append_ #[t,t] ty #[a.eval x,a.eval y]).run P w=.ok z w'/\w'.ownsRow 0 el e.size z (row.2.length+ys.length) (bh++ct)/\w.grownBy w' (blk U)/\row.2.length+ys.length<=AP/\(blk z=blk U\/∀b,blk z=some b->w.heap.size<=b):=by
    rcases cd with G|⟨G,ar,cm⟩
    ·rw[G];obtain⟨z,w',Q,D,B,an⟩:=Ga (ty:=ty) hT hu ao ap N W ab (IS _);have bg:=HX (ty:=ty) hT hu ao ap N W ab Q;rw[Ub N]at B;exact⟨z,w',Q,D,B,an,bg⟩
    ·subst G;have bd:=Kh N;have cj:row.2=[]:=UL bd.symm;have cc:bh=[]:=UL (by rw[N.1,<-bd,AFb]);subst cc;have cp:0<ys.length:=by
      cases ys with
      | nil=>simp at ax
      | cons _ _=>simp
     rw[cm];rw[cj]at ab ⊢;obtain⟨z,w',Q,D,B⟩:=Sr (ty:=ty) hT hu ao ap (xs:=([]:List e.den)) (a:=ar) (UY w (own O0 σ ρ) e ar 0) W cp ab;refine⟨z,w',Q,⟨D.1,D.2.imp (λh=>h) λ⟨g,cap,ah,e,_,r⟩=>⟨g,cap,ah,e,IS _,r⟩⟩,B,by simpa using W.max,.inr λb f=>?_⟩;rcases D.2 with ⟨h1,_⟩|⟨g,cap,ah,h1,q,_⟩
     ·rw[h1]at f;simp[blk]at f
     ·rw[h1]at f;simp[blk]at f;omega
   have Y:∀b,bk (ρ n) b↔blk o=some b\/∃(j:Nat) (u:Value),ins[j]?=some u/\blk u=some b:=λb=>by rw[J];exact A9
   have da:i<ins.length:=(UC.1 E).1;have be:n≠d:=λl=>by rw[l,am]at hn;cases hn
   generalize ba:(Value.tuple (o :: ins.set i (.slice none 0 0)).toArray)=loc;have af:Ei (Ei ρ n loc) d z n=loc:=by simp[Ei,be]
   have ae:Ei (Ei ρ n loc) d z d=z:=Bn _ _ _;have ag:∀m,m≠n->m≠d->Ei (Ei ρ n loc) d z m=ρ m:=λm h1 q=>by simp[Ei,h1,q]
   generalize Ei (Ei ρ n loc) d z=ρ' at af ae ag;have aa:∀(j:Nat) (u:Value),(ins.set i (.slice none 0 0))[j]?=some u->(j=i/\u=.slice none 0 0)\/(j≠i/\ins[j]?=some u):=by grind
   have av:∀b,bk loc b->blk o=some b\/∃(j:Nat) (u:Value),j≠i/\ins[j]?=some u/\blk u=some b:=by grind [A9,blk]
   have bw:∀b,bk loc b->bk (ρ n) b:=λb f=>(Y b).2 ((av b f).imp id λ⟨j,u,_,h1,q⟩=>⟨j,u,h1,q⟩);have Z:∀b,blk U=some b->bk (ρ n) b:=λb f=>(Y b).2 (.inr ⟨i,_,E,f⟩);have cy:∀b,bk z b->blk z=some b:=λb f=>by
    rcases D.2 with ⟨G,_⟩|⟨g,cap,ah,G,_⟩<;>rw[G]at f ⊢<;>exact L3.1 f
   have cs:∀b,bk z b->blk U=some b\/w.heap.size<=b:=λb f=>by grind
   have bb:∀b,bk (ρ n) b->b<w.heap.size:=λb f=>(hs.objs n _ hn).block_lt f;have db:∀b,bk loc b->blk U≠some b:=by
    intro b f G;rcases av b f with h1|⟨j,u,h1,q,s⟩
    ·exact C.out i b _ E G h1
    ·exact h1 (C.dist j i b u _ q E s G)
   have az:(row.2++ys).length=row.2.length+ys.length:=by simp
   let S:St:=⟨(d,.sr d e 0 (row.2.length+ys.length)) :: EY n [] σ.env,(d,.arr el e (row.2++ys)) :: (n,.nest et el k e xs (some i)) :: Ck n [] σ.objs⟩
   have au:∀m H,lk m S.objs=some H->(m=d/\H=.arr el e (row.2++ys))\/(m=n/\m≠d/\H=.nest et el k e xs (some i))\/(m≠d/\m≠n/\∃A,lk m σ.objs=some A/\H=A.trn n []):=by
    intro m H p;simp only[S,lk]at p;split at p
    ·rename_i l;cases p;exact .inl ⟨l,rfl⟩
    ·rename_i l;split at p
     ·rename_i ai;cases p;exact .inr (.inl ⟨ai,l,rfl⟩)
     ·rename_i ai;rw[DY]at p;split at p
      ·cases p
      ·simp only[If]at p;obtain⟨A,h1,rfl⟩:=p;exact .inr (.inr ⟨l,ai,A,h1,rfl⟩)
   have bv:∀m,m≠d->m≠n->∀A,lk m σ.objs=some A->lk m S.objs=some (A.trn n []):=by grind [lk,DY,Ac]
   have ch:∀b,b<w.heap.size->¬own O0 σ ρ b->¬own O0 S ρ' b:=by
    intro b f I cr;rcases cr with h0|⟨m,⟨H,cg⟩,L⟩
    ·exact I (.inl h0)
    ·rcases au m H cg with ⟨rfl,_⟩|⟨rfl,_,_⟩|⟨h1,q,A,s,_⟩
     ·rw[ae]at L;rcases cs b L with F|F
      ·exact I (.inr ⟨n,⟨_,hn⟩,Z b F⟩)
      ·omega
     ·rw[af]at L;exact I (.inr ⟨_,⟨_,hn⟩,bw b L⟩)
     ·rw[ag m q h1]at L;exact I (.inr ⟨m,⟨A,s⟩,L⟩)
   have ci:plc loc=o:=by rw[<-ba];rfl
   have X:Rh (vw w O0 σ ρ) (vw w' O0 S ρ') n []:=by
    refine⟨ch,λm p _=>?_,λm p _ cf=>?_,⟨_,J⟩,?_,λb f I=>B.block b f λl=>I (.inr ⟨n,⟨_,hn⟩,Z b l.symm⟩)⟩
    ·obtain⟨A,h1⟩:=p;by_cases bc:m=n
     ·subst bc;exact⟨.nest et el k e xs (some i),by simp[S,lk,be]⟩
     ·have ce:m≠d:=λl=>by rw[l,am]at h1;cases h1
      exact⟨_,bv m ce bc A h1⟩
    ·obtain⟨A,h1⟩:=p;exact ag m cf (λl=>by rw[l,am]at h1;cases h1)
    ·show plc (ρ' n)=plc (ρ n);rw[af,ci,J];rfl
   have M:Cb ⟨w,own O0 σ ρ,λ_=>False,ρ⟩ (vw w' O0 S ρ'):=⟨X.O,λ_ h=>h.elim,λ_ h=>h.elim,X.heap⟩;refine⟨z,w',ρ',Q,hs.swap bt bu (T:=λm=>m=n) (λm p=>by obtain rfl:m=n:=p;exact⟨cb,_,hn,by rw[J];exact .inr ⟨_,rfl⟩⟩) (new:=[(d,.arr el e (row.2++ys)),(n,.nest et el k e xs (some i))]) B.os B.tape B.output B.size ?_ ?_ ?_ ?_ ?_ ?_ ?_ ?_⟩
   ·exact λb f I=>B.block b f λl=>I n rfl (Z b l.symm)
   ·grind [lk]
   ·grind [lk]
   ·grind [lk]
   ·grind [lk]
   ·grind [bk,lk]
   ·intro m H p;rcases au m H p with ⟨rfl,rfl⟩|⟨rfl,_,rfl⟩|⟨h1,q,A,s,rfl⟩
    ·rw[ae];refine⟨by rw[az];exact an,_,by rw[az];exact D,?_⟩;exact Dx.keeps M (Kj ca W.elems N.1)
    ·rw[af];refine⟨o,ins.set i (.slice none 0 0),cells,.inl ba.symm,C.max,by rw[YG];exact C.len,JY (λb f=>B.block b (bb b ((Y b).2 (.inl f))) λl=>C.out i b _ E l.symm f) C.own,λj cv u h1 q=>?_,?_,?_⟩
     ·rcases aa j u q with ⟨rfl,rfl⟩|⟨s,F⟩
      ·rw[ay]at h1;cases h1;exact⟨c1,_,bx,B0.mono M.O M.heap ck,.inl ⟨by simp,rfl⟩⟩
      ·obtain⟨c2,bn,bo,bp,ak⟩:=C.row j cv u h1 F;rcases ak with ⟨ak,_⟩|⟨_,bq,br⟩
       ·cases ak
       ·refine⟨c2,bn,bo,B0.mono M.O M.heap bp,.inr ⟨ADC.2 (λl=>s (by injection l with l;exact l.symm)),bq,?_⟩⟩;exact OV.keeps (V:=⟨w,own O0 σ ρ,λ_=>False,ρ⟩) M (λb f=>B.block b (bb b ((Y b).2 (.inr ⟨j,u,F,f⟩))) λl=>s (C.dist j i b u _ F E f l.symm)) br
     ·intro bi bj b bl bm h1 q s F;rcases aa bi bl h1 with ⟨_,rfl⟩|⟨_,al⟩
      ·simp[blk]at s
      ·rcases aa bj bm q with ⟨_,rfl⟩|⟨_,bs⟩
       ·simp[blk]at F
       ·exact C.dist bi bj b bl bm al bs s F
     ·intro j b u h1 q;rcases aa j u h1 with ⟨_,rfl⟩|⟨_,al⟩
      ·simp[blk]at q
      ·exact C.out j b u al q
    ·rw[ag m q h1];refine pS X (λb f=>B.block b ((hs.objs m A s).block_lt f) λl=>q (hs.dist m n b ⟨_,s⟩ ⟨_,hn⟩ f (Z b l.symm))) (hs.objs m A s)
   ·intro s2 bn R;rw[Kg a d z s2 (by rw[hs.nt];exact bz)];simp only[S,lk]at R;split at R
    ·rename_i aj;cases R;rw[BY aj];refine⟨⟨.arr el e (row.2++ys),by simp[S,lk]⟩,?_⟩;show DG (plc (ρ' d)) e.size 0 _ z;rw[ae,HW D];exact Fi D
    ·rename_i aj;rw[An aj];rw[Fl]at R;simp only[If]at R;obtain⟨cw,cq,rfl⟩:=R;exact bH X (hs.env s2 cw cq)
  ·cases h
end
end
section
open Go Go.RowKit
theorem bJ {w:World} {et:TypeId} {sz len g m c:Nat} {cells:List Value} (h:w.ownsRow 0 et sz (.slice (some ⟨g,0,none⟩) m c) len cells) {p:Nat} (hp:p<len*sz) (v:Value) :
  ∃a:List Value,w.heap[g]?=some (.cells a.toArray et (0,0))/\p+1<=a.length/\(w.setRow g (A3 a p [v]).toArray).ownsRow 0 et sz (.slice (some ⟨g,0,none⟩) m c) len (cells.set p v):=by
 obtain⟨t,l⟩:=h;rcases l with ⟨d,_⟩|⟨y,cap,a,d,z,i,e,o,f,u⟩
 ·cases d
 ·injection d with b q r
  injection b with b
  injection b with b
  subst b;have A:len*sz<=cap*sz:=UP _ e;have B:a.toList.length=cap*sz:=by rw[<-f];simp
  have n:p + [v].length<=a.toList.length:=by simp only[To];omega
  have s:w.heap[g]?=some (.cells a.toList.toArray et (0,0)):=by simpa using i
  have k:A3 a.toList p [v]=a.toList.set p v:=by
   apply AEV;intro j;simp only[A3,UN,AAe,ON,US,ADg,To,ADz];have x:min p a.toList.length=p:=by omega
   simp only[x];by_cases c1:j<p
   ·grind
   ·grind
  refine⟨a.toList,s,by simpa using n,?_,.inr ⟨g,cap,_,by rw[q,r],IS _,setRow_heap w g _ _ et _ i,e,o,?_,?_⟩⟩
  ·rw[YG];exact t
  ·rw[k];simp[f]
  ·rw[k,<-u];simp[List.take_set]
section
variable {P:Program} {tb:Tb} {w0:World} {K O0:Nat->Prop} {nt:Nat} {ds:Fp} {σ σ':St} {ρ:Nat->Value} {a:Act} {w:World} {vc:Prop}
theorem A1I (hs:Bv w0 K O0 nt ds σ ρ a w) (bl:∀b,K b->b<w0.heap.size) (bm:∀b,O0 b->b<w0.heap.size) (hT:DH P tb) {id:TypeId} {ti:TI} (cg:lk id tb.ty=some ti) {x y:Operand} {n m i hi:Nat} {k e:Ty} (ch:ti.ty=.slice e) {cr:List Nat}
  (ci:Ak σ x=some (.ep n (.agg (.prod k (.slice e))) i cr k.size)) (cm:Ak σ y=some (.sr m e 0 hi)) {et B:TypeId} {xs:List (k.den×List e.den)} {ys:List e.den} (hn:lk n σ.objs=some (.nest et B k e xs (some i))) (G:lk m σ.objs=some (.arr B e ys))
  (bt:Gq n=false) (cy:Gq m=false) (dc:hi=ys.length) :
  ∃w' ρ',(Instr.storeAt id (a.eval x) (a.eval y)).run P w=.ok () w'/\Bv w0 K O0 nt ds ⟨EY n [m] σ.env,(n,.nest et B k e (xs.set i ((xs.getD i (k.dflt,[])).1,ys)) none) :: Ck n [m] σ.objs⟩ ρ' a w':=by
 have ar:GZ (vw w O0 σ ρ) σ a.eval:=Et hs.env;have cb:m≠n:=λd=>by rw[d,hn]at G;cases G
 obtain⟨cw,g,bd,c,al,bx,ck⟩:=ar x _ ci;obtain⟨cx,bg,cq,bh,N,_,da,ct,cu,dd,_,h0,_⟩:=ar y _ cm;obtain⟨o,ins,cells,az,t⟩:=hs.objs n _ hn;have ao:OV (vw w O0 σ ρ) B e ys (ρ m):=hs.objs m _ G;have aw:=hs.objs m _ G;have N:plc (ρ m)=.slice bg cq bh:=N;rw[Pj aw]at N;have cp:a.eval y=ρ m:=by
  obtain⟨rfl,rfl⟩:=h0 rfl;obtain⟨_,de,db,_⟩:=ao;grind [Kh]
 have al:plc (ρ n)=.slice (some ⟨g,0,none⟩) bd c:=al;have cc:o=.slice (some ⟨g,0,none⟩) bd c:=by rw[<-az.plc];exact al
 subst cc;have ca:=Kh t.own;subst ca;have M:i<xs.length:=bx;have aj:i<ins.length:=by rw[t.len];exact M
 have aa:ρ n=.tuple ((.slice (some ⟨g,0,none⟩) xs.length c) :: ins).toArray:=az.resolve_right λh=>by rw[h.2.2]at aj;simp at aj
 have hp:i*(k.size+1)+k.size<xs.length*(k.size+1):=by
  have:(i+1)*(k.size+1)<=xs.length*(k.size+1):=UP _ M;rw[ADU]at this;omega
 obtain⟨Q,bu,bq,Y⟩:=bJ t.own hp (ρ m);have ce:(ρ m).oneCell'=true:=by rw[N];rfl
 have W:(a.eval y).cells=#[ρ m]:=by rw[cp,N];rfl
 have ay:=MA (P:=P) (xv:=a.eval y) (hT _ _ cg) bu (off:=i*(k.size+1)+k.size) (by rw[W,ch];rfl) (by rw[W];simpa using bq) (by rw[W];intro u hu;simp at hu;subst hu;exact ce);rw[W]at ay;refine⟨_,Ei ρ n (.tuple ((.slice (some ⟨g,0,none⟩) xs.length c) :: ins.set i (ρ m)).toArray),by rw[ck];exact ay,?_⟩;have E:=F9 w g (A3 Q (i*(k.size+1)+k.size) [ρ m]).toArray;change Bv w0 K O0 nt ds _ _ a (w.setRow g (A3 Q (i*(k.size+1)+k.size) [ρ m]).toArray);have Y:(w.setRow g (A3 Q (i*(k.size+1)+k.size) [ρ m]).toArray).ownsRow 0 et (k.size+1) (.slice (some ⟨g,0,none⟩) xs.length c) xs.length (cells.set (i*(k.size+1)+k.size) (ρ m)):=Y;generalize w.setRow g (A3 Q (i*(k.size+1)+k.size) [ρ m]).toArray=w' at E Y;generalize av:(Value.tuple ((.slice (some ⟨g,0,none⟩) xs.length c) :: ins.set i (ρ m)).toArray)=loc;have ab:Ei ρ n loc n=loc:=Bn _ _ _;have ad:∀j,j≠n->Ei ρ n loc j=ρ j:=λj h1=>by simp[Ei,h1]
 generalize Ei ρ n loc=ρ' at ab ad;have aq:∀b,bk (ρ n) b↔blk (.slice (some ⟨g,0,none⟩) xs.length c)=some b\/∃(j:Nat) (u:Value),ins[j]?=some u/\blk u=some b:=λb=>by rw[aa];exact A9
 have Z:∀(j:Nat) (u:Value),(ins.set i (ρ m))[j]?=some u->(j=i/\u=ρ m)\/(j≠i/\ins[j]?=some u):=by grind
 have ag:∀b,blk (ρ m)=some b->bk (ρ m) b:=λb f=>.inl f;have bo:∀b,bk loc b->bk (ρ n) b\/blk (ρ m)=some b:=by grind [A9]
 have br:∀b,bk (ρ n) b->blk (ρ m)=some b->False:=λb h1 s=>cb (hs.dist m n b ⟨_,G⟩ ⟨_,hn⟩ (ag b s) h1);have ah:bk (ρ n) g:=(aq g).2 (.inl rfl);have bw:∀b,bk (ρ n) b->b<w.heap.size:=λb f=>(hs.objs n _ hn).block_lt f;have bz:∀b,blk (ρ m)=some b->b<w.heap.size:=λb f=>aw.block_lt (ag b f)
 let S:St:=⟨EY n [m] σ.env,(n,.nest et B k e (xs.set i ((xs.getD i (k.dflt,[])).1,ys)) none) :: Ck n [m] σ.objs⟩
 have ap:∀j C,lk j S.objs=some C->(j=n/\C=.nest et B k e (xs.set i ((xs.getD i (k.dflt,[])).1,ys)) none)\/(j≠n/\j≠m/\∃r,lk j σ.objs=some r/\C=r.trn n [m]):=by
  intro j C p;simp only[S,lk]at p;split at p
  ·grind
  ·rename_i d;rw[DY]at p;split at p
   ·cases p
   ·rename_i cv;simp only[If]at p;grind [Ac]
 have bn:∀j,j≠n->j≠m->∀r,lk j σ.objs=some r->lk j S.objs=some (r.trn n [m]):=by grind [lk,DY,Ac]
 have cf:∀b,b<w.heap.size->¬own O0 σ ρ b->¬own O0 S ρ' b:=by
  intro b f H co;rcases co with h0|⟨j,⟨C,cd⟩,U⟩
  ·exact H (.inl h0)
  ·rcases ap j C cd with ⟨rfl,_⟩|⟨h1,s,r,l,_⟩
   ·rw[ab]at U;rcases bo b U with v|v
    ·exact H (.inr ⟨_,⟨_,hn⟩,v⟩)
    ·exact H (.inr ⟨m,⟨_,G⟩,ag b v⟩)
   ·rw[ad j h1]at U;exact H (.inr ⟨j,⟨r,l⟩,U⟩)
 have R:Rh (vw w O0 σ ρ) (vw w' O0 S ρ') n [m]:=by
  refine⟨cf,λj p bv=>?_,λj _ _ ak=>ad j ak,⟨_,aa⟩,?_,λb f H=>E.block b f λd=>?_⟩
  ·obtain⟨r,h1⟩:=p;by_cases au:j=n
   ·exact⟨.nest et B k e (xs.set i ((xs.getD i (k.dflt,[])).1,ys)) none,by simp[S,lk,au]⟩
   ·exact⟨_,bn j au (λd=>by simp[Ac,d]at bv) r h1⟩
  ·show plc (ρ' n)=plc (ρ n);rw[ab,<-av,aa];rfl
  ·injection d with d
   subst d;exact H (.inr ⟨n,⟨_,hn⟩,ah⟩)
 have F:Cb ⟨w,own O0 σ ρ,λ_=>False,ρ⟩ (vw w' O0 S ρ'):=⟨R.O,λ_ h=>h.elim,λ_ h=>h.elim,R.heap⟩;have ai:∀b,b<w.heap.size->b≠g->w'.heap[b]?=w.heap[b]?:=λb h1 s=>E.block b h1 λd=>s (by injection d);refine hs.swap bl bm (T:=λj=>j=n\/j=m) (dst:=none) (u:=undef) (λj p=>?_) (new:=[(n,.nest et B k e (xs.set i ((xs.getD i (k.dflt,[])).1,ys)) none)]) E.os E.tape E.output E.size ?_ ?_ ?_ ?_ ?_ ?_ ?_ ?_
 ·rcases p with rfl|rfl
  ·exact⟨bt,_,hn,by rw[aa];exact .inr ⟨_,rfl⟩⟩
  ·grind [fO]
 ·grind
 ·grind [lk]
 ·grind [lk]
 ·grind [lk]
 ·grind [lk]
 ·grind [lk]
 ·intro j C p;rcases ap j C p with ⟨rfl,rfl⟩|⟨h1,s,r,l,rfl⟩
  ·rw[ab];have bp:cells.length=xs.length*(k.size+1):=t.own.1;refine⟨_,ins.set i (ρ m),cells.set (i*(k.size+1)+k.size) (ρ m),.inl av.symm,by rw[YG];exact t.max,by rw[YG,YG];exact t.len,by rw[YG];exact Y,λj an u h1 s=>?_,?_,?_⟩
   ·have bs:∀(c2:List Value) (D:Value),j≠i->c2.length=k.size->(∀(q:Nat) (z:Value),(c2++[D])[q]?=some z->cells[j*(k.size+1)+q]?=some z)->∀(q:Nat) (z:Value),(c2++[D])[q]?=some z->(cells.set (i*(k.size+1)+k.size) (ρ m))[j*(k.size+1)+q]?=some z:=by
     intro c2 D cz X I q z A;have am:=(UC.1 A).1;simp only[GO,To,X]at am;have ak:i*(k.size+1)+k.size≠j*(k.size+1)+q:=by
      intro d;rcases Nat.lt_or_ge i j with l|l
      ·have:(i+1)*(k.size+1)<=j*(k.size+1):=UP _ l;rw[ADU]at this;omega
      ·have:(j+1)*(k.size+1)<=i*(k.size+1):=UP _ (by omega);rw[ADU]at this;omega
     rw[ADz,An ak];exact I q z A
    rcases Z j u s with ⟨rfl,rfl⟩|⟨l,v⟩
    ·have cl:xs[j]?=some (xs.getD j (k.dflt,[])):=by
      rw[At M,AS,At M];rfl
     obtain⟨c2,D,I,J,_⟩:=t.row j _ ins[j] cl (At aj);have cj:an=((xs.getD j (k.dflt,[])).1,ys):=by
      rw[AEQ M]at h1;exact(Option.some.inj h1).symm
     subst cj;have X:c2.length=k.size:=J.length;refine⟨c2,ρ m,λq z A=>?_,B0.mono F.O F.heap J,.inr ⟨rfl,.inl rfl,?_⟩⟩
     ·have am:=(UC.1 A).1;simp only[GO,To,X]at am;rw[ADz];by_cases ax:q=k.size
      ·rw[ax,BY rfl,BY (by rw[bp];exact hp)];rw[ax,<-X,UT (NO _),AE3]at A;exact A
      ·rw[An (by omega)];refine I q z ?_;rw[UR (by omega)]at A ⊢;exact A
     ·exact OV.keeps (V:=⟨w,own O0 σ ρ,λ_=>False,ρ⟩) F (λb f=>ai b (bz b f) λd=>br b (by rw[d];exact ah) f) ao
    ·have h1:xs[j]?=some an:=by
      rw[ADz,An (λd=>l d.symm)]at h1;exact h1
     obtain⟨c2,D,I,J,ae⟩:=t.row j an u h1 v;rcases ae with ⟨ae,_⟩|⟨_,bi,bj⟩
     ·exact absurd (by simpa using ae) (λd:i=j=>l d.symm)
     ·refine⟨c2,D,bs c2 D l J.length I,B0.mono F.O F.heap J,.inr ⟨rfl,bi,?_⟩⟩;exact OV.keeps (V:=⟨w,own O0 σ ρ,λ_=>False,ρ⟩) F (λb f=>ai b (bw b ((aq b).2 (.inr ⟨j,u,v,f⟩))) λd=>t.out j b u v f (by rw[d];rfl)) bj
   ·intro bb bc b be bf h1 s l v;rcases Z bb be h1 with ⟨L,rfl⟩|⟨_,L⟩<;>rcases Z bc bf s with ⟨af,rfl⟩|⟨_,af⟩
    ·rw[L,af]
    ·grind
    ·grind
    ·exact t.dist bb bc b be bf L af l v
   ·intro j b u h1 s l;rcases Z j u h1 with ⟨_,rfl⟩|⟨_,L⟩
    ·grind
    ·exact t.out j b u L s l
  ·rw[ad j h1];refine pS R (λb f=>ai b ((hs.objs j r l).block_lt f) λd=>h1 (hs.dist j n b ⟨_,l⟩ ⟨_,hn⟩ f (by rw[d];exact ah))) (hs.objs j r l)
 ·intro s2 D ba;simp only[Fl,If]at ba;obtain⟨cs,cn,rfl⟩:=ba;exact bH R (hs.env s2 cs cn)
end
end
section
open Go Go.RowKit
section
variable {P:Program} {tb:Tb} {w0:World} {K O0:Nat->Prop} {nt:Nat} {ds:Fp} {σ σ':St} {ρ:Nat->Value} {a:Act} {w:World} {vc:Prop}
theorem Bv.swap1 (h:Bv w0 K O0 nt ds σ ρ a w) (I:∀b,K b->b<w0.heap.size) (J:∀b,O0 b->b<w0.heap.size) {tl:List Nat} (hT:∀n,n∈tl->Gq n=false/\∃o,lk n σ.objs=some o/\seat (ρ n))
  {e:Nat} (af:e∈tl\/lk e σ.objs=none) {j:Obj} {loc:Value} {w':World}
  (V:w'.os=w.os) (Z:w'.tape=w.tape) (W:w'.output=w.output) (X:w.heap.size<=w'.heap.size)
  (C:∀b,b<w.heap.size->(∀n,n∈tl->¬bk (ρ n) b)->w'.heap[b]?=w.heap[b]?)
  (Q:∀b,bk loc b->(∃m,m∈tl/\bk (ρ m) b)\/w.heap.size<=b)
  (U:∀V':Vw,V'.w=w'->Cb ⟨w,own O0 σ ρ,λ_=>False,ρ⟩ V'->A8 V' j loc)
  {d:Nat} (O:d<nt) {v:AV} {u:Value} (N:∀V':Vw,V'.L e->V'.ρ e=loc->B7 V' v u) :
  Bv w0 K O0 nt ds ⟨(d,v) :: Bu tl σ.env,(e,j) :: Ao tl tl σ.objs⟩ (Ei ρ e loc) (a.put (some d) u) w':=by
 let S:St:=⟨(d,v) :: Bu tl σ.env,(e,j) :: Ao tl tl σ.objs⟩
 have E:∀m o,lk m S.objs=some o->(m=e/\o=j)\/(m≠e/\m∉tl/\∃c,lk m σ.objs=some c/\o=c.fgt tl):=by
  intro m o f;simp only[S,lk]at f;split at f
  ·grind
  ·rename_i ad;rw[Bj]at f;split at f
   ·cases f
   ·rename_i ae;simp only[If]at f;grind [Af]
 have M:∀m,m≠e->m∉tl->∀c,lk m σ.objs=some c->lk m S.objs=some (c.fgt tl):=by grind [lk,Bj,Af]
 have G:∀m,m∉tl->(∃o,lk m σ.objs=some o)->m≠e:=by grind
 have r:Ei ρ e loc e=loc:=Bn _ _ _;have z:∀m,m≠e->Ei ρ e loc m=ρ m:=λm h1=>by simp[Ei,h1]
 generalize Ei ρ e loc=ρ' at r z;have H:∀b,b<w.heap.size->¬own O0 σ ρ b->¬own O0 S ρ' b:=by
  intro b l p ab;rcases ab with h0|⟨m,⟨o,R⟩,q⟩
  ·exact p (.inl h0)
  ·rcases E m o R with ⟨rfl,_⟩|⟨h1,i,c,g,_⟩
   ·rw[r]at q;rcases Q b q with ⟨t,Y,D⟩|D
    ·obtain⟨_,c,k,_⟩:=hT t Y;exact p (.inr ⟨t,⟨c,k⟩,D⟩)
    ·omega
   ·rw[z m h1]at q;exact p (.inr ⟨m,⟨c,g⟩,q⟩)
 have F:∀b,b<w.heap.size->¬own O0 σ ρ b->w'.heap[b]?=w.heap[b]?:=λb l p=>C b l λn hn B=>by
  obtain⟨_,c,k,_⟩:=hT n hn;exact p (.inr ⟨n,⟨c,k⟩,B⟩)
 have P:Cb ⟨w,own O0 σ ρ,λ_=>False,ρ⟩ (vw w' O0 S ρ'):=⟨H,λ_ h=>h.elim,λ_ h=>h.elim,F⟩;have hk:Cb ((vw w O0 σ ρ).buts tl) (vw w' O0 S ρ'):=by
  refine⟨H,λm f=>?_,λm f=>?_,F⟩
  ·obtain⟨⟨c,h1⟩,i⟩:=f;have g:m∉tl:=λh=>by rw[(Af _ _).2 h]at i;cases i
   exact⟨_,M m (G m g ⟨c,h1⟩) g c h1⟩
  ·obtain⟨⟨c,h1⟩,i⟩:=f;have g:m∉tl:=λh=>by rw[(Af _ _).2 h]at i;cases i
   exact z m (G m g ⟨c,h1⟩)
 refine h.swap I J (T:=λm=>m∈tl) hT (new:=[(e,j)]) V Z W X C ?_ ?_ ?_ ?_ ?_ ?_ ?_
 ·grind [lk]
 ·grind [lk]
 ·grind [lk]
 ·grind [lk]
 ·grind [lk]
 ·intro m o f;rcases E m o f with ⟨rfl,rfl⟩|⟨h1,i,c,g,rfl⟩
  ·rw[r];exact U _ rfl P
  ·rw[z m h1];refine Ua hk (λb l=>C b ((h.objs m c g).block_lt l) λn hn B=>?_) (h.objs m c g);obtain⟨_,ag,k,_⟩:=hT n hn;exact i ((h.dist m n b ⟨_,g⟩ ⟨_,k⟩ l B)▸hn)
 ·intro s x hs;rw[Kg a d u s (by rw[h.nt];exact O)];simp only[S,lk]at hs;split at hs
  ·rename_i A;cases hs;rw[BY A];exact N _ ⟨j,by simp[S,lk]⟩ r
  ·rename_i A;rw[An A];rw[EO]at hs;simp only[If]at hs;obtain⟨y,aa,rfl⟩:=hs;exact(Ps (h.env s y aa)).keeps hk
theorem aV.move {V:Vw} {a:TypeId} {k e:Ty} {hole:Bool} {cells cells':List Value} {i i':Nat} {x:k.den×List e.den} {u:Value} (h:aV V a k e hole cells i x u)
  (c:∀(j:Nat) (z:Value),cells[i*(k.size+1)+j]?=some z->cells'[i'*(k.size+1)+j]?=some z):aV V a k e hole cells' i' x u :=
 let ⟨c1,v,h1,b⟩:=h
 ⟨c1,v,λj z d=>c j z (h1 j z d),b⟩
theorem Yn {V V':Vw} {et E A:TypeId} {k e:Ty} {xs ys:List (k.den×List e.den)} {o D z:Value} {ins f cells m:List Value} (h1:LT V et A k e xs none o ins cells) (p:LT V E A k e ys none D f m)
  (r:∀b,bk (.tuple (o :: ins).toArray) b->bk (.tuple (D :: f).toArray) b->False)
  (K:V'.w.ownsRow 0 et (k.size+1) z (xs.length+ys.length) (cells++m)) (L:blk z=blk o\/∀b,blk z=some b->V.w.heap.size<=b)
  (B:∀b,b<V.w.heap.size->blk o≠some b->V'.w.heap[b]?=V.w.heap[b]?) (hk:Cb ⟨V.w,V.O,λ_=>False,V.ρ⟩ V') (I:xs.length+ys.length<=AP) :
  LT V' et A k e (xs++ys) none z (ins++f) (cells++m):=by
 have F:cells.length=xs.length*(k.size+1):=h1.own.1;have G:∀(i b:Nat) (u:Value),ins[i]?=some u->blk u=some b->b<V.w.heap.size:=λi b u hi c=>h1.block_lt (A9.2 (.inr ⟨i,u,hi,c⟩));have H:∀(i b:Nat) (u:Value),f[i]?=some u->blk u=some b->b<V.w.heap.size:=λi b u hi c=>p.block_lt (A9.2 (.inr ⟨i,u,hi,c⟩));have C:∀(i b:Nat) (u:Value),f[i]?=some u->blk u=some b->blk o≠some b:=λi b u hi c J=>r b (A9.2 (.inl J)) (A9.2 (.inr ⟨i,u,hi,c⟩));have y:∀(i:Nat) (u:Value),(ins++f)[i]?=some u->(i<xs.length/\ins[i]?=some u)\/(xs.length<=i/\f[i-xs.length]?=some u):=by
  intro i u hi;rw[AAe]at hi;split at hi
  ·rename_i h;rw[h1.len]at h;exact .inl ⟨h,hi⟩
  ·rename_i h;rw[h1.len]at h hi;exact .inr ⟨by omega,hi⟩
 have M:∀b,blk z=some b->(∃(i:Nat) (u:Value),ins[i]?=some u/\blk u=some b)\/(∃(i:Nat) (u:Value),f[i]?=some u/\blk u=some b)->False:=by
  intro b c hi;rcases L with d|d
  ·rw[d]at c;rcases hi with ⟨i,u,a,g⟩|⟨i,u,a,g⟩
   ·exact h1.out i b u a g c
   ·exact C i b u a g c
  ·grind
 refine⟨by rw[GO];exact I,by rw[GO,GO,h1.len,p.len],by rw[GO];exact K,λi x u l hu=>?_,λi j b u v hi s hu q=>?_,λi b u hi c N=>?_⟩
 ·rcases y i u hu with ⟨d,a⟩|⟨d,a⟩
  ·have l:xs[i]?=some x:=by rwa [UR d]at l
   have t:=(h1.row i x u l a).move (cells':=cells++m) (i':=i) λj z s=>by grind
   exact aV.keeps (V:=⟨V.w,V.O,λ_=>False,V.ρ⟩) hk (λb c=>B b (G i b u a c) (h1.out i b u a c)) t
  ·have l:ys[i-xs.length]?=some x:=by rwa [UT d]at l
   have t:=(p.row _ x u l a).move (cells':=cells++m) (i':=i) λj z s=>by
    have g:i*(k.size+1)=cells.length+(i-xs.length)*(k.size+1):=by
     rw[F,<-AET];congr 1;omega
    grind
   exact aV.keeps (V:=⟨V.w,V.O,λ_=>False,V.ρ⟩) hk (λb c=>B b (H _ b u a c) (C _ b u a c)) t
 ·rcases y i u hi with ⟨d,a⟩|⟨d,a⟩<;>rcases y j v s with ⟨g,n⟩|⟨g,n⟩
  ·exact h1.dist i j b u v a n hu q
  ·exact(r b (A9.2 (.inr ⟨i,u,a,hu⟩)) (A9.2 (.inr ⟨_,v,n,q⟩))).elim
  ·exact(r b (A9.2 (.inr ⟨j,v,n,q⟩)) (A9.2 (.inr ⟨_,u,a,hu⟩))).elim
  ·have:=p.dist _ _ b u v a n hu q;omega
 ·grind
theorem A1J (V:Vw) (et a:TypeId) (k e:Ty):LT V et a k e [] none (.slice none 0 0) [] [] :=
 ⟨by simp[AP],rfl,AEy V.w 0 et _,λi x u h=>by simp at h,λi j b u v h=>by simp at h,λi b u h=>by simp at h⟩
theorem Ix {w:World} {base:Nat} {et:TypeId} {sz b n:Nat} {loc v:Value} {cells:List Value} (f:w.ownsRow base et sz loc n cells) (h:DG loc b 0 n v):v=loc:=by
 obtain⟨a,m,c,rfl,_,_,d,e,rfl,_,h0,_⟩:=h;grind [Kh]
theorem A5h {w:World} {O:Nat->Prop} {et:TypeId} {e:Ty} {xs:List e.den} {loc:Value} {cells:List Value} (d:xs.length<=AP) (a:w.ownsRow 0 et e.size loc xs.length cells) (c:Dx w O e cells xs):Src w O e loc xs cells:=by
 refine⟨?_,a.1,c,Yi (V:=⟨w,O,λ_=>False,λ_=>undef⟩) a c,d⟩;rcases a.2 with ⟨b,hn⟩|⟨g,cap,f,b,_⟩
 ·grind
 ·subst b;exact⟨some ⟨g,0,none⟩,cap,rfl,.inr ⟨_,rfl,a.cells (g:=g) rfl⟩⟩
theorem Pw {V:Vw} {et a:TypeId} {k e:Ty} {xs:List (k.den×List e.den)} {o:Value} {ins cells:List Value} (h:LT V et a k e xs none o ins cells):Src V.w (λ_=>False) (.agg (.prod k (.slice e))) o xs cells :=
 A5h (e:=.agg (.prod k (.slice e))) (xs:=xs) h.max h.own (OY (λ_ _ h=>h) h λ_ _ _ _ _ h=>h)
theorem Ri {V:Vw} {et c:TypeId} {k e:Ty} {xs:List (k.den×List e.den)} {a:Option Nat} {loc:Value} (b:A8 V (.nest et c k e xs a) loc):seat loc:=by
 obtain⟨o,ins,cells,a,_⟩:=b;exact a.elim (λh=>.inr ⟨_,h⟩) (λh=>.inl ⟨_,_,_,h.1⟩)
theorem A1K (hs:Bv w0 K O0 nt ds σ ρ a w) (T:∀b,K b->b<w0.heap.size) (V:∀b,O0 b->b<w0.heap.size) (hT:DH P tb) {d:Nat} (W:d<nt) {t ty:TypeId} {x y:Operand} {n m hi C:Nat} {E A:Ty} {k e:Ty}
  (f:Ak σ x=some (.sr n E 0 hi)) (g:Ak σ y=some (.sr m A 0 C)) {et R v:TypeId} {xs ys:List (k.den×List e.den)} (hn:lk n σ.objs=some (.nest et v k e xs none)) (D:lk m σ.objs=some (.nest R v k e ys none)) (Z:n≠m)
  (ah:Gq n=false) (ag:Gq m=false) (hu:P.underlying t=some (.slice et)) {te:TI} (J:lk et tb.ty=some te) (L:te.ty=.agg (.prod k (.slice e))) (ab:hi=xs.length) (ad:C=ys.length) (M:(xs.length+ys.length)*te.bytes<=AP) :
  ∃z w' ρ',(Builtin.append_ #[t,t] ty #[a.eval x,a.eval y]).run P w=.ok z w' /\
   Bv w0 K O0 nt ds ⟨(d,.sr n (.agg (.prod k (.slice e))) 0 (xs.length+ys.length)) :: Bu [n,m] σ.env,(n,.nest et v k e (xs++ys) none) :: Ao [n,m] [n,m] σ.objs⟩ ρ' (a.put (some d) z) w':=by
 subst ab ad;have B:GZ (vw w O0 σ ρ) σ a.eval:=Et hs.env;have F:=hs.objs n _ hn;have G:=hs.objs m _ D;have aj:=Ri F;have ak:=Ri G;obtain⟨o,ins,cells,p,l⟩:=F;obtain⟨al,O,Q,s,q⟩:=G;obtain⟨_,f⟩:=B x _ f;obtain⟨_,g⟩:=B y _ g;have f:DG (plc (ρ n)) E.size 0 xs.length (a.eval x):=f;have g:DG (plc (ρ m)) A.size 0 ys.length (a.eval y):=g;rw[p.plc]at f;rw[s.plc]at g;have f:=Ix l.own f;have g:=Ix q.own g;rw[f,g];obtain⟨z,w',I,H,h,X⟩:=Ga (ty:=ty) hT hu J L l.own (Pw q) M (IS _);have N:=HX (ty:=ty) hT hu J L l.own (Pw q) M I;rw[Ub l.own]at h;refine⟨z,w',_,I,hs.swap1 (loc:=.tuple (z :: (ins++O)).toArray) T V (tl:=[n,m]) (λj ai=>?_) (.inl (by simp)) h.os h.tape h.output h.size ?_ ?_ ?_ W ?_⟩
 ·grind
 ·exact λb c aa=>h.block b c λr=>aa n (by simp) (p.bk.2 (A9.2 (.inl r.symm)))
 ·intro b c;rcases A9.1 c with c|⟨i,u,hi,c⟩
  ·rcases N with h1|h1
   ·exact .inl ⟨n,by simp,p.bk.2 (A9.2 (.inl (by rw[<-h1];exact c)))⟩
   ·exact .inr (h1 b c)
  ·rw[AAe]at hi;split at hi
   ·exact .inl ⟨n,by simp,p.bk.2 (A9.2 (.inr ⟨_,u,hi,c⟩))⟩
   ·exact .inl ⟨m,by simp,s.bk.2 (A9.2 (.inr ⟨_,u,hi,c⟩))⟩
 ·intro V' ae hk;subst ae;refine⟨z,ins++O,cells++Q,.inl rfl,Yn l q (λb h1 S=>?_) H N (λb c Y=>h.block b c λr=>Y r.symm) hk X⟩;exact Z (hs.dist n m b ⟨_,hn⟩ ⟨_,D⟩ (p.bk.2 h1) (s.bk.2 S))
 ·intro V' U af;refine⟨U,?_⟩;show DG (plc (V'.ρ n)) _ 0 _ z;rw[af];exact Fi H
theorem A5i (hs:Bv w0 K O0 nt ds σ ρ a w) (M:∀b,K b->b<w0.heap.size) (O:∀b,O0 b->b<w0.heap.size) (hT:DH P tb) {d:Nat} (Q:d<nt) {t ty:TypeId} {x y:Operand} {m v:Nat} {q:Ty} {k e:Ty}
  (o:Ak σ x=some (.raw (.slice none 0 0))) (f:Ak σ y=some (.sr m q 0 v)) {et L p:TypeId} {ys:List (k.den×List e.den)} (S:lk m σ.objs=some (.nest L p k e ys none)) (R:lk d σ.objs=none)
  (Z:Gq m=false) (hu:P.underlying t=some (.slice et)) {te:TI} (E:lk et tb.ty=some te) (F:te.ty=.agg (.prod k (.slice e))) (V:v=ys.length) (G:ys.length*te.bytes<=AP) :
  ∃z w' ρ',(Builtin.append_ #[t,t] ty #[a.eval x,a.eval y]).run P w=.ok z w' /\
   Bv w0 K O0 nt ds ⟨(d,.sr d (.agg (.prod k (.slice e))) 0 ys.length) :: Bu [m] σ.env,(d,.nest et p k e ys none) :: Ao [m] [m] σ.objs⟩ ρ' (a.put (some d) z) w':=by
 subst V;have s:GZ (vw w O0 σ ρ) σ a.eval:=Et hs.env;have A:=hs.objs m _ S;have ad:=Ri A;obtain⟨ae,I,J,D,l⟩:=A;have o:a.eval x=.slice none 0 0:=s x _ o;obtain⟨_,f⟩:=s y _ f;have f:DG (plc (ρ m)) q.size 0 ys.length (a.eval y):=f;rw[D.plc]at f;have f:=Ix l.own f;rw[o,f];have h:=A1J (vw w O0 σ ρ) et p k e;obtain⟨z,w',C,B,g,T⟩:=Ga (ty:=ty) hT hu E F h.own (Pw l) (by simpa using G) (IS _);have H:=HX (ty:=ty) hT hu E F h.own (Pw l) (by simpa using G) C;rw[Ub h.own]at g;refine⟨z,w',_,C,hs.swap1 (loc:=.tuple (z :: ([]++I)).toArray) M O (tl:=[m]) (λj aa=>?_) (.inr R) g.os g.tape g.output g.size ?_ ?_ ?_ Q ?_⟩
 ·grind
 ·exact λb c ab=>g.block b c λn=>by simp[blk]at n
 ·intro b c;rcases A9.1 c with c|⟨i,u,hi,c⟩
  ·rcases H with h1|h1
   ·grind [blk]
   ·exact .inr (h1 b c)
  ·exact .inl ⟨m,by simp,D.bk.2 (A9.2 (.inr ⟨_,u,by simpa using hi,c⟩))⟩
 ·intro V' W hk;subst W;refine⟨z,[]++I,[]++J,.inl rfl,?_⟩;have:=Yn h l (λb h1 Y=>?_) B H (λb c U=>g.block b c λn=>U n.symm) hk T
  ·simpa using this
  ·grind [A9,blk]
 ·intro V' N X;refine⟨N,?_⟩;show DG (plc (V'.ρ d)) _ 0 _ z;rw[X];have r:=Fi B;simp only[ADw,ADK]at r;exact r
theorem lL (hs:Bv w0 K O0 nt ds σ ρ a w) (s:∀b,K b->b<w0.heap.size) (A:∀b,O0 b->b<w0.heap.size) (hT:DH P tb) {d:Option Nat} (B:∀k,d=some k->k<nt) {t u ty:TypeId} {x y:Operand}
  (h:DN tb σ d t u (Ak σ x) (Ak σ y)=some (vc,σ')) (q:vc) :
  ∃z w' ρ',(Builtin.append_ #[t,u] ty #[a.eval x,a.eval y]).run P w=.ok z w'/\Bv w0 K O0 nt ds σ' ρ' (a.put d z) w':=by
 by_cases M:∃n e hi,Ak σ x=some (.sr n e 0 hi)/\Cs (lk n σ.objs)=false
 ·exact lK hs s A hT B h q M
 unfold DN at h;split at h
 ·rename_i n e hi v j r;split at h
  ·rename_i d;split at h
   ·rename_i p;obtain⟨rfl,I⟩:=p;cases f:lk t tb.ty with
    | none=>rw[f]at h;simp[Er]at h
    | some ti =>
     rw[f]at h;unfold Er at h;split at h
     ·rename_i Q offs el b F;cases F;split at h
      ·rename_i G;subst G;obtain⟨hu,N,te,g,o⟩:=CM (hT _ _ f) hT;rw[g]at h;unfold Ci at h;split at h
       ·rename_i ti et L xs h1 hn;exact absurd ⟨n,_,hi,j,by rw[hn];rfl⟩ M
       ·rename_i ti et O k L xs h1 hn;cases h1;split at h
        ·rename_i c;obtain⟨rfl,rfl⟩:=c;unfold Sm at h;split at h
         ·rename_i m E V;unfold L1 at h;split at h
          ·rename_i S ad aa R ys J;split at h
           ·rename_i c;obtain⟨rfl,W,H⟩:=c;cases D:BW (.slice (.agg (.prod k (.slice L)))) ⟨.slice (.agg (.prod aa (.slice R))),ys⟩ with
            | none=>rw[D]at h;simp[Kb]at h
            | some af =>
             obtain⟨l,T⟩:=Bq D;injection l with l
             injection l with l C
             injection C with C
             subst l C;cases T;rw[D]at h;simp only[Kb]at h;cases h;obtain⟨X,Y,Z⟩:=q;exact A1K hs s A hT (B _ rfl) j r hn J W I H hu g o X Y Z
           ·cases h
          ·cases h
         ·cases h
        ·cases h
       ·cases h
      ·cases h
     ·cases h
   ·cases h
  ·cases h
 ·rename_i n e i len v j r;split at h
  ·rename_i d;split at h
   ·rename_i p;subst p;cases f:lk t tb.ty with
    | none=>rw[f]at h;simp[Nw]at h
    | some ti =>
     rw[f]at h;unfold Nw at h;split at h
     ·rename_i Q offs el b F;cases F;split at h
      ·rename_i G;subst G;obtain⟨hu,N,te,g,o⟩:=CM (hT _ _ f) hT;rw[g]at h;unfold Pf at h;split at h
       ·rename_i ti et O k ab xs h1 hn;cases h1;split at h
        ·rename_i c;obtain⟨rfl,rfl,I⟩:=c;exact A5g hs s A hT (B _ rfl) j r hn I hu g o h q
        ·cases h
       ·cases h
      ·cases h
     ·cases h
   ·cases h
  ·cases h
 ·rename_i v j r;split at h
  ·rename_i d;split at h
   ·rename_i p;subst p;unfold aR at h;split at h
    ·rename_i m E V ae offs el b f;obtain⟨hu,N,te,g,o⟩:=CM (hT _ _ f) hT;rw[g]at h;unfold Ph at h;split at h
     ·rename_i ti S O k e ys h1 J;cases h1;split at h
      ·rename_i c;subst c;unfold Pg at h;split at h
       ·rename_i c;obtain⟨U,H⟩:=c;cases h;exact A5i hs s A hT (B _ rfl) j r J (by simpa using U) H hu g o q.1 q.2
       ·cases h
      ·cases h
     ·cases h
    ·cases h
   ·cases h
  ·cases h
 ·cases h
theorem lM (hs:Bv w0 K O0 nt ds σ ρ a w) (t:∀b,K b->b<w0.heap.size) (u:∀b,O0 b->b<w0.heap.size) (hT:DH P tb) {id:TypeId} {x y:Operand} (h:Hn σ (lk id tb.ty) (Ak σ x) (Ak σ y)=some (vc,σ')) (G:vc) :
  ∃w' ρ',(Instr.storeAt id (a.eval x) (a.eval y)).run P w=.ok () w'/\Bv w0 K O0 nt ds σ' ρ' a w':=by
 by_cases C:∃n e i o off,Ak σ x=some (.ep n e i o off)/\Cs (lk n σ.objs)=true
 ·obtain⟨n,e,i,o,off,g,f⟩:=C;unfold Hn at h;split at h
  ·grind
  ·rename_i ti N I i' Q O v D l H;rw[g]at l;cases l;unfold Dk at h;split at h
   ·rename_i hn;rw[hn]at f;cases f
   ·rename_i et L k J xs j hn;split at h
    ·rename_i m E hi;split at h
     ·rename_i c;obtain⟨rfl,rfl,s⟩:=c;subst s;unfold L2 at h;split at h
      ·rename_i c;obtain⟨F,rfl,rfl⟩:=c;unfold Lz at h;split at h
       ·rename_i M p ys B;split at h
        ·rename_i c;obtain⟨rfl,z,A⟩:=c;cases d:BW (.slice E) ⟨.slice p,ys⟩ with
         | none=>rw[d]at h;simp[Ka]at h
         | some R =>
          obtain⟨q,r⟩:=Bq d;subst q;cases r;rw[d]at h;simp only[Ka]at h;cases h;exact A1I hs t u hT D F g H hn B A z G
        ·cases h
       ·cases h
      ·cases h
     ·cases h
    ·cases h
   ·cases h
  ·cases h
 ·grind [y3,Cs,lk]
end
end
end Go.Proofs.YtapkhdkbkodbjaaGreat.Fw
