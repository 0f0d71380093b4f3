/- Calls by contract; stores; appends. -/
import Derived.Test.YtapkhdkbkodbjaaGreatCZC
import Derived.CallsIn
import Derived.TacticsIn
import Derived.OrdersIn
import Derived.RangeFuncCalls
set_option linter.unusedVariables false
set_option linter.unusedSimpArgs false
namespace Go.Proofs.YtapkhdkbkodbjaaGreat.Fw
section
open Go Go.RowKit
def QM (w:World) (O:Nat->Prop):(ts:List Ty)->List Value->Kk ts->Prop
 | [],a,_=>a=[]
 | t :: ts,a,ds=>∃(v:Value) (r:List Value),a=v :: r/\BS w O t v ds.1/\QM w O ts r ds.2
def FR (r:Option Nat):Fence:={ fn:=λ_=>True,depth:=none,alive:=false,round:=r }
theorem Ov {r:Option Nat} {n:Nat} {P:Program} {f:FuncId} {args:Array Value} {w:World} {R:Ending->World->Prop} (h:Calls P f args w R):CallsIn (FR r) n P f args w R:=by
 cases r with
 | none=>exact callsIn_wide.2 h
 | some l=>exact((callsIn_wide.2 h:CallsIn Fence.wide n P f args w R).inRound l:CallsIn _ n P f args w R)
theorem G8 (r:Option Nat) (ρ:Operand->Value) (o:Oper) (h:∀c,o.op≠.defer c):o.semAt r ρ=execOp ρ o:=by
 cases r with
 | none=>exact Oper.semAt_none ρ o
 | some l=>exact Oper.semAt_some l ρ o h
def A3n (w:World) (O:Nat->Prop) (outs:List RV) (u:Value) (w':World):Prop :=
 ∀nm:Nat,∃ρ',QS w O ⟨[],[]⟩ (λ_=>undef) (HY nm outs) (Cq nm outs) u ρ' w'
def AAN (P:Program) (f:FuncId) (sp:AZ):Prop :=
 ∀(w:World) (O:Nat->Prop) (a:List Value) (ds:Kk sp.ins),(∀b,O b->b<w.heap.size)->QM w O sp.ins a ds->sp.pre ds ->
  Calls P f a.toArray w λe w'=>∃u,e=.returned u/\A3n w O (sp.out ds) u w'
def Ad (P:Program) (f:FuncId) (sp:AZ):Prop :=
 (∃ fn : Func, P.funcs[f]? = some fn /\ (fn.name == "runtime.NumGoroutine") = false /\ fn.body.isNone = false) /\ AAN P f sp
def JD (P:Program) (tb:Tb):Prop:=∀f sp,lk f tb.fns=some sp->Ad P f sp
theorem QN {w w':World} {O O':Nat->Prop}:∀ {t:Ty} {cs:List Value} {d:t.den},t.flat=true->B0 w O t cs d->B0 w' O' t cs d
 | .int _,_,_,_,h=>h
 | .bool,_,_,_,h=>h
 | .str,_,_,_,h=>h
 | .ref _,_,_,_,h=>h
 | .slice _,_,_,hf,_=>by simp[Ty.flat]at hf
 | .prod a b,_,_,hf,h=>by
  simp only[Ty.flat,An]at hf;obtain⟨c1,c2,rfl,h1,c⟩:=h;exact⟨c1,c2,rfl,QN hf.1 h1,QN hf.2 c⟩
 | .agg t,cs,d,hf,h=>by
  simp only[Ty.flat]at hf;have h:B0 w O t cs d:=h;exact(QN hf h:B0 w' O' t cs d)
theorem Zg {w w':World} {O O':Nat->Prop} {t:Ty} {v:Value} {d:t.den} (hf:t.flat=true) (h:BS w O t v d):BS w' O' t v d :=
 let ⟨cs,h1,a⟩:=h
 ⟨cs,QN hf h1,a⟩
theorem S2:∀ {l:List RV} (nm:Nat),l.all RV.flat=true->Cq nm l=[]
 | [],_,_=>rfl
 | .p t d :: l,nm,h=>by
  simp only[AAk,An]at h;simp[Cq,Sp,S2 (nm+10000) h.2]
 | .own _ _ _ :: l,nm,h=>by simp[RV.flat]at h
theorem A3o {r:RV} (h:r.flat=true) (nm:Nat):∃t d,g9 nm r=.p t d/\t.flat=true:=by
 cases r with
 | p t d=>exact⟨t,d,rfl,h⟩
 | own _ _ _=>simp[RV.flat]at h
theorem A3p {V V':Vw}:∀ {l:List RV} {nm:Nat} {a:List Value},l.all RV.flat=true->IB V (H5 nm l) a->IB V' (H5 nm l) a
 | [],_,_,_,h=>h
 | r :: l,nm,a,hf,h=>by
  simp only[AAk,An]at hf;obtain⟨v,f,rfl,h1,b⟩:=h;obtain⟨t,d,e,c⟩:=A3o hf.1 nm;refine⟨v,f,rfl,?_,A3p hf.2 b⟩;rw[e]at h1 ⊢;exact Zg c h1
theorem A3q {V V':Vw} {l:List RV} {nm:Nat} {u:Value} (hf:l.all RV.flat=true) (h:B3 V (HY nm l) u):B3 V' (HY nm l) u:=by
 match l,hf,h with
 | [],_,h=>exact h
 | [r],hf,h =>
  simp only[AAk,List.all_nil,AGm]at hf;obtain⟨t,d,e,a⟩:=A3o hf nm;simp only[HY]at h ⊢;rw[e]at h ⊢;exact Zg a h
 | c :: f :: l,hf,h =>
  obtain⟨b,rfl,h1⟩:=h;exact⟨b,rfl,A3p hf h1⟩
section
variable {P:Program} {tb:Tb} {w:World} {O0:Nat->Prop} {σ:St} {ρ:Nat->Value} {vc:Prop} {v:AV} {obs:List (Nat×Obj)}
theorem QS.call {outs:List RV} {nm:Nat} {u:Value} {ρ':Nat->Value} {w':World} (hf:Bd (Cq nm outs) σ=true)
  (h:QS w (own O0 σ ρ) ⟨[],[]⟩ (λ_=>undef) (HY nm outs) (Cq nm outs) u ρ' w') :
  QS w O0 σ ρ (HY nm outs) (Cq nm outs) u (λn=>if (lk n (Cq nm outs)).isSome then ρ' n else ρ n) w':=by
 have e:∀n,HL (EO ⟨[],[]⟩ (Cq nm outs)) n↔∃o,lk n (Cq nm outs)=some o:=λn=>by simp[HL,EO]
 have hk:Cs (vw w' (own O0 σ ρ) (EO ⟨[],[]⟩ (Cq nm outs)) ρ') (vw w' O0 (EO σ (Cq nm outs)) (λn=>if (lk n (Cq nm outs)).isSome then ρ' n else ρ n)):=by
  refine⟨?_,?_,?_,λ_ _ _=>rfl⟩
  .intro b _ c d;rcases d with h0|⟨n,hl,hn⟩
   .exact c (.inl (.inl h0))
   rcases L6 hl with ⟨o,a⟩|⟨i,g⟩
   .refine c (.inr ⟨n,(e n).2 ⟨o,a⟩,?_⟩);simpa[a] using hn
   refine c (.inl (.inr ⟨n,g,?_⟩));simpa[i] using hn
  .intro n hn;obtain⟨o,a⟩:=(e n).1 hn;exact⟨o,by simp[EO,A6,a]⟩
  intro n hn;obtain⟨o,a⟩:=(e n).1 hn;simp[vw,a]
 refine⟨h.below,λn hn=>by simp[hn],h.av.keeps hk,λn o a=>?_,λn o b a c=>?_,λn m o j b a f c d=>?_⟩
 .simp only[a,AFY,ZU];exact(h.obj n o a).keeps hk (λ_ _=>rfl)
 .simp only[a,AFY,ZU]at c;exact h.new n o b a c
 simp only[a,f,AFY,ZU]at c d;exact h.dist n m o j b a f c d
theorem cV {V:Vw} {O':Nat->Prop} {l:Bool} (a:∀b,¬V.O b->¬O' b) (e:l=true->∀b,¬O' b) (d:∀n o,lk n σ.objs=some o->A4 V o (V.ρ n)) {ev:Operand->Value} (c:Hg V σ ev) :
  ∀ {ts:List Ty} {xs:List Operand} {ds:Kk ts},GQ l σ ts xs=some ds->QM V.w O' ts (xs.map ev) ds
 | [],[],ds,h=>rfl
 | [],_ :: _,ds,h=>by simp[GQ]at h
 | _ :: _,[],ds,h=>by simp[GQ]at h
 | t :: ts,x :: xs,ds,h=>by
  simp only[GQ]at h;cases hx:Aq σ x with
  | none=>rw[hx]at h;cases h
  | some av =>
   rw[hx]at h;simp only at h;split at h
   .rename_i y ys f g;cases h;exact⟨ev x,xs.map ev,rfl,Lg a e d f (c x av hx),cV a e d c g⟩
   cases h
theorem AAO (G:JD P tb) (y:∀n o,lk n σ.objs=some o->A4 (vw w O0 σ ρ) o (ρ n)) (L:∀b,own O0 σ ρ b->b<w.heap.size) {a:Act} (l:Hg (vw w O0 σ ρ) σ a.eval) {d:Nat} {xs:List Operand} {g:Operand}
  {o:Oper} {ts:Array TypeId} (x:o.op=.call { callee:=.value g,args:=xs.toArray,argTypes:=ts })
  (h:Lz tb σ d xs (Aq σ g)=some (vc,v,obs)) (A:vc) (hf:Bd obs σ=true) {next:Act->World->Prop} {Q:Exit->Act->World->Prop} {r:Option Nat}
  (hn:∀u ρ' w',QS w O0 σ ρ v obs u ρ' w'->next (a.put o.dst u) w'):o.wpIn (FR r) 0 P a w next Q:=by
 cases m:Aq σ g with
 | none=>rw[m]at h;simp[Lz]at h
 | some B =>
  rw[m]at h;have I:=l g B m;unfold Lz at h;split at h
  .rename_i f E;cases E;have H:a.eval g=.func (.func f) #[] #[]:=I;cases s:lk f tb.fns with
   | none=>rw[s]at h;simp[Jb]at h
   | some sp =>
    rw[s]at h;simp only[Jb]at h;cases i:GQ sp.lend σ sp.ins xs with
    | none=>rw[i]at h;simp[Kq]at h
    | some ds =>
     rw[i]at h;simp only[Kq]at h;split at h
     .rename_i hl;cases h;obtain⟨⟨fn,F,K,D⟩,z⟩:=G f sp s;have M:(execOp a.eval o).run P w=.ok (.enter f (xs.map a.eval).toArray) w:=by
       have h1 : ¬ fn.name = "runtime.NumGoroutine" := by simpa using K
       have C:¬fn.body=none:=by intro e;simp[e]at D
       simp[execOp,x,resolve,Deferred.ofValue,H,invoke,callFunc,F,h1,C]
      refine⟨λ_ _=>trivial,?_⟩;rw[G8 _ _ _ (λc e=>by rw[x]at e;cases e),M,Oper.uponIn_enter];refine⟨λh=>(by simp[FR]at h),Ov ?_⟩;by_cases p:sp.lend=true
      .rw[p]at i;have t:(sp.out ds).all RV.flat=true:=by
        rcases hl with hl|hl
        .rw[p]at hl;cases hl
        exact hl
       have k:=cV (V:=vw w O0 σ ρ) (O':=λ_=>False) (λ_ _ h=>h) (λ_ _ h=>h) y l i;refine(z w (λ_=>False) _ ds (λ_ h=>h.elim) k A).mono λe w' hh=>?_;obtain⟨u,rfl,q⟩:=hh;obtain⟨ρ',j⟩:=q d;refine hn u ρ w' ?_;rw[S2 d t]at j ⊢;exact⟨j.below,λ_ _=>rfl,A3q t j.av,(λ_ _ h=>by cases h),(λ_ _ _ h=>by cases h),(λ_ _ _ _ _ h=>by cases h)⟩
      have J:sp.lend=false:=by simpa using p
      rw[J]at i;have k:=cV (V:=vw w O0 σ ρ) (O':=own O0 σ ρ) (λ_ h=>h) (λh=>by cases h) y l i;refine(z w (own O0 σ ρ) _ ds L k A).mono λe w' hh=>?_;obtain⟨u,rfl,q⟩:=hh;obtain⟨ρ',j⟩:=q d;exact hn u _ w' (QS.call hf j)
     cases h
  cases h
end
end
section
open Go Go.RowKit
section
variable {P:Program} {tb:Tb} {w:World} {O0:Nat->Prop} {σ:St} {ρ:Nat->Value} {vc:Prop} {v:AV} {obs:List (Nat×Obj)}
theorem Ay {o:Oper} {a:Act} {u:Value} {w':World} {next:Act->World->Prop} {Q:Exit->Act->World->Prop} {r:Option Nat} (h:(execOp a.eval o).run P w=.ok (.value u) w') (hn:next (a.put o.dst u) w') (b:∀c,o.op≠.defer c:=by intro c e;cases e):o.wpIn (FR r) 0 P a w next Q:=by
 refine⟨λ_ _=>trivial,?_⟩;rw[G8 _ _ _ b,h];exact hn
theorem A3r {V:Vw} (x:Value):B3 V (He x) x:=by
 unfold He;split
 .rename_i k n;split
  .rename_i h;exact BO h
  exact(rfl:(Value.int k n)=_)
 .exact Bu _
 .rename_i s;split
  .rename_i h;exact Vd h
  exact(rfl:(Value.string s)=_)
 exact(rfl:x=x)
theorem F3 {V:Vw} {a:Act} (h:∀s v,lk s σ.env=some v->B3 V v (a.tmps.getD s undef)):Hg V σ a.eval:=by
 intro x v hx;cases x with
 | tmp t=>exact h t v hx
 | const c=>simp only[Aq]at hx;cases hx;exact A3r c
 | global g=>simp[Aq]at hx
 | func f=>simp only[Aq]at hx;cases hx;rfl
structure AC4 (P:Program) (tb:Tb) (w:World) (O0:Nat->Prop) (σ:St) (ρ:Nat->Value) (a:Act):Prop where
 hT:DH P tb
 hF:JD P tb
 obj:∀n o,lk n σ.objs=some o->A4 (vw w O0 σ ρ) o (ρ n)
 own:∀b,own O0 σ ρ b->b<w.heap.size
 ev:Hg (vw w O0 σ ρ) σ a.eval
theorem QS.toP {d n:Nat} {el:TypeId} {e:Ty} {xs:List e.den} {u:Value} {ρ':Nat->Value} {w':World} (hown:∀b,own O0 σ ρ b->b<w.heap.size) (hf:Bd [(d,.arr el e xs)] σ=true)
  (hq:QS w O0 σ ρ (.sr d e 0 n) [(d,.arr el e xs)] u ρ' w') (hn:n=xs.length):QS w O0 σ ρ (.p (.slice e) xs) [] u ρ w' where
 below:=hq.below
 rho:=λ_ _=>rfl
 av:=by
  have hO:∀b,¬own O0 (EO σ [(d,.arr el e xs)]) ρ' b->¬own O0 (EO σ []) ρ b:=by
   intro b hb hb';rcases hb' with h0|⟨m,⟨o,hm⟩,hmb⟩
   .exact hb (.inl h0)
   have hm:lk m σ.objs=some o:=hm;have hne:lk m [(d,Obj.arr el e xs)]=none:=by grind [lk,Om]
   refine hb (.inr ⟨m,⟨o,by simp only[EO,A6,hne];simpa using hm⟩,?_⟩);rw[hq.rho m hne];exact hmb
  have hd:lk d [(d,Obj.arr el e xs)]=some (.arr el e xs):=by simp[lk]
  have hb:∀b,bk (ρ' d) b->¬own O0 (EO σ []) ρ b:=λb hb hb'=>by
   have h1:=hq.new d _ b hd hb;have h2:=hown b hb';omega
  have hr:=cL (V:=vw w' O0 (EO σ [(d,.arr el e xs)]) ρ') hO (λb hb'=>hb b (.inl hb')) (hq.obj d _ hd) hq.av.2;rw[hn,Ix]at hr;obtain⟨_,_,_,_,_,_,a',c',hve,_⟩:=hq.av.2;exact⟨[u],hr,by rw[hve];rfl⟩
 obj:=λ_ _ h=>by cases h
 new:=λ_ _ _ h=>by cases h
 dist:=λ_ _ _ _ _ h=>by cases h
theorem Y8 {id:TypeId} {ti:TI} (hT:EP P tb id ti) (g:DH P tb) (r:∀n o,lk n σ.objs=some o->A4 (vw w O0 σ ρ) o (ρ n)) (z:∀b,own O0 σ ρ b->b<w.heap.size) {ev:Operand->Value} (i:Hg (vw w O0 σ ρ) σ ev) {s:Bool} {d n:Nat} {parts:List (Nat×Operand)}
  (h:Bc s σ d n parts (some ti)=some (vc,v,obs)) (f:vc) (hf:Bd obs σ=true) :
  ∃u ρ' w',(Instr.buildSlice id n (parts.map λp=>(p.1,ev p.2)).toArray).run P w=.ok u w'/\QS w O0 σ ρ v obs u ρ' w':=by
 cases s with
 | false=>exact QK hT g r i h f hf
 | true =>
  unfold Bc at h;split at h
  .rename_i e offs el b C;cases hp:E8 σ e 0 parts with
   | none=>rw[hp]at h;simp[Bh]at h
   | some xs =>
    rw[hp]at h;simp only[Bh,ZU]at h;cases h;obtain⟨a,y⟩:∃a,lk a σ.objs=none:=by
     have:∀l:List (Nat×Obj),∃m,∀k,m<=k->lk k l=none:=by
      intro l;induction l with
      | nil=>exact⟨0,λ_ _=>rfl⟩
      | cons x l B =>
       obtain⟨m,c⟩:=B;refine⟨max m (x.1+1),λk hk=>?_⟩;have:¬k=x.1:=by omega
       obtain⟨j,o⟩:=x;simp only[lk,this,iN];exact c k (by omega)
     obtain⟨m,c⟩:=this σ.objs;exact⟨m,c m (NO m)⟩
    have q:Bd [(a,.arr el e xs)] σ=true:=by simp[Bd,y]
    have A:Bc false σ a n parts (some ti)=some (xs.length=n/\n*e.size<=16777216,.sr a e 0 n,[(a,.arr el e xs)]):=by grind [Bc,Bh]
    obtain⟨u,ρ',w',h1,t⟩:=QK hT g r i A f q;exact⟨u,ρ,w',h1,t.toP z q f.1.symm⟩
  cases h
theorem iQ {V:Vw} {ev:Operand->Value} (d:Hg V σ ev) (w':World) {k:IntKind}:∀(r:List Operand) (a m:Int),FZ σ k (some a) r=some m->Kh k a->((r.map ev).foldlM Builtin.min2 (.int k a)).run P w'=.ok (.int k m) w'/\Kh k m
 | [],a,m,h,ha=>by
  simp only[FZ,ZQ]at h;subst h;exact⟨rfl,ha⟩
 | x :: r,a,m,h,ha=>by
  simp only[FZ]at h;cases hx:Aq σ x with
  | none=>rw[hx]at h;cases r<;>simp[OE,FZ]at h
  | some xv =>
   rw[hx]at h;cases c:OE k a (some xv) with
   | none=>rw[c]at h;cases r<;>simp[FZ]at h
   | some b' =>
    rw[c]at h;unfold OE at c;split at c
    .rename_i i b e;cases e;split at c
     .rename_i hk;subst hk;cases c;obtain⟨f,g⟩:=BK (d x _ hx);have:=iQ d w' r _ m h (by split;exact g;exact ha);rw[UY,List.foldlM_cons,f];simpa[Builtin.min2] using this
     cases c
    cases c
theorem tG {a:Act} (G:AC4 P tb w O0 σ ρ a) {o:Oper} (h:aq tb σ (o.dst.getD 0) o.op=some (vc,v,obs)) (B:vc) (hf:Bd obs σ=true)
  {next:Act->World->Prop} {Q:Exit->Act->World->Prop} {r:Option Nat} (hn:∀u ρ' w',QS w O0 σ ρ v obs u ρ' w'->next (a.put o.dst u) w'):o.wpIn (FR r) 0 P a w next Q:=by
 obtain⟨hT,hF,D,U,j⟩:=G;have O:∀n,(vw w O0 σ ρ).L n->∃o,A4 (vw w O0 σ ρ) o ((vw w O0 σ ρ).ρ n):=λn ⟨o,ab⟩=>⟨o,D n o ab⟩;obtain⟨dst,op,type,pos,after,guard⟩:=o;simp only at h hn;cases op<;>simp only[aq]at h<;>try(cases h;done)
 case move x =>
  cases hx:Aq σ x with
  | none=>rw[hx]at h;cases h
  | some xv =>
   rw[hx]at h;simp only[G2]at h;cases h;exact Ay (u:=a.eval x) (by simp[execOp]) (hn _ _ _ (QS.still (j x _ hx)))
 case assign x =>
  cases hx:Aq σ x with
  | none=>rw[hx]at h;cases h
  | some xv =>
   rw[hx]at h;simp only[G2]at h;cases h;exact Ay (u:=a.eval x) (by simp[execOp]) (hn _ _ _ (QS.still (j x _ hx)))
 case pick c x y =>
  cases G:Aq σ c with
  | none=>rw[G]at h;simp[Le]at h
  | some N =>
   rw[G]at h;have S:=j c N G;unfold Le at h;split at h
   .rename_i E;cases E;have C:=EI S;cases hx:Aq σ x with
    | none=>rw[hx]at h;simp[G2]at h
    | some xv =>
     rw[hx]at h;simp only[G2]at h;cases h;exact Ay (u:=a.eval x) (by simp[execOp,C,asBool]) (hn _ _ _ (QS.still (j x _ hx)))
   .rename_i E;cases E;have C:=EI S;cases q:Aq σ y with
    | none=>rw[q]at h;simp[G2]at h
    | some H =>
     rw[q]at h;simp only[G2]at h;cases h;exact Ay (u:=a.eval y) (by simp[execOp,C,asBool]) (hn _ _ _ (QS.still (j y _ q)))
   cases h
 case alloc t =>
  cases d:lk t tb.ty with
  | none=>rw[d]at h;simp[Km]at h
  | some ti =>
   rw[d]at h;obtain⟨u,ρ',w',h1,e⟩:=A6T (w:=w) (O0:=O0) (ρ:=ρ) (hT _ _ d) h hf;exact Ay (u:=u) (w':=w') (by simp[execOp,h1]) (hn _ _ _ e)
 case box t x =>
  cases d:lk t tb.ty with
  | none=>rw[d]at h;simp[Tw]at h
  | some ti =>
   cases hx:Aq σ x with
   | none=>rw[d,hx]at h;simp[Tw]at h
   | some xv =>
    rw[d,hx]at h;obtain⟨u,ρ',w',h1,e⟩:=AC2 (hT _ _ d) h (j x _ hx) hf;exact Ay (u:=u) (w':=w') (by simp[execOp,h1]) (hn _ _ _ e)
 case build t parts =>
  cases d:lk t tb.ty with
  | none=>rw[d]at h;simp[JW]at h
  | some ti =>
   rw[d]at h;obtain⟨rfl,u,h1,e⟩:=A6V (hT _ _ d) D j h;have h1:(Instr.build t (parts.map λp=>(p.1,a.eval p.2))).run P w=.ok u w:=by
    rw[<-h1]
    congr 2
    apply Array.ext';simp
   exact Ay (u:=u) (w':=w) (by simp[execOp,h1]) (hn _ _ _ (QS.still e))
 case buildSlice t n parts =>
  cases T:lk (dst.getD 0) tb.nests with
  | some al =>
   rw[T]at h;simp only[Gw]at h;cases d:lk t tb.ty with
   | none=>rw[d]at h;simp[JZ]at h
   | some ti =>
    rw[d]at h;obtain⟨u,ρ',w',h1,e⟩:=AAI (hT _ _ d) hT D j h B hf;have h1:(Instr.buildSlice t n (parts.map λp=>(p.1,a.eval p.2))).run P w=.ok u w':=by
     rw[<-h1]
     congr 2
     grind
    exact Ay (u:=u) (w':=w') (by simp[execOp,h1]) (hn _ _ _ e)
  | none =>
  rw[T]at h;simp only[Gw]at h;cases d:lk t tb.ty with
  | none=>rw[d]at h;simp[Bc]at h
  | some ti =>
   rw[d]at h;obtain⟨u,ρ',w',h1,e⟩:=Y8 (hT _ _ d) hT D U j h B hf;have h1:(Instr.buildSlice t n (parts.map λp=>(p.1,a.eval p.2))).run P w=.ok u w':=by
    rw[<-h1]
    congr 2
    apply Array.ext';simp
   exact Ay (u:=u) (w':=w') (by simp[execOp,h1]) (hn _ _ _ e)
 case load t x =>
  cases d:lk t tb.ty with
  | none=>rw[d]at h;simp[Jw]at h
  | some ti =>
   cases hx:Aq σ x with
   | none=>rw[d,hx]at h;simp[Jw]at h
   | some xv =>
    rw[d,hx]at h;obtain⟨rfl,u,h1,e⟩:=A3e (hT _ _ d) D h (j x _ hx);exact Ay (u:=u) (w':=w) (by simp[execOp,h1]) (hn _ _ _ (QS.still e))
 case nilCheck x =>
  cases hx:Aq σ x with
  | none=>rw[hx]at h;simp[VW]at h
  | some xv =>
   rw[hx]at h;obtain⟨rfl,⟨ad,E⟩,e⟩:=AC1 h (j x _ hx);exact Ay (u:=a.eval x) (w':=w) (by simp[execOp,E]) (hn _ _ _ (QS.still e))
 case binOp op t x y ar =>
  cases hx:Aq σ x with
  | none=>rw[hx]at h;simp[Re]at h
  | some xv =>
   cases q:Aq σ y with
   | none=>rw[hx,q]at h;cases xv<;>simp[Re]at h
   | some H =>
    rw[hx,q]at h;obtain⟨rfl,h1,u,e,A⟩:=ABX (P:=P) (t:=t) (λC=>by
     cases d:lk t tb.ty with
     | none=>rw[d]at C;cases C
     | some ti =>
      have h0:=(hT _ _ d).2;rw[d]at C;unfold Sq at C;split at C
      .grind
      cases C) w h B (j x _ hx) (j y _ q)
    exact Ay (u:=u) (w':=w) (by simp[execOp,h1,e]) (hn _ _ _ (QS.still A))
 case unOp op t x =>
  cases hx:Aq σ x with
  | none=>rw[hx]at h;cases op<;>simp[qUn]at h
  | some xv =>
   rw[hx]at h;obtain⟨rfl,u,e,A⟩:=AFh (P:=P) w h B (j x _ hx);exact Ay (u:=u) (w':=w) (by simp[execOp,e]) (hn _ _ _ (QS.still A))
 case convert s t x =>
  cases hs:lk s tb.ty with
  | none=>rw[hs]at h;simp[Jx]at h
  | some ap =>
   cases d:lk t tb.ty with
   | none=>rw[hs,d]at h;simp[Jx]at h
   | some ti =>
    cases hx:Aq σ x with
    | none=>rw[hs,d,hx]at h;simp[Jx]at h
    | some xv =>
     rw[hs,d,hx]at h;obtain⟨rfl,u,e,A⟩:=AAE (P:=P) hT rfl (hT _ _ hs) (hT _ _ d) h B (j x _ hx);have e:(convert s t (a.eval x)).run P w=.ok u w:=e;exact Ay (u:=u) (w':=w) (by simp[execOp,e]) (hn _ _ _ (QS.still A))
 case makeSlice t l c =>
  cases d:lk t tb.ty with
  | none=>rw[d]at h;simp[JA]at h
  | some ti =>
   cases hx:Aq σ l with
   | none=>rw[d,hx]at h;simp[JA]at h
   | some an =>
    cases q:Aq σ c with
    | none=>rw[d,hx,q]at h;simp[JA]at h
    | some N =>
     rw[d,hx,q]at h;obtain⟨u,ρ',w',h1,e⟩:=AAJ (hT _ _ d) hT h B (j l _ hx) (j c _ q) hf;exact Ay (u:=u) (w':=w') (by simp[execOp,h1]) (hn _ _ _ e)
 case slice t x lo hi ah =>
  cases ah with
  | some m =>
   cases lo with
   | some _=>cases hi<;>simp[aq]at h
   | none =>
    cases hi with
    | none=>simp[aq]at h
    | some h1 =>
     simp only[aq]at h;cases d:lk t tb.ty with
     | none=>rw[d]at h;simp[Dn]at h
     | some ti =>
      cases hx:Aq σ x with
      | none=>rw[d,hx]at h;simp[Dn]at h
      | some xv =>
       cases hh:Aq σ h1 with
       | none=>rw[d,hx,hh]at h;simp[Dn]at h
       | some ak =>
        cases F:Aq σ m with
        | none=>rw[d,hx,hh,F]at h;simp[Dn]at h
        | some ao =>
         rw[d,hx,hh,F]at h;obtain⟨rfl,u,e,A⟩:=A3j (P:=P) (V:=vw w O0 σ ρ) (hT _ _ d) hT h B (j x _ hx) (j h1 _ hh) (j m _ F);have e:(Instr.sliceAt t (a.eval x) none (some (a.eval h1)) (some (a.eval m))).run P w=.ok u w:=e;exact Ay (u:=u) (w':=w) (by simp[execOp,e]) (hn _ _ _ (QS.still A))
  | none =>
   simp only[aq]at h;cases d:lk t tb.ty with
   | none=>rw[d]at h;simp[FO]at h
   | some ti =>
    cases hx:Aq σ x with
    | none=>rw[d,hx]at h;simp[FO]at h
    | some xv =>
     have R:∀ {y:Option Operand} {M:Option AV},G0 σ y=some M->iH (V:=vw w O0 σ ρ) M (y.map a.eval):=by
      intro y M q;cases y with
      | none=>simp only[G0]at q;cases q;trivial
      | some z =>
       simp only[G0,ON]at q;obtain⟨Y,ag,rfl⟩:=q;exact j z Y ag
     cases I:G0 σ lo with
     | none=>rw[d,hx,I]at h;simp[FO]at h
     | some am =>
      cases J:G0 σ hi with
      | none=>rw[d,hx,I,J]at h;simp[FO]at h
      | some aj =>
       rw[d,hx,I,J]at h;obtain⟨rfl,u,e,A⟩:=A6S (P:=P) (V:=vw w O0 σ ρ) (hT _ _ d) hT h B (j x _ hx) (R I) (R J);have e:(Instr.sliceAt t (a.eval x) (lo.map a.eval) (hi.map a.eval) none).run P w=.ok u w:=e;exact Ay (u:=u) (w':=w) (by simp[execOp,e]) (hn _ _ _ (QS.still A))
 case fieldAddr s x f =>
  cases hs:lk s tb.ty with
  | none=>rw[hs]at h;simp[HO]at h
  | some ti =>
   cases hx:Aq σ x with
   | none=>rw[hs,hx]at h;simp[HO]at h
   | some xv =>
    rw[hs,hx]at h;obtain⟨rfl,u,e,A⟩:=A6O (P:=P) (hT _ _ hs) w h (j x _ hx);exact Ay (u:=u) (w':=w) (by simp[execOp,e]) (hn _ _ _ (QS.still A))
 case indexAddr t x i =>
  cases d:lk t tb.ty with
  | none=>rw[d]at h;simp[Fy]at h
  | some ti =>
   cases hx:Aq σ x with
   | none=>rw[d,hx]at h;simp[Fy]at h
   | some xv =>
    cases hi:Aq σ i with
    | none=>rw[d,hx,hi]at h;simp[Fy]at h
    | some W =>
     rw[d,hx,hi]at h;obtain⟨rfl,u,e,A⟩:=A6P (P:=P) (V:=vw w O0 σ ρ) (hT _ _ d) hT h B (j x _ hx) (j i _ hi) O;have e:(Instr.indexAt t (a.eval x) (a.eval i)).run P w=.ok u w:=e;exact Ay (u:=u) (w':=w) (by simp[execOp,e]) (hn _ _ _ (QS.still A))
 case index t x i =>
  cases d:lk t tb.ty with
  | none=>rw[d]at h;simp[ET]at h
  | some ti =>
   cases hx:Aq σ x with
   | none=>rw[d,hx]at h;simp[ET]at h
   | some xv =>
    cases hi:Aq σ i with
    | none=>rw[d,hx,hi]at h;simp[ET]at h
    | some W =>
     rw[d,hx,hi]at h;obtain⟨rfl,u,e,A⟩:=A3g (P:=P) (hT _ _ d) w h B (j x _ hx) (j i _ hi);exact Ay (u:=u) (w':=w) (by simp[execOp,e]) (hn _ _ _ (QS.still A))
 case extract x i =>
  cases hx:Aq σ x with
  | none=>rw[hx]at h;simp[Eb]at h
  | some xv =>
   rw[hx]at h;obtain⟨rfl,u,e,A⟩:=A10 (P:=P) w h (j x _ hx);exact Ay (u:=u) (w':=w) (by simp[execOp,e]) (hn _ _ _ (QS.still A))
 case makeFunc fn first aa =>
  obtain⟨rfl,u,e,A⟩:=AC3 (P:=P) j h;have e:(Instr.makeFunc fn (first.map a.eval) (aa.map a.eval)).run P w=.ok u w:=by
   rw[<-e]
   congr 2<;>(apply Array.ext';simp)
  exact Ay (u:=u) (w':=w) (by simp[execOp,e]) (hn _ _ _ (QS.still A))
 case makeMap t res =>
  cases res with
  | some z=>simp[aq]at h
  | none =>
   simp only[aq]at h;cases d:lk t tb.ty with
   | none=>rw[d]at h;simp[Fz]at h
   | some ti =>
    rw[d]at h;obtain⟨u,ρ',w',h1,e⟩:=A15 (w:=w) (O0:=O0) (ρ:=ρ) (hT _ _ d) h hf;exact Ay (u:=u) (w':=w') (by simp[execOp,h1]) (hn _ _ _ e)
 case lookup t x i ok =>
  cases d:lk t tb.ty with
  | none=>rw[d]at h;simp[JC]at h
  | some ti =>
   cases hx:Aq σ x with
   | none=>rw[d,hx]at h;simp[JC]at h
   | some xv =>
    cases hi:Aq σ i with
    | none=>rw[d,hx,hi]at h;simp[JC]at h
    | some W =>
     rw[d,hx,hi]at h;obtain⟨rfl,u,e,A⟩:=AAM (P:=P) (hT _ _ d) hT D h (j x _ hx) (j i _ hi);exact Ay (u:=u) (w':=w) (by simp[execOp,e]) (hn _ _ _ (QS.still A))
 case call c =>
  obtain⟨callee,args,argTypes⟩:=c;cases callee with
  | invoke r m=>simp[Dp]at h
  | value g =>
   simp only[Dp]at h;exact AAO hF D U j (xs:=args.toList) (ts:=argTypes) (o:=⟨dst,.call ⟨.value g,args,argTypes⟩,type,pos,after,guard⟩) (by simp) h B hf hn
  | builtin b =>
   simp only[Dp]at h;obtain⟨args⟩:=args;obtain⟨argTypes⟩:=argTypes;simp only at h;unfold Ed at h;split at h
   .rename_i x t;cases d:lk t tb.ty with
    | none=>rw[d]at h;simp[Tx]at h
    | some ti =>
     cases hx:Aq σ x with
     | none=>rw[d,hx]at h;simp[Tx]at h
     | some xv =>
      rw[d,hx]at h;obtain⟨rfl,u,e,A⟩:=ABY (P:=P) (ty:=type) (V:=vw w O0 σ ρ) O (hT _ _ d) w h (j x _ hx);exact Ay (u:=u) (w':=w) (by simp[execOp,resolve,invoke,builtin,e]) (hn _ _ _ (QS.still A))
   .rename_i x y t u;cases hx:Aq σ x with
    | none=>rw[hx]at h;simp[DZ]at h
    | some xv =>
     cases q:Aq σ y with
     | none=>rw[hx,q]at h;simp[DZ]at h
     | some H =>
      rw[hx,q]at h;obtain⟨z,ρ',w',h1,e⟩:=A3m (ty:=type) hT D h B (j x _ hx) (j y _ q) hf;exact Ay (u:=z) (w':=w') (by simp[execOp,resolve,invoke,builtin,h1]) (hn _ _ _ e)
   .rename_i x y t u;cases hx:Aq σ x with
    | none=>rw[hx]at h;simp[Rf]at h
    | some xv =>
     cases q:Aq σ y with
     | none=>rw[hx,q]at h;simp[Rf]at h
     | some H =>
      rw[hx,q]at h;obtain⟨rfl,z,h1,e⟩:=ABZ (P:=P) (ts:=#[t,u]) (ty:=type) w h (j x _ hx) (j y _ q);exact Ay (u:=z) (w':=w) (by simp[execOp,resolve,invoke,builtin,h1]) (hn _ _ _ (QS.still e))
   .rename_i x y t u;cases hx:Aq σ x with
    | none=>rw[hx]at h;simp[Rg]at h
    | some xv =>
     cases q:Aq σ y with
     | none=>rw[hx,q]at h;simp[Rg]at h
     | some H =>
      rw[hx,q]at h;obtain⟨rfl,z,h1,e⟩:=AC0 (P:=P) (ts:=#[t,u]) (ty:=type) w h (j x _ hx) (j y _ q);exact Ay (u:=z) (w':=w) (by simp[execOp,resolve,invoke,builtin,h1]) (hn _ _ _ (QS.still e))
   .rename_i x y X t u ai;cases hx:Aq σ x with
    | none=>rw[hx]at h;simp[JB]at h
    | some xv =>
     cases q:Aq σ y with
     | none=>rw[hx,q]at h;simp[JB]at h
     | some H =>
      cases K:Aq σ X with
      | none=>rw[hx,q,K]at h;simp[JB]at h
      | some Y =>
       rw[hx,q,K]at h;obtain⟨rfl,z,h1,e⟩:=AAF (P:=P) (ts:=#[t,u,ai]) (ty:=type) w h (j x _ hx) (j y _ q) (j X _ K);exact Ay (u:=z) (w':=w) (by simp[execOp,resolve,invoke,builtin,h1]) (hn _ _ _ (QS.still e))
   .rename_i ts x y z u r;cases hx:Aq σ x with
    | none=>rw[hx]at h;simp[OG]at h
    | some xv =>
     rw[hx]at h;unfold OG at h;split at h
     .rename_i k Z E;cases E;cases F:FZ σ k (some Z) (y :: z :: u :: r) with
      | none=>rw[F]at h;simp[P6]at h
      | some m =>
       rw[F]at h;simp only[P6,ZQ,AGi]at h;obtain⟨rfl,rfl,rfl⟩:=h;obtain⟨ae,af⟩:=BK (j x _ hx);obtain⟨h1,e⟩:=iQ (P:=P) j w _ _ _ F af;have A:(Builtin.min_ ⟨argTypes⟩ type (a.eval x :: a.eval y :: a.eval z :: a.eval u :: r.map a.eval).toArray).run P w=.ok (.int k m) w:=by
        rw[ae];exact h1
       exact Ay (u:=.int _ m) (w':=w) (by simp[execOp,resolve,invoke,builtin,A]) (hn _ _ _ (QS.still (BO e)))
     cases h
   cases h
end
end
section
open Go Go.RowKit
section
variable {w0:World} {K O0:Nat->Prop} {nt:Nat} {ds:Fp} {σ:St} {ρ:Nat->Value} {a:Act} {w:World}
theorem A6X {n:Nat} {o:Obj} {env:List (Nat×AV)} (m:Nat):HL ⟨env,upd n o σ.objs⟩ m↔HL σ m:=by
 constructor
 .rintro⟨x,hx⟩;rw[Ga]at hx;split at hx
  .rename_i e;subst e;simp only[ON]at hx;obtain⟨y,a,_⟩:=hx;exact⟨y,a⟩
  exact⟨x,hx⟩
 rintro⟨x,hx⟩;by_cases e:m=n
 .subst e;exact⟨o,by simp[Ga,hx]⟩
 exact⟨x,by simp[Ga,e,hx]⟩
theorem CB.upd (h:CB w0 K O0 nt ds σ ρ a w) (z:∀b,K b->b<w0.heap.size) {n:Nat} {o i:Obj} (hn:lk n σ.objs=some o) {g:Nat} (q:blk (ρ n)=some g) {w':World} (c:w.grownBy w' (some g))
  (F:A4 (vw w' O0 σ ρ) i (ρ n)):CB w0 K O0 nt ds ⟨σ.env,Fw.upd n i σ.objs⟩ ρ a w':=by
 have d:HL ⟨σ.env,Fw.upd n i σ.objs⟩=HL σ:=funext λm=>propext (A6X m);have u:vw w' O0 ⟨σ.env,Fw.upd n i σ.objs⟩ ρ=vw w' O0 σ ρ:=by
  have D:own O0 ⟨σ.env,Fw.upd n i σ.objs⟩ ρ=own O0 σ ρ:=by
   funext b;simp only[own,d]
  simp only[vw,d,D]
 have B:own O0 σ ρ g:=.inr ⟨n,⟨o,hn⟩,.inl q⟩;have hk:Cs (vw w O0 σ ρ) (vw w' O0 σ ρ):=⟨λ_ _ h=>h,λ_ h=>h,λ_ _=>rfl,λb C A=>c.block b C (λe=>by injection e with e;subst e;exact A B)⟩;refine⟨⟨c.os.trans h.frm.os,c.tape.trans h.frm.tape,c.output.trans h.frm.output,UR h.frm.size c.size,λk r=>?_⟩,h.nt,h.defers,λp hp=>by rw[d];exact h.pin p hp,?_,?_,?_,?_⟩
 .refine(c.block k (ZW (z k r) h.frm.size) (λe=>?_)).trans (h.frm.block k r);injection e with e
  subst e;exact(h.free n k ⟨o,hn⟩ (.inl q)).1 r
 .intro m x f;rw[u];rw[Ga]at f;split at f
  .grind
  rename_i e;refine(h.objs m x f).keeps hk λb j=>?_;refine c.block b ((h.objs m x f).block_lt j) (λl=>?_);injection l with l
  subst l;exact e (h.dist m n b ⟨x,f⟩ ⟨o,hn⟩ j (.inl q))
 .intro m b hl j;rw[d]at hl;exact h.free m b hl j
 .intro m E b hl t h1 y;rw[d]at hl t;exact h.dist m E b hl t h1 y
 intro s v hs;rw[u];exact(h.env s v hs).keeps hk
theorem Jz (n s:Nat):∀l:List (Nat×AV),lk s (Fu n l)=(lk s l).map (AV.drp n)
 | []=>rfl
 | (j,v) :: l=>by
  simp only[Fu,lk];split
  .rfl
  exact Jz n s l
def Obj.drp (n:Nat):Obj->Obj
 | .arr et e xs=>.arr et e xs
 | .box et st fs=>.box et st (AV.drps n fs)
 | .mapo k v l=>.mapo k v l
 | .nest et b k e xs h=>.nest et b k e xs h
 | .frame i fs=>.frame i (Fu n fs)
 | .loop L=>.loop L
 | .itr c g d f a=>.itr c g d f a
 | .dfr=>.dfr
theorem Bo (n s:Nat):∀l:List (Nat×Obj),lk s (Bb n l)=(lk s l).map (Obj.drp n)
 | []=>rfl
 | (j,.arr et e xs) :: l=>by
  simp only[Bb,lk];split
  .rfl
  exact Bo n s l
 | (j,.box et st fs) :: l=>by
  simp only[Bb,lk];split
  .rfl
  exact Bo n s l
 | (j,.mapo k v x) :: l=>by
  simp only[Bb,lk];split
  .rfl
  exact Bo n s l
 | (j,.nest et b k e xs h) :: l=>by
  simp only[Bb,lk];split
  .rfl
  exact Bo n s l
 | (j,.frame i fs) :: l=>by
  simp only[Bb,lk];split
  .rfl
  exact Bo n s l
 | (j,.loop L) :: l=>by
  simp only[Bb,lk];split
  .rfl
  exact Bo n s l
 | (j,.itr c g d f a) :: l=>by
  simp only[Bb,lk];split
  .rfl
  exact Bo n s l
 | (j,.dfr) :: l=>by
  simp only[Bb,lk];split
  .rfl
  exact Bo n s l
def Vw.but (V:Vw) (n:Nat):Vw:=⟨V.w,V.O,λm=>V.L m/\m≠n,V.ρ⟩
def seat (v:Value):Prop:=(∃a m c,v=.slice a m c)\/∃b,v=.tuple b
theorem JE {V:Vw} {n:Nat} (hn:seat (V.ρ n)) {x:AV} {v:Value} (h:VX V x v):VX (V.but n) (x.drp n) v:=by
 cases x;case sr m e lo hi =>
  simp only[AV.drp];split
  .trivial
  rename_i g;exact⟨⟨h.1,g⟩,h.2⟩
 case ep m e i p off =>
  simp only[AV.drp];split
  .trivial
  rename_i g;exact⟨⟨h.1,g⟩,h.2⟩
 case nin m e i len =>
  simp only[AV.drp];split
  .trivial
  rename_i g;exact⟨⟨h.1,g⟩,h.2⟩
 case bp m p off =>
  simp only[AV.drp];refine⟨⟨h.1,λe=>?_⟩,h.2⟩;subst e;obtain⟨_,b,d,_⟩:=h;rcases hn with ⟨a,j,c,hs⟩|⟨k,hs⟩<;>(rw[hs]at d;cases d)
 case clo f ns =>
  simp only[AV.drp];refine⟨h.1,λm o=>?_⟩;obtain⟨h1,b,d⟩:=h.2 m o;refine⟨⟨h1,λe=>?_⟩,b,d⟩;subst e;rcases hn with ⟨a,j,c,hs⟩|⟨k,hs⟩<;>(rw[hs]at d;cases d)
 case mp m =>
  simp only[AV.drp];refine⟨⟨h.1,λe=>?_⟩,h.2⟩;subst e;obtain⟨_,b,d,_⟩:=h;rcases hn with ⟨a,j,c,hs⟩|⟨k,hs⟩<;>(rw[hs]at d;cases d)
 case yl m =>
  simp only[AV.drp];refine⟨⟨h.1,λe=>?_⟩,h.2⟩;subst e;obtain⟨_,b,d,_⟩:=h;rcases hn with ⟨a,j,c,hs⟩|⟨k,hs⟩<;>(rw[hs]at d;cases d)
 case ag l=>exact h.elim
 case tup l=>exact h.elim
 all_goals simp only[AV.drp];exact h
theorem A6Y {V:Vw} {n:Nat} (hn:seat (V.ρ n)) {x:AV} {cs:List Value} (h:Nv V x cs):Nv (V.but n) (x.drp n) cs:=by
 cases x;case p t d=>simp only[AV.drp];exact h
 case ag l=>obtain⟨v,_,_,hf⟩:=h;exact hf.elim
 case tup l=>obtain⟨v,_,_,hf⟩:=h;exact hf.elim
 all_goals
  obtain⟨v,rfl,h1,c⟩:=h;have a:=JE hn c;simp only[AV.drp]at a ⊢;first
   | exact⟨v,rfl,h1,a⟩
   | (split at a<;>rename_i b<;>first|(rw[Bq b];exact⟨v,rfl,h1,a⟩)|(rw[As b];exact⟨v,rfl,h1,a⟩))
theorem QO {V:Vw} {n:Nat} (hn:seat (V.ρ n)):∀ {l:List AV} {cs:List Value},Dd V l cs->Dd (V.but n) (AV.drps n l) cs
 | [],cs,h=>(h:cs=[])
 | x :: r,cs,h=>by
  obtain⟨c1,c2,rfl,h1,a⟩:=h;simp only[AV.drps];exact⟨c1,c2,rfl,A6Y hn h1,QO hn a⟩
theorem A6Z {V:Vw} {n:Nat} (hn:seat (V.ρ n)) {x:AV} {v:Value} (hx:Sw V x v):Sw (V.but n) (x.drp n) v:=by
 cases x;case ag l=>obtain⟨cs,h1,a⟩:=hx;simp only[AV.drp];exact⟨cs,h1,QO hn a⟩
 all_goals exact Sw.of1 (JE hn hx)
theorem iR {V:Vw} {n:Nat} (hn:seat (V.ρ n)):∀ {l:List AV} {a:List Value},IB V l a->IB (V.but n) (AV.drps n l) a
 | [],a,h=>(h:a=[])
 | x :: r,a,h=>by
  obtain⟨v,c,rfl,h1,b⟩:=h;simp only[AV.drps];exact⟨v,c,rfl,A6Z hn h1,iR hn b⟩
theorem A70 {V:Vw} {x:AV} {v:Value} (h:VX V x v):B3 V x v:=by
 cases x;case ag l=>exact h.elim
 case tup l=>exact h.elim
 all_goals exact h
theorem tH {V:Vw} {n:Nat} (hn:seat (V.ρ n)) {x:AV} {v:Value} (h:B3 V x v):B3 (V.but n) (x.drp n) v:=by
 cases x;case ag l=>obtain⟨cs,h1,a⟩:=h;simp only[AV.drp];exact⟨cs,h1,QO hn a⟩
 case tup l=>obtain⟨b,h1,a⟩:=h;simp only[AV.drp];exact⟨b,h1,iR hn a⟩
 all_goals exact A70 (JE hn h)
theorem S3 (n:Nat):∀l:List AV,(AV.drps n l).length=l.length
 | []=>rfl
 | _ :: r=>by simp[AV.drps,S3 n r]
theorem A71 {n:Nat} {b:Obj} {env:List (Nat×AV)} (m:Nat):HL ⟨env,upd n b (Bb n σ.objs)⟩ m↔HL σ m:=by
 constructor
 .rintro⟨x,hx⟩;rw[Ga,Bo,Bo]at hx;split at hx
  .rename_i e;subst e;simp only[Option.map_map,ON]at hx;obtain⟨y,a,_⟩:=hx;exact⟨y,a⟩
  simp only[ON]at hx;obtain⟨y,a,_⟩:=hx;exact⟨y,a⟩
 rintro⟨x,hx⟩;by_cases e:m=n
 .subst e;exact⟨b,by simp[Ga,Bo,hx]⟩
 exact⟨x.drp n,by simp[Ga,Bo,e,hx]⟩
theorem CB.app (h:CB w0 K O0 nt ds σ ρ a w) (aa:∀b,K b->b<w0.heap.size) (ao:∀b,O0 b->b<w0.heap.size) {n:Nat} (af:Gz n=false) {et:TypeId} {e:Ty} {xs ys:List e.den} (hn:lk n σ.objs=some (.arr et e xs)) {loc:Value} {w':World} {cells:List Value}
  (C:w.grownBy w' (blk (ρ n))) (S:blk loc=blk (ρ n)\/∀b,blk loc=some b->w.heap.size<=b) (G:ys.length<=AQ)
  (O:w'.ownsRow 0 et e.size loc ys.length cells) (ae:Dk w (own O0 σ ρ) e cells ys) {d:Nat} (ad:d<nt) {hi:Nat} (ag:hi=ys.length) :
  CB w0 K O0 nt ds ⟨(d,.sr n e 0 hi) :: Fu n σ.env,Fw.upd n (.arr et e ys) (Bb n σ.objs)⟩ (E9 ρ n loc) (a.put (some d) loc) w':=by
 subst ag;have H:∃a m c,(vw w O0 σ ρ).ρ n=.slice a m c:=by
  obtain⟨_,cells',aj,_⟩:=h.objs n _ hn;rcases aj.2 with ⟨B,_⟩|⟨g,cap,U,B,_⟩
  .exact⟨_,_,_,B⟩
  exact⟨_,_,_,B⟩
 let σ':St:=⟨(d,.sr n e 0 ys.length) :: Fu n σ.env,Fw.upd n (.arr et e ys) (Bb n σ.objs)⟩
 have D:∀m,HL σ' m↔HL σ m:=λm=>A71 m;have F:∀b,bk loc b↔blk loc=some b:=λb=>by
  rcases O.2 with ⟨B,_⟩|⟨g,cap,U,B,_⟩
  .rw[B];exact L5
  rw[B];exact L5
 have ap:∀b,bk (ρ n) b↔blk (ρ n)=some b:=λb=>by
  obtain⟨X,am,c2,q⟩:=H;have q:ρ n=_:=q;rw[q];exact L5
 have ah:∀b,bk loc b->own O0 σ ρ b\/w.heap.size<=b:=by
  intro b f;replace f:=(F b).1 f;rcases S with h1|h1
  .exact .inl (.inr ⟨n,⟨_,hn⟩,.inl (by rw[<-h1];exact f)⟩)
  exact .inr (h1 b f)
 have hk:Cs ((vw w O0 σ ρ).but n) (vw w' O0 σ' (E9 ρ n loc)):=by
  refine⟨?_,λm G=>(D m).2 G.1,λm G=>?_,?_⟩
  .intro b M f A;rcases A with h0|⟨m,hl,J⟩
   .exact f (.inl h0)
   by_cases N:m=n
   .subst N;rw[Bt]at J;rcases ah b J with h1|h1
    .exact f h1
    have M:b<w.heap.size:=M;omega
   have:E9 ρ n loc m=ρ m:=by simp[E9,N]
   rw[this]at J;exact f (.inr ⟨m,(D m).1 hl,J⟩)
  .have:m≠n:=G.2;show E9 ρ n loc m=ρ m;simp[E9,this]
  intro b M f;exact C.block b M (λi=>f (.inr ⟨n,⟨_,hn⟩,.inl i.symm⟩))
 refine⟨⟨C.os.trans h.frm.os,C.tape.trans h.frm.tape,C.output.trans h.frm.output,UR h.frm.size C.size,λk Q=>?_⟩,by rw[QF];exact h.nt,by rw[Kx];exact h.defers,λp hp=>?_,?_,?_,?_,?_⟩
 .refine(C.block k (ZW (aa k Q) h.frm.size) (λi=>?_)).trans (h.frm.block k Q);exact(h.free n k ⟨_,hn⟩ (.inl i.symm)).1 Q
 .obtain⟨h1,E,u⟩:=h.pin p hp;have ar:p.1≠n:=by
   intro e2;obtain⟨X,am,c2,q⟩:=H;have q:ρ n=_:=q;rw[<-e2,E]at q;rw[q]at u;rcases u with u|u
   .cases u
   rw[e2,af]at u;cases u
  grind [E9]
 .intro m x r;show A4 (vw w' O0 σ' (E9 ρ n loc)) x (E9 ρ n loc m);rw[Ga]at r;split at r
  .rename_i i;subst i;rw[Bo,hn]at r;simp only[ABw]at r;cases r;rw[Bt];exact⟨G,cells,O,ae.keeps (V:=(vw w O0 σ ρ).but m) hk⟩
  rename_i i;rw[Bo]at r;simp only[ON]at r;obtain⟨y,j,rfl⟩:=r;have:E9 ρ n loc m=ρ m:=by simp[E9,i]
  rw[this];have f:∀b,bk (ρ m) b->w'.heap[b]?=w.heap[b]?:=λb A=>by
   refine C.block b ((h.objs m y j).block_lt A) (λe2=>?_);exact i (h.dist m n b ⟨y,j⟩ ⟨_,hn⟩ A (.inl e2.symm))
  have t:=h.objs m y j;cases y with
  | arr W e2 az=>exact A4.keeps (V:=(vw w O0 σ ρ).but n) hk f t
  | box W st fs =>
   obtain⟨h0,b,cs,hl,hh,ab⟩:=t;exact A4.keeps (V:=(vw w O0 σ ρ).but n) (o:=.box W st (AV.drps n fs)) hk f ⟨λak=>by rw[S3];exact h0 ak,b,cs,hl,hh,QO (.inl H) ab⟩
  | mapo k v l=>exact A4.keeps (V:=(vw w O0 σ ρ).but n) hk f t
  | nest et al k e xs hl=>exact A4.keeps (V:=(vw w O0 σ ρ).but n) (o:=.nest et al k e xs hl) hk f (NH (V:=vw w O0 σ ρ) (V':=(vw w O0 σ ρ).but n) rfl rfl t)
  | frame an fs =>
   obtain⟨h0,h1⟩:=t;refine A4.keeps (V:=(vw w O0 σ ρ).but n) (o:=.frame an (Fu n fs)) hk f ⟨h0,λs z T=>?_⟩;rw[Jz]at T;simp only[ON]at T;obtain⟨y,j,rfl⟩:=T;exact tH (.inl H) (h1 s y j)
  | loop L=>exact A4.keeps (V:=(vw w O0 σ ρ).but n) hk f t
  | itr av ay aw ax au=>exact A4.keeps (V:=(vw w O0 σ ρ).but n) hk f t
  | dfr=>exact A4.keeps (V:=(vw w O0 σ ρ).but n) hk f t
 .intro m b hl f;replace hl:=(D m).1 hl;by_cases i:m=n
  .subst i;rw[Bt]at f;rcases S with h1|h1
   .exact h.free m b hl (.inl (by rw[<-h1];exact(F b).1 f))
   have:=h1 b ((F b).1 f);have:=h.frm.size;grind
  have:E9 ρ n loc m=ρ m:=by simp[E9,i]
  rw[this]at f;exact h.free m b hl f
 .have key:∀m b,HL σ m->m≠n->bk (ρ m) b->bk loc b->False:=by
   intro m b hl N f A;rcases S with h1|h1
   .exact N (h.dist m n b hl ⟨_,hn⟩ f (.inl (by rw[<-h1];exact(F b).1 A)))
   have E:=h1 b ((F b).1 A);obtain⟨y,j⟩:=hl;have:=(h.objs m y j).block_lt f;have:b<w.heap.size:=this;omega
  intro m I b hl R h1 E;replace hl:=(D m).1 hl;replace R:=(D I).1 R;by_cases e1:m=n<;>by_cases e2:I=n
  .rw[e1,e2]
  .grind [E9,Bt]
  .grind [E9,Bt]
  have Y:E9 ρ n loc m=ρ m:=by simp[E9,e1]
  have Z:E9 ρ n loc I=ρ I:=by simp[E9,e2]
  rw[Y]at h1;rw[Z]at E;exact h.dist m I b hl R h1 E
 intro s v hs;show B3 (vw w' O0 σ' (E9 ρ n loc)) v _;rw[NG a d loc s (by rw[h.nt];exact ad)];simp only[lk]at hs;split at hs
 .rename_i P;cases hs;rw[Bq P];refine⟨(D n).2 ⟨_,hn⟩,?_⟩;show DT (plc (E9 ρ n loc n)) e.size 0 ys.length loc;rw[Bt,Hf O];rcases O.2 with ⟨rfl,ai⟩|⟨g,cap,U,rfl,_,_,aq,_⟩
  .exact⟨none,0,0,rfl,by omega,by omega,none,0,by rw[ai],by omega,λ_=>⟨rfl,rfl⟩,λh=>by omega⟩
  exact⟨some ⟨g,0,none⟩,ys.length,cap,rfl,by omega,by omega,some ⟨g,0,none⟩,cap,by simp,by omega,λ_=>⟨rfl,rfl⟩,λ_=>by simp[NC]⟩
 rename_i P;rw[As P];rw[Jz]at hs;simp only[ON]at hs;obtain⟨y,j,rfl⟩:=hs;exact(tH (.inl H) (h.env s y j)).keeps hk
end
end
section
open Go Go.RowKit
def Vw.buts (V:Vw) (hs:List Nat):Vw:=⟨V.w,V.O,λm=>V.L m/\Ab m hs=false,V.ρ⟩
theorem cW {V:Vw} {hs:List Nat} {x:AV} {v:Value} (h:VX V x v):VX (V.buts hs) (x.fgt hs) v:=by
 cases x;case clo f ns =>
  simp only[AV.fgt];split
  .trivial
  rename_i a;refine⟨h.1,λn hn=>⟨⟨(h.2 n hn).1,?_⟩,(h.2 n hn).2⟩⟩;grind
 case ag l=>exact h.elim
 case tup l=>exact h.elim
 case p t d=>simp only[AV.fgt];exact h
 case pc e d=>simp only[AV.fgt];exact h
 case raw u=>simp only[AV.fgt];exact h
 case ip t d=>simp only[AV.fgt];exact h
 case fn f=>simp only[AV.fgt];exact h
 case top=>trivial
 all_goals
  simp only[AV.fgt];split
  .trivial
  rename_i a;exact⟨⟨h.1,by simpa using a⟩,h.2⟩
theorem A72 {V:Vw} {hs:List Nat} {x:AV} {cs:List Value} (h:Nv V x cs):Nv (V.buts hs) (x.fgt hs) cs:=by
 cases x;case p t d=>simp only[AV.fgt];exact h
 case ag l=>obtain⟨v,_,_,hf⟩:=h;exact hf.elim
 case tup l=>obtain⟨v,_,_,hf⟩:=h;exact hf.elim
 all_goals
  obtain⟨v,rfl,h1,c⟩:=h;have a:=cW (hs:=hs) c;simp only[AV.fgt]at a ⊢;first
   | exact⟨v,rfl,h1,a⟩
   | (split at a<;>rename_i b<;>first|(rw[Bq b];exact⟨v,rfl,h1,a⟩)|(rw[As b];exact⟨v,rfl,h1,a⟩))
theorem QP {V:Vw} {hs:List Nat}:∀ {l:List AV} {cs:List Value},Dd V l cs->Dd (V.buts hs) (AV.fgts hs l) cs
 | [],cs,h=>(h:cs=[])
 | x :: r,cs,h=>by
  obtain⟨c1,c2,rfl,h1,a⟩:=h;simp only[AV.fgts];exact⟨c1,c2,rfl,A72 h1,QP a⟩
theorem A73 {V:Vw} {hs:List Nat} {x:AV} {v:Value} (hx:Sw V x v):Sw (V.buts hs) (x.fgt hs) v:=by
 cases x;case ag l=>obtain⟨cs,h1,a⟩:=hx;simp only[AV.fgt];exact⟨cs,h1,QP a⟩
 all_goals exact Sw.of1 (cW hx)
theorem iT {V:Vw} {hs:List Nat}:∀ {l:List AV} {a:List Value},IB V l a->IB (V.buts hs) (AV.fgts hs l) a
 | [],a,h=>(h:a=[])
 | x :: r,a,h=>by
  obtain⟨v,c,rfl,h1,b⟩:=h;simp only[AV.fgts];exact⟨v,c,rfl,A73 h1,iT b⟩
theorem Ul {V:Vw} {hs:List Nat} {x:AV} {v:Value} (h:B3 V x v):B3 (V.buts hs) (x.fgt hs) v:=by
 cases x;case ag l=>obtain⟨cs,h1,a⟩:=h;simp only[AV.fgt];exact⟨cs,h1,QP a⟩
 case tup l=>obtain⟨b,h1,a⟩:=h;simp only[AV.fgt];exact⟨b,h1,iT a⟩
 all_goals exact A70 (cW h)
theorem Eu (hs:List Nat) (s:Nat):∀l:List (Nat×AV),lk s (CR hs l)=(lk s l).map (AV.fgt hs)
 | []=>rfl
 | (j,v) :: l=>by
  simp only[CR,lk];split
  .rfl
  exact Eu hs s l
theorem S4 (hs:List Nat):∀l:List AV,(AV.fgts hs l).length=l.length
 | []=>rfl
 | _ :: r=>by simp[AV.fgts,S4 hs r]
theorem B8 (a hs:List Nat) (n:Nat):∀l:List (Nat×Obj),lk n (Aw a hs l)=if Ab n a=true then none else (lk n l).map (Obj.fgt hs)
 | []=>by simp[Aw,lk]
 | (j,o) :: l=>by
  simp only[Aw];by_cases b:Ab j a=true
  .rw[Bq b,B8 a hs n l];grind [lk]
  rw[As b];simp only[lk];by_cases hn:n=j
  .subst hn;simp[b]
  simp[hn,B8 a hs n l]
theorem cX {V V':Vw} {hs:List Nat} (hk:Cs (V.buts hs) V') {o:Obj} {loc:Value} (a:∀b,bk loc b->V'.w.heap[b]?=V.w.heap[b]?) (h:A4 V o loc):A4 V' (o.fgt hs) loc:=by
 cases o with
 | arr et e xs=>exact A4.keeps (V:=V.buts hs) hk a h
 | box et st fs =>
  obtain⟨h0,b,cs,hl,hh,d⟩:=h;exact A4.keeps (V:=V.buts hs) (o:=.box et st (AV.fgts hs fs)) hk a ⟨λf=>by rw[S4];exact h0 f,b,cs,hl,hh,QP d⟩
 | mapo k v l=>exact A4.keeps (V:=V.buts hs) hk a h
 | nest et i k e xs hl=>exact A4.keeps (V:=V.buts hs) (o:=.nest et i k e xs hl) hk a (NH (V:=V) (V':=V.buts hs) rfl rfl h)
 | frame j fs =>
  obtain⟨h0,h1⟩:=h;refine A4.keeps (V:=V.buts hs) (o:=.frame j (CR hs fs)) hk a ⟨h0,λs z c=>?_⟩;rw[Eu]at c;simp only[ON]at c;obtain⟨y,g,rfl⟩:=c;exact Ul (h1 s y g)
 | loop L=>exact A4.keeps (V:=V.buts hs) hk a h
 | itr n r p q m=>exact A4.keeps (V:=V.buts hs) hk a h
 | dfr=>exact A4.keeps (V:=V.buts hs) hk a h
section
variable {w0:World} {K O0:Nat->Prop} {nt:Nat} {ds:Fp} {σ:St} {ρ:Nat->Value} {a:Act} {w:World}
theorem CB.swap (h:CB w0 K O0 nt ds σ ρ a w) (G:∀b,K b->b<w0.heap.size) (aa:∀b,O0 b->b<w0.heap.size) {T:Nat->Prop} (hT:∀n,T n->Gz n=false/\∃o,lk n σ.objs=some o/\seat (ρ n))
  {new:List (Nat×Obj)} {σ':St} {ρ':Nat->Value} {w':World} {dst:Option Nat} {u:Value}
  (U:w'.os=w.os) (Y:w'.tape=w.tape) (V:w'.output=w.output) (W:w.heap.size<=w'.heap.size)
  (L:∀b,b<w.heap.size->(∀n,T n->¬bk (ρ n) b)->w'.heap[b]?=w.heap[b]?)
  (r:∀n o,lk n σ'.objs=some o->lk n new=none->¬T n/\∃d,lk n σ.objs=some d)
  (M:∀n o,lk n σ.objs=some o->¬T n->lk n new=none/\∃d,lk n σ'.objs=some d)
  (l:∀n,lk n new=none->ρ' n=ρ n)
  (C:∀n o b,lk n new=some o->bk (ρ' n) b->(∃m,T m/\bk (ρ m) b)\/w.heap.size<=b)
  (H:∀n m o t b,lk n new=some o->lk m new=some t->bk (ρ' n) b->bk (ρ' m) b->n=m)
  (S:∀n o,lk n σ'.objs=some o->A4 (vw w' O0 σ' ρ') o (ρ' n))
  (I:∀s v,lk s σ'.env=some v->B3 (vw w' O0 σ' ρ') v ((a.put dst u).tmps.getD s undef)) :
  CB w0 K O0 nt ds σ' ρ' (a.put dst u) w':=by
 have ab:∀m,T m->∀b,bk (ρ m) b->b<w.heap.size:=λm c b i=>by
  obtain⟨_,o,g,_⟩:=hT m c;exact(h.objs m o g).block_lt i
 have z:∀m,T m->∀b,bk (ρ m) b->¬K b/\¬O0 b:=λm c b i=>by
  obtain⟨_,o,g,_⟩:=hT m c;exact h.free m b ⟨o,g⟩ i
 refine⟨⟨U.trans h.frm.os,Y.trans h.frm.tape,V.trans h.frm.output,UR h.frm.size W,λk hk=>?_⟩,by rw[QF];exact h.nt,by rw[Kx];exact h.defers,λp hp=>?_,S,?_,?_,I⟩
 .exact(L k (ZW (G k hk) h.frm.size) λn hn i=>(z n hn k i).1 hk).trans (h.frm.block k hk)
 .obtain⟨⟨o,h1⟩,f,j⟩:=h.pin p hp;have O:¬T p.1:=λX=>by
   obtain⟨hf,_,_,hs⟩:=hT _ X;rw[f]at hs;rcases j with j|j
   .rcases hs with ⟨_,_,_,y⟩|⟨_,y⟩<;>rw[y]at j<;>cases j
   rw[hf]at j;cases j
  obtain⟨E,F⟩:=M p.1 o h1 O;exact⟨F,(l _ E).trans f,j⟩
 .intro n b hl i;obtain⟨o,g⟩:=hl;cases hn:lk n new with
  | none =>
   obtain⟨_,d,h1⟩:=r n o g hn;rw[l n hn]at i;exact h.free n b ⟨d,h1⟩ i
  | some e =>
   rcases C n e b hn i with ⟨m,c,x⟩|J
   .exact z m c b x
   have:=h.frm.size;grind
 have key:∀n m o e b,lk n σ'.objs=some o->lk n new=none->lk m new=some e->bk (ρ' n) b->bk (ρ' m) b->False:=by
  intro n m o e b g hn c h1 f;obtain⟨P,d,q⟩:=r n o g hn;rw[l n hn]at h1;rcases C m e b c f with ⟨D,A,x⟩|J
  .obtain⟨_,Z,R,_⟩:=hT D A;have:=h.dist n D b ⟨d,q⟩ ⟨Z,R⟩ h1 x;exact P (this▸A)
  have ad:b<w.heap.size:=(h.objs n d q).block_lt h1;omega
 intro n m b hl N h1 f;obtain⟨o,g⟩:=hl;obtain⟨t,B⟩:=N;cases hn:lk n new with
 | none =>
  cases c:lk m new with
  | none =>
   obtain⟨_,d,q⟩:=r n o g hn;obtain⟨_,e,Q⟩:=r m t B c;rw[l n hn]at h1;rw[l m c]at f;exact h.dist n m b ⟨d,q⟩ ⟨e,Q⟩ h1 f
  | some e=>exact(key n m o e b g hn c h1 f).elim
 | some d =>
  cases c:lk m new with
  | none=>exact(key m n t d b B c hn f h1).elim
  | some e=>exact H n m d e b hn c h1 f
end
end
section
open Go Go.RowKit
structure Rm (V V':Vw) (n:Nat) (hs:List Nat):Prop where
 O:∀b,b<V.w.heap.size->¬V.O b->¬V'.O b
 L:∀m,V.L m->Ab m hs=false->V'.L m
 ρ:∀m,V.L m->Ab m hs=false->m≠n->V'.ρ m=V.ρ m
 tup:∃vs,V.ρ n=.tuple vs
 plc:plc (V'.ρ n)=plc (V.ρ n)
 heap:∀b,b<V.w.heap.size->¬V.O b->V'.w.heap[b]?=V.w.heap[b]?
section
variable {V V':Vw} {n:Nat} {hs:List Nat}
theorem Rm.pl (h:Rm V V' n hs) {m:Nat} (a:V.L m) (b:Ab m hs=false):Fw.plc (V'.ρ m)=Fw.plc (V.ρ m):=by
 by_cases e:m=n
 .subst e;exact h.plc
 rw[h.ρ m a b e]
theorem Rm.ptr (h:Rm V V' n hs) {m:Nat} (b:V.L m) (c:Ab m hs=false) {v:Value} (d:V.ρ m=v) (f:∀a,v≠.tuple a):V'.ρ m=v:=by
 have e:m≠n:=λe=>by
  obtain⟨a,h1⟩:=h.tup;grind
 rw[h.ρ m b c e,d]
theorem cZ (h:Rm V V' n hs) {x:AV} {v:Value} (hx:VX V x v):VX V' (x.trn n hs) v:=by
 cases x;case ag l=>exact hx.elim
 case tup l=>exact hx.elim
 case p t d=>simp only[AV.trn];exact BS.mono h.O h.heap hx
 case pc e d=>simp only[AV.trn];exact⟨BS.mono h.O h.heap hx.1,hx.2⟩
 case raw u=>simp only[AV.trn];exact hx
 case fn f=>simp only[AV.trn];exact hx
 case top=>trivial
 case ip t d =>
  simp only[AV.trn];obtain⟨ad,cs,k,o,q,A⟩:=hx;have r:ad.block<V.w.heap.size:=by
   have hp:=t.size_pos;have hl:=A.length;have:=block_lt_of_cell (q 0 (cs[0]'(by omega)) (AT (by omega)))
   rwa [CN]at this
  refine⟨ad,cs,k,h.O _ r o,λj u B=>?_,B0.mono h.O h.heap A⟩;rw[AFS (w:=V.w) (w':=V'.w)]
  .exact q j u B
  rw[CN];exact h.heap _ r o
 case sr m e lo hi =>
  simp only[AV.trn];split
  .trivial
  rename_i a;have a:Ab m hs=false:=by simpa using a
  exact⟨h.L m hx.1 a,by rw[h.pl hx.1 a];exact hx.2⟩
 case ep m e i D off =>
  simp only[AV.trn];split
  .trivial
  rename_i a;have a:Ab m hs=false:=by simpa using a
  exact⟨h.L m hx.1 a,by rw[h.pl hx.1 a];exact hx.2⟩
 case nin m e i len =>
  simp only[AV.trn];split
  .trivial
  rename_i a;have C:m≠n:=λe=>a (.inl e);have s:Ab m hs=false:=by grind
  exact⟨h.L m hx.1 s,by rw[h.ρ m hx.1 s C];exact hx.2⟩
 case bp m D off =>
  simp only[AV.trn];split
  .trivial
  rename_i a;have a:Ab m hs=false:=by simpa using a
  obtain⟨c,b,g,k⟩:=hx;exact⟨h.L m c a,b,h.ptr c a g (λ_ e=>by cases e),k⟩
 case mp m =>
  simp only[AV.trn];split
  .trivial
  rename_i a;have a:Ab m hs=false:=by simpa using a
  obtain⟨c,b,g,k⟩:=hx;exact⟨h.L m c a,b,h.ptr c a g (λ_ e=>by cases e),k⟩
 case yl m =>
  simp only[AV.trn];split
  .trivial
  rename_i a;have a:Ab m hs=false:=by simpa using a
  obtain⟨c,b,g,k⟩:=hx;exact⟨h.L m c a,b,h.ptr c a g (λ_ e=>by cases e),k⟩
 case clo f ns =>
  simp only[AV.trn];split
  .trivial
  rename_i E;have y:∀m∈ns,Ab m hs=false:=λm a=>by grind
  have z:∀m∈ns,V'.ρ m=V.ρ m:=λm a=>by
   obtain⟨c,b,g⟩:=hx.2 m a;rw[h.ptr c (y m a) g (λ_ e=>by cases e),g]
  refine⟨?_,λm a=>⟨h.L m (hx.2 m a).1 (y m a),by rw[z m a];exact(hx.2 m a).2⟩⟩;rw[hx.1]
  congr 2
  exact Of λm a=>(z m a).symm
theorem A74 (h:Rm V V' n hs) {x:AV} {cs:List Value} (hx:Nv V x cs):Nv V' (x.trn n hs) cs:=by
 cases x;case p t d=>simp only[AV.trn];exact(B0.mono h.O h.heap hx:B0 V'.w V'.O t cs d)
 case ag l=>obtain⟨v,_,_,hf⟩:=hx;exact hf.elim
 case tup l=>obtain⟨v,_,_,hf⟩:=hx;exact hf.elim
 all_goals
  obtain⟨v,rfl,h1,c⟩:=hx;have a:=cZ h c;simp only[AV.trn]at a ⊢;first
   | exact⟨v,rfl,h1,a⟩
   | (split at a<;>rename_i b<;>first|(rw[Bq b];exact⟨v,rfl,h1,a⟩)|(rw[As b];exact⟨v,rfl,h1,a⟩))
theorem QQ (h:Rm V V' n hs):∀ {l:List AV} {cs:List Value},Dd V l cs->Dd V' (AV.trns n hs l) cs
 | [],cs,hx=>(hx:cs=[])
 | x :: r,cs,hx=>by
  obtain⟨c1,c2,rfl,h1,a⟩:=hx;simp only[AV.trns];exact⟨c1,c2,rfl,A74 h h1,QQ h a⟩
theorem A75 (h:Rm V V' n hs) {x:AV} {v:Value} (hx:Sw V x v):Sw V' (x.trn n hs) v:=by
 cases x;case ag l=>obtain⟨cs,h1,a⟩:=hx;simp only[AV.trn];exact⟨cs,h1,QQ h a⟩
 all_goals exact Sw.of1 (cZ h hx)
theorem iU (h:Rm V V' n hs):∀ {l:List AV} {a:List Value},IB V l a->IB V' (AV.trns n hs l) a
 | [],a,hx=>(hx:a=[])
 | x :: r,a,hx=>by
  obtain⟨v,c,rfl,h1,b⟩:=hx;simp only[AV.trns];exact⟨v,c,rfl,A75 h h1,iU h b⟩
theorem c5 (h:Rm V V' n hs) {x:AV} {v:Value} (hx:B3 V x v):B3 V' (x.trn n hs) v:=by
 cases x;case ag l=>obtain⟨cs,h1,a⟩:=hx;simp only[AV.trn];exact⟨cs,h1,QQ h a⟩
 case tup l=>obtain⟨b,h1,a⟩:=hx;simp only[AV.trn];exact⟨b,h1,iU h a⟩
 all_goals exact A70 (cZ h hx)
theorem Hv (n:Nat) (hs:List Nat) (s:Nat):∀l:List (Nat×AV),lk s (E7 n hs l)=(lk s l).map (AV.trn n hs)
 | []=>rfl
 | (j,v) :: l=>by
  simp only[E7,lk];split
  .rfl
  exact Hv n hs s l
theorem S5 (n:Nat) (hs:List Nat):∀l:List AV,(AV.trns n hs l).length=l.length
 | []=>rfl
 | _ :: r=>by simp[AV.trns,S5 n hs r]
theorem Ei (n:Nat) (hs:List Nat) (m:Nat):∀l:List (Nat×Obj),lk m (DJ n hs l)=if Ab m (n :: hs)=true then none else (lk m l).map (Obj.trn n hs)
 | []=>by simp[DJ,lk]
 | (j,o) :: l=>by
  simp only[DJ];by_cases a:Ab j (n :: hs)=true
  .rw[Bq a,Ei n hs m l];grind [lk]
  rw[As a];simp only[lk];by_cases b:m=j
  .subst b;simp[a]
  simp[b,Ei n hs m l]
theorem tI (h:Rm V V' n hs) {o:Obj} {loc:Value} (a:∀b,bk loc b->V'.w.heap[b]?=V.w.heap[b]?) (hx:A4 V o loc):A4 V' (o.trn n hs) loc:=by
 have hk:Cs ⟨V.w,V.O,λ_=>False,V.ρ⟩ V':=⟨h.O,λ_ h=>h.elim,λ_ h=>h.elim,h.heap⟩;cases o with
 | arr et e xs=>exact A4.keeps (V:=⟨V.w,V.O,λ_=>False,V.ρ⟩) (o:=.arr et e xs) hk a hx
 | box et st fs =>
  obtain⟨h0,b,cs,rfl,h1,d⟩:=hx;exact⟨λf=>by rw[S5];exact h0 f,b,cs,rfl,(a b (.inl rfl)).trans h1,QQ h d⟩
 | mapo k v l=>exact A4.keeps (V:=⟨V.w,V.O,λ_=>False,V.ρ⟩) (o:=.mapo k v l) hk a hx
 | nest et j k e xs hl=>exact A4.keeps (V:=⟨V.w,V.O,λ_=>False,V.ρ⟩) (o:=.nest et j k e xs hl) hk a (NH (V:=V) (V':=⟨V.w,V.O,λ_=>False,V.ρ⟩) rfl rfl hx)
 | frame t fs =>
  obtain⟨h0,h1⟩:=hx;refine⟨h0,λs z c=>?_⟩;rw[Hv]at c;simp only[ON]at c;obtain⟨y,g,rfl⟩:=c;exact c5 h (h1 s y g)
 | loop L=>exact A4.keeps (V:=⟨V.w,V.O,λ_=>False,V.ρ⟩) (o:=.loop L) hk a hx
 | itr m r p q i=>exact A4.keeps (V:=⟨V.w,V.O,λ_=>False,V.ρ⟩) (o:=.itr m r p q i) hk a hx
 | dfr=>exact A4.keeps (V:=⟨V.w,V.O,λ_=>False,V.ρ⟩) (o:=.dfr) hk a hx
end
end
section
open Go Go.RowKit
theorem oK {t:Ty} (h:t.cell1=true):t.size=1:=by cases t<;>simp[Ty.cell1]at h<;>rfl
theorem Zh {V:Vw} {ty:Ty} {x:AV} {a:List Value} (hx:Nv V x a) (hf:OD ty x=true):a.length=ty.size:=by
 by_cases b:x=.top
 .subst b;obtain⟨v,rfl,_⟩:=hx;grind [OD,oK]
 have hf:CZ ty x=true:=by cases x<;>first|exact hf|exact absurd rfl b
 exact(oG hx hf).1
theorem A16 {V:Vw} {ty:Ty} {st:Bool} {fs j:List AV} {o:List Nat} {off:Nat} {u v:AV} {cs c:List Value} (f:Dd V fs cs) (F:st=false->fs.length=1)
  (h:Ks st fs v o=some j) (g:Pz fs o=some off) (hl:Jv st fs o=some u) (hu:OD ty u=true) (N:CZ ty v=true)
  (J:∀l,v=.ag l->Dd V l c) (n:(∀l,v≠.ag l)->Nv V v c) (K:c.length=ty.size) :
  off+c.length<=cs.length/\Dd V j (A0 cs off c)/\(st=false->j.length=1):=by
 unfold Ks at h;split at h
 .simp only[Pz]at g;cases g;simp only[Jv]at hl;cases st with
  | true =>
   simp only[ZU]at h hl;cases hl;have M:cs.length=ty.size:=by
    have:=f.length;cases ty<;>simp only[OD,CZ]at hu<;>try(cases hu;done)
    grind [Ty.size]
   rw[Ds (by omega)];split at h
   .grind [Nv,B0,A3l]
   .grind
   cases h
  | false =>
   simp only[Yg,iN]at h hl;split at h
   .rename_i b;have b:∀l,v≠.ag l:=λl e=>by subst e;simp[QB]at b
    cases h;obtain⟨x,rfl⟩:=ABO.1 (F rfl);simp at hl;subst hl;obtain⟨c1,c2,rfl,h1,a⟩:=f;have a:c2=[]:=a;subst a;have A:=Zh h1 hu;rw[Uh,Ds (by omega)];exact⟨by omega,⟨c,[],by simp,n b,rfl⟩,by simp⟩
   cases h
 .rename_i k;split at h
  .rename_i q;simp only[An]at q;obtain⟨rfl,b⟩:=q;have b:∀l,v≠.ag l:=λl e=>by subst e;simp[QB]at b
   cases h;simp only[Jv,ZU]at hl;obtain⟨h1,a⟩:=f.get hl;have A:=Zh a hu;have I:=a.length;have E:off=CH fs k:=by grind [Pz,Lw]
   subst E;have i:=n b;have m:=i.length;exact⟨by omega,f.set hl i (by omega),by simp⟩
  cases h
 rename_i k r L;cases st with
 | false=>simp at h
 | true =>
  simp only[ZU]at h;split at h
  .rename_i t d H x hk;simp only[ON]at h;obtain⟨y,G,rfl⟩:=h;simp only[Pz,hk,ON]at g;obtain⟨P,D,rfl⟩:=g;obtain⟨h1,a⟩:=f.get hk;have z:B0 V.w V.O t _ d:=a;have i:B0 V.w V.O H c x:=n (by simp);obtain⟨m,B⟩:=Vc G D z i;have C:=a.length;simp only[AV.cells]at h1 C B m;have s:=f.set (y:=.p t y) hk (m:B0 V.w V.O t _ y) rfl;rw[OJ _ _ _ _ _ (by omega) h1]at s;exact⟨by omega,s,by simp⟩
  cases h
section
variable {P:Program} {tb:Tb} {w0:World} {K O0:Nat->Prop} {nt:Nat} {ds:Fp} {σ σ':St} {ρ:Nat->Value} {a:Act} {w:World} {vc:Prop}
theorem S6 {n:Nat} {o:Obj} (hn:lk n σ.objs=some o) {g:Nat} (c:blk (ρ n)=some g) {w':World} (d:w.grownBy w' (some g)):Cs (vw w O0 σ ρ) (vw w' O0 σ ρ) :=
 ⟨λ_ _ h=>h,λ_ h=>h,λ_ _=>rfl,λb f a=>d.block b f (λe=>by injection e with e;subst e;exact a (.inr ⟨n,⟨o,hn⟩,.inl c⟩))⟩
theorem F4 (w:World) (g:Nat) (cs:Array Value):w.grownBy (w.setRow g cs) (some g) :=
 ⟨rfl,rfl,rfl,by simp,λk _ hk=>setRow_other w g k cs (λe=>hk (by rw[e]))⟩
theorem MA {id:TypeId} {ti:TI} (hT:EP P tb id ti) {g off:Nat} {cs:List Value} {et:TypeId} {xv:Value} (hh:w.heap[g]?=some (.cells cs.toArray et (0,0))) (hs:xv.cells.size=ti.ty.size)
  (hl:off+xv.cells.toList.length<=cs.length) (h1:∀u∈xv.cells.toList,u.oneCell'=true) :
  (Instr.storeAt id (.pointer (some ⟨g,off,none⟩)) xv).run P w=.ok () (w.setRow g (A0 cs off xv.cells.toList).toArray):=by
 have a:=run_storeCells_at P g off et xv.cells.toList 0 cs.toArray w hh (by simpa using hl) h1;simp only[Nat.add_zero]at a;have b:¬xv.cells.size≠ti.ty.size:=by omega
 simp only[Instr.storeAt,Instr.sureAddr,storeVar,gO,AF6,Yj,ID w hT,As b,a];rfl
theorem tJ {o:Oper} {w':World} {next:Act->World->Prop} {Q:Exit->Act->World->Prop} {r:Option Nat} (h:(execOp a.eval o).run P w=.ok .skip w') (hn:next (a.put o.dst undef) w') (b:∀c,o.op≠.defer c:=by intro c e;cases e):o.wpIn (FR r) 0 P a w next Q:=by
 refine⟨λ_ _=>trivial,?_⟩;rw[G8 _ _ _ b,h];exact hn
theorem A17 (hs:CB w0 K O0 nt ds σ ρ a w) (ak:∀b,K b->b<w0.heap.size) (hT:DH P tb) {id:TypeId} {x y:Operand} (bs:∀n e i s off,Aq σ x=some (.ep n e i s off)->Cp (lk n σ.objs)=false) (h:H9 σ (lk id tb.ty) (Aq σ x) (Aq σ y)=some (vc,σ')) (cw:vc) :
  ∃w',(Instr.storeAt id (a.eval x) (a.eval y)).run P w=.ok () w'/\CB w0 K O0 nt ds σ' ρ a w':=by
 have G:Hg (vw w O0 σ ρ) σ a.eval:=F3 hs.env;unfold H9 at h;split at h
 .rename_i ti n s off v aa hx af;have ae:=G x _ hx;have D:=G y _ af;cases hn:lk n σ.objs with
  | none=>rw[hn]at h;simp[Da]at h
  | some o =>
   rw[hn]at h;cases o with
   | arr et e xs=>simp[Da]at h
   | mapo k v l=>simp[Da]at h
   | frame cl fs=>simp[Da]at h
   | loop L=>simp[Da]at h
   | itr cg cj ch ci ce=>simp[Da]at h
   | dfr=>simp[Da]at h
   | nest et cf k e xs hl=>simp[Da]at h
   | box et st fs =>
    simp only[Da]at h;cases I:Jv st fs s with
    | none=>rw[I]at h;simp[FE]at h
    | some u =>
     cases Y:Ks st fs v s with
     | none=>rw[I,Y]at h;simp[FE]at h
     | some co =>
      rw[I,Y]at h;simp only[FE]at h;split at h
      .rename_i ax;obtain⟨hu,ab,bt,_⟩:=ax;cases h;obtain⟨bz,b,cs,U,C,bh⟩:=hs.objs n _ hn;obtain⟨bf,b',f,ad⟩:=ae;have f:ρ n=_:=f;rw[U]at f;injection f with f
       injection f with f
       injection f with f
       subst f;have H:=A3d D ab (OK D ab);have al:∀l,v=.ag l->Dd (vw w O0 σ ρ) l (a.eval y).cells.toList:=by
        intro l e;subst e;obtain⟨cn,A,bi⟩:=D;rw[A];simpa[Value.cells] using bi
       obtain⟨h1,Q,bc⟩:=A16 bh bz Y bt I hu ab al (λJ=>H.2 J) (by simpa using H.1);have bv:∀z∈(a.eval y).cells.toList,z.oneCell'=true:=by
        by_cases J:∃l,v=.ag l
        .obtain⟨l,e⟩:=J;exact(al l e).one
        exact(H.2 (λl e=>J ⟨l,e⟩)).one
       have X:=MA (hT _ _ aa) C H.1 h1 bv;rw[ad];refine⟨_,X,?_⟩;have t:blk (ρ n)=some b:=by rw[U];rfl
       refine hs.upd ak hn t (F4 w b _) ⟨bc,b,_,U,setRow_heap w b _ _ et _ C,?_⟩;exact Q.keeps (S6 hn t (F4 w b _))
      cases h
 .rename_i ti n e i s off v aa hx af;have ae:=G x _ hx;have D:=G y _ af;cases hn:lk n σ.objs with
  | none=>rw[hn]at h;simp[Db]at h
  | some o =>
   rw[hn]at h;cases o with
   | box et st fs=>simp[Db]at h
   | mapo k v l=>simp[Db]at h
   | frame cl fs=>simp[Db]at h
   | loop L=>simp[Db]at h
   | itr cg cj ch ci ce=>simp[Db]at h
   | dfr=>simp[Db]at h
   | nest et cf k e xs hl=>have:=bs _ _ _ _ _ hx;rw[hn]at this;cases this
   | arr et d xs =>
    simp only[Db]at h;cases S:BQ (.slice e) ⟨.slice d,xs⟩ with
    | none=>rw[S]at h;simp[Ee]at h
    | some ys =>
     obtain⟨rfl,Q⟩:=Bi S;cases Q;rw[S]at h;cases R:ND false σ ti.ty v with
     | none=>rw[R]at h;simp[Ee]at h
     | some cm =>
      rw[R]at h;simp only[Ee]at h;cases Z:VU s d (xs.getD i d.dflt) ⟨ti.ty,cm⟩ with
      | none=>rw[Z]at h;simp[F0]at h
      | some z =>
       rw[Z]at h;simp only[F0]at h;split at h
       .rename_i bu;cases h;obtain⟨bq,cells,M,F⟩:=hs.objs n _ hn;obtain⟨bf,g,m,c,f,W,ad⟩:=ae;have f:plc (ρ n)=_:=f;have M:w.ownsRow 0 et d.size (ρ n) xs.length cells:=M;rw[Hf M]at f;have F:Dk w (own O0 σ ρ) d cells xs:=F;have cc:=Lg (V:=vw w O0 σ ρ) (O':=own O0 σ ρ) (λ_ h=>h) (λh=>by cases h) hs.objs R D;obtain⟨aw,av⟩:=Zb cc;obtain⟨au,bw⟩:=M;rcases bw with ⟨A,_⟩|⟨cp,cap,r,A,cr,C,an,bg,T,ca⟩
        .grind
        rw[f]at A;injection A with B bj bk
        injection B with B
        injection B with B
        subst B;subst bj;have cd:xs[i]?=some (xs.getD i d.dflt):=by
         rw[AT W,AS,AT W];rfl
        obtain⟨aj,bm,ap,bl⟩:=F i _ cd;obtain⟨bd,be⟩:=Vc Z bu bl av;have cq:cells.length=xs.length*d.size:=au;have bo:(i+1)*d.size<=xs.length*d.size:=Uc _ W;have ct:xs.length*d.size<=cap*d.size:=Uc _ an;rw[AA5]at bo;have am:i*d.size+off+(a.eval y).cells.toList.length<=r.toList.length:=by
         have bp:r.toList.length=cap*d.size:=by rw[<-T];simp
         have cv:(a.eval y).cells.toList.length=ti.ty.size:=by rw[<-aw];simp
         omega
        have bn:w.heap[g]?=some (.cells r.toList.toArray et (0,0)):=by simpa using C
        have X:=MA (hT _ _ aa) bn aw am av.one;rw[ad];refine⟨_,X,?_⟩;have t:blk (ρ n)=some g:=by rw[f];rfl
        have bx:(A0 r.toList (i*d.size+off) (a.eval y).cells.toList).length=r.size:=by rw[FH am];simp
        have cb:(A0 r.toList (i*d.size+off) (a.eval y).cells.toList).take (xs.length*d.size)=A0 cells (i*d.size+off) (a.eval y).cells.toList:=by
         rw[<-ca];apply AFL;intro j;simp only[A0,UT,YS,Yu,OS,Yv,List.take_take];have ah:min (i*d.size+off) r.toList.length=i*d.size+off:=by omega
         have E:min (i*d.size+off) (xs.length*d.size)=i*d.size+off:=by omega
         have ck:min (xs.length*d.size) r.toList.length=xs.length*d.size:=by
          have bp:r.toList.length=cap*d.size:=by rw[<-T];simp
          omega
         simp only[ah,E,ck];by_cases c1:j<i*d.size+off
         .simp[c1,show j<xs.length*d.size by omega]
         by_cases c2:j-(i*d.size+off)<(a.eval y).cells.toList.length
         .simp only[c1,c2,iN,ZU,show j<xs.length*d.size by omega]
         simp only[c1,c2,iN];by_cases ai:j<xs.length*d.size
         .rw[Bq ai,Bq (by omega)]
         rw[As ai,As (by omega)]
        refine hs.upd ak hn t (F4 w g _) ⟨by simpa using bq,A0 cells (i*d.size+off) (a.eval y).cells.toList,⟨?_,.inr ⟨g,cap,_,by rw[f,bk];simp,Is _,setRow_heap w g _ _ et _ C,by simpa using an,bg,by simp[bx,T],?_⟩⟩,?_⟩
        .rw[FH (by omega)];simpa using au
        .simpa using cb
        have hk:=S6 (O0:=O0) hn t (F4 w g (A0 r.toList (i*d.size+off) (a.eval y).cells.toList).toArray);have br:Dk (vw w O0 σ ρ).w (vw w O0 σ ρ).O d (A0 cells (i*d.size+off) (a.eval y).cells.toList) (xs.set i z):=by
         intro k q N;rw[ZS]at N;split at N
         .rename_i aq;subst aq;cases N;refine⟨A0 aj off (a.eval y).cells.toList,by rw[FH be];exact bm,λj u p=>?_,bd⟩;simp only[A0,UT,Yu,OS,YS,Yv]at p ⊢;have ah:min off aj.length=off:=by omega
          have E:min (i*d.size+off) cells.length=i*d.size+off:=by omega
          simp only[ah]at p;simp only[E];by_cases c1:j<off
          .simp only[c1,ZU]at p;simp only[show i*d.size+j<i*d.size+off by omega,ZU];exact ap _ _ p
          simp only[c1,iN]at p;simp only[show ¬i*d.size+j<i*d.size+off by omega,iN];rw[show i*d.size+j-(i*d.size+off)=j-off by omega];by_cases c2:j-off<(a.eval y).cells.toList.length
          .simp only[c2,ZU]at p ⊢;exact p
          simp only[c2,iN]at p ⊢;have:=ap _ _ p;rw[<-this]
          congr 1
          omega
         rename_i aq;obtain⟨ay,az,ba,bb⟩:=F k q N;refine⟨ay,az,λj u p=>?_,bb⟩;have cu:=(UP.1 p).1;have ao:=ba j u p;simp only[A0,UT,Yu,OS,YS,Yv];have E:min (i*d.size+off) cells.length=i*d.size+off:=by omega
         simp only[E];rcases Nat.lt_or_ge k i with ar|ar
         .have:(k+1)*d.size<=i*d.size:=Uc _ ar;rw[AA5]at this;simp only[show k*d.size+j<i*d.size+off by omega,ZU];exact ao
         have:(i+1)*d.size<=k*d.size:=Uc _ (by omega);rw[AA5]at this;simp only[show ¬k*d.size+j<i*d.size+off by omega,iN,show ¬k*d.size+j-(i*d.size+off)<(a.eval y).cells.toList.length by omega];rw[<-ao]
         congr 1
         omega
        exact br.keeps hk
       cases h
 cases h
theorem A18 (hs:CB w0 K O0 nt ds σ ρ a w) (B:∀b,K b->b<w0.heap.size) (s:DH P tb) {t:TypeId} {m x y:Operand} (h:Kv tb σ (lk t tb.ty) (Aq σ m) (Aq σ x) (Aq σ y)=some (vc,σ')) :
  ∃w',(Instr.mapUpdate t (a.eval m) (a.eval x) (a.eval y)).run P w=.ok () w'/\CB w0 K O0 nt ds σ' ρ a w':=by
 have g:Hg (vw w O0 σ ρ) σ a.eval:=F3 hs.env;unfold Kv at h;split at h
 .rename_i k e _ _ n xv U N J hx Q;have O:=g x _ hx;have R:=g y _ Q;obtain⟨W,b,d,L⟩:=g m _ J;have d:ρ n=_:=d;cases hn:lk n σ.objs with
  | none=>rw[hn]at h;simp[F1]at h
  | some o =>
   rw[hn]at h;cases o with
   | mapo X T l =>
    cases j:lk k tb.ty with
    | none=>simp[F1,j]at h
    | some S =>
     simp only[F1,j,ABw,ZQ]at h;split at h
     .rename_i E;obtain⟨rfl,F⟩:=E;cases f:ND false σ S.ty xv with
      | none=>rw[f]at h;simp[Gx]at h
      | some kd =>
       cases p:ND false σ T U with
       | none=>rw[f,p]at h;simp[Gx]at h
       | some Z =>
        rw[f,p]at h;simp only[Gx]at h;split at h
        .rename_i H;cases h;have h1:=Lg (V:=vw w O0 σ ρ) (O':=own O0 σ ρ) (λ_ h=>h) (λh=>by cases h) hs.objs f O;have A:=Lg (V:=vw w O0 σ ρ) (O':=own O0 σ ρ) (λ_ h=>h) (λh=>by cases h) hs.objs p R;obtain⟨b',r,q,c,M,⟨Y,z⟩,G,D⟩:=AAL (w:=w) (V:=vw w O0 σ ρ) s (s _ _ N) (n:=n) rfl rfl j rfl (hs.objs n _ hn) F H h1 A;have c:ρ n=_:=c;rw[d]at c;injection c with c
         injection c with c
         subst c;rw[L];refine⟨_,M,?_⟩;have u:blk (ρ n)=some b:=by rw[d];rfl
         have v:w.grownBy { w with heap:=w.heap.setIfInBounds b (.map r q) } (some b) :=
          ⟨rfl,rfl,rfl,by simp,λi _ hi=>(MapKept.heap_set z).2 i (λe=>hi (by rw[e]))⟩
         refine hs.upd B hn u v ⟨b,r,q,d,(MapKept.heap_set z).1,?_⟩;refine⟨?_,D⟩;exact G.mono (λ_ _ h=>h) (λb2 I C=>v.block b2 I (λe=>by injection e with e;subst e;exact C (.inr ⟨n,⟨_,hn⟩,.inl u⟩)))
        cases h
     cases h
   | _=>simp[F1]at h
 cases h
end
end
section
open Go Go.RowKit
section
variable {P:Program} {tb:Tb} {w0:World} {K O0:Nat->Prop} {nt:Nat} {ds:Fp} {σ σ':St} {ρ:Nat->Value} {a:Act} {w:World} {vc:Prop} {id:TypeId}
theorem Um {w:World} {base:Nat} {et:TypeId} {sz n:Nat} {s:Value} {xs:List Value} (h:w.ownsRow base et sz s n xs):s.ownBlock=blk s:=by
 rcases h.2 with ⟨rfl,_⟩|⟨g,cap,a,rfl,_⟩<;>rfl
theorem Hh (t:DH P tb) {el:TypeId} {e:Ty} (hu:P.underlying id=some (.slice el)) {te:TI} (y:lk el tb.ty=some te) (I:te.ty=e) {base ty:Nat} {s xv:Value} {n:Nat} {xs B:List Value}
  (p:w.ownsRow base el e.size s n xs) {O:Nat->Prop} {ys:List e.den} (S:Src w O e xv ys B) (T:(n+ys.length)*te.bytes<=AQ) {f:Value} {w':World}
  (h:(Builtin.append_ #[id,id] ty #[s,xv]).run P w=.ok f w'):blk f=blk s\/∀b,blk f=some b->w.heap.size<=b:=by
 subst I;obtain⟨⟨⟨_,G,_⟩,i,z,hi,k,v,A,ah⟩,_⟩:=t _ _ y;have Q:n+ys.length<=AQ:=by
  have:(n+ys.length)*1<=(n+ys.length)*te.bytes:=ABM _ G;omega
 have ab:AQ=140737488355328:=rfl;obtain⟨⟨a,c,rfl,E⟩,L,Y,af,aa⟩:=S;have hs:(sizeOf el).run P w=.ok te.ty.size w:=ID w (t _ _ y);have ai:∀ {l C:Nat} {W:World},Result.ok (Value.slice (some ⟨w.heap.size,0,none⟩) l C) W=Result.ok f w'->blk f=blk s\/∀b,blk f=some b->w.heap.size<=b:=by grind [blk]
 have U:∀(ad:Addr) (m:Nat) (d:List Value),d.length=m*te.ty.size->(∀(j:Nat) (u:Value),d[j]?=some u->w.cell? (ad.add j)=some u)->(∀u∈d,u.oneCell'=true)->n+m<=AQ->(n+m)*te.bytes<=AQ ->
   (Builtin.append_ #[id,id] ty #[s,.slice (some ad) m c]).run P w=.ok f w'->blk f=blk s\/∀b,blk f=some b->w.heap.size<=b:=by
  intro ad m d hl o h1 Z F h;rcases p.2 with ⟨rfl,rfl⟩|⟨g,cap,r,rfl,V,K,ae,X,H,ag⟩
  .by_cases M:m=0
   .subst M;have:d=[]:=UW (by simpa using hl);simp[Builtin.append_,UU hu,hs,Builtin.lenOf,Builtin.firstCells,loadCells,loadCellsFrom]at h;grind
   have:=run_append_nil (P:=P) w id ty el i z hu hi A ad m c d (by rw[k];exact hl) o (by omega) (by omega) (by rw[v];simp at F;omega);grind
  by_cases x:n+m<=cap
  .have J:n*i.size+d.length<=r.size:=by
    rw[hl,k,H,<-AFK];exact Uc _ x
   have:=run_append_room (P:=P) w id ty el i hu hi g n cap r K ad m c d (by rw[k];exact hl) o h1 x J;rw[this]at h;injection h with q D
   subst q;exact .inl rfl
  have R:∀j u,xs[j]?=some u->w.cell? ((⟨g,0,none⟩:Addr).add j)=some u:=p.cells (g:=g) rfl;have:=run_append_grow (P:=P) w id ty el i z hu hi A ⟨g,0,none⟩ n cap xs (by rw[k];exact p.1) R ad m c d (by rw[k];exact hl) o (by omega) (by omega) (by rw[v];exact growslice_fits (by omega) (by omega));grind
 rcases E with rfl|⟨ad,rfl,o⟩
 .have N:B=[]:=UW (by simpa using L);subst N;cases a with
  | none =>
   have:=Sz (P:=P) (ty:=ty) hu hs p c;rw[show ([]:List te.ty.den).length=0 from rfl,this]at h;injection h with q D
   subst q;exact .inl rfl
  | some ad=>exact U ad 0 [] (by simp) (by simp) (by simp) (by simpa using Q) (by simpa using T) h
 grind
theorem oL {w:World} {O:Nat->Prop} {e:Ty} {c:List Value} {xs:List e.den} (h:Dk w O e c xs) (n:Nat):Dk w O e (c.take (n*e.size)) (xs.take n):=by
 intro i x hi;rw[YS]at hi;split at hi
 .rename_i g;obtain⟨a,b,k,d⟩:=h i x hi;refine⟨a,b,λj u f=>?_,d⟩;have l:=(UP.1 f).1;have:(i+1)*e.size<=n*e.size:=Uc _ g;grind
 cases hi
theorem oM (hs:CB w0 K O0 nt ds σ ρ a w) (ab:∀b,K b->b<w0.heap.size) (ad:∀b,O0 b->b<w0.heap.size) (hT:DH P tb) {d:Option Nat} (af:∀k,d=some k->k<nt) {t u ty:TypeId} {x y:Operand}
  (h:EU tb σ d t u (Aq σ x) (Aq σ y)=some (vc,σ')) (ao:vc) (ae:∃n e hi,Aq σ x=some (.sr n e 0 hi)/\Cp (lk n σ.objs)=false) :
  ∃z w' ρ',(Builtin.append_ #[t,u] ty #[a.eval x,a.eval y]).run P w=.ok z w'/\CB w0 K O0 nt ds σ' ρ' (a.put d z) w':=by
 have M:Hg (vw w O0 σ ρ) σ a.eval:=F3 hs.env;obtain⟨n0,Z,aj,V,Q⟩:=ae;unfold EU at h;split at h
 .rename_i n e hi v hx ap;obtain⟨rfl,rfl,rfl⟩:n=n0/\e=Z/\hi=aj:=by rw[hx]at V;cases V;exact⟨rfl,rfl,rfl⟩
  split at h
  .rename_i d;split at h
   .rename_i G;obtain⟨G,ai⟩:=G;subst G;cases F:lk t tb.ty with
    | none=>rw[F]at h;simp[Ef]at h
    | some ti =>
     rw[F]at h;unfold Ef at h;split at h
     .rename_i j offs el b i;cases i;split at h
      .rename_i ag;subst ag;obtain⟨hu,be,te,E,S⟩:=Ca (hT _ _ F) hT;rw[E]at h;cases hn:lk n σ.objs with
       | none=>rw[hn]at h;cases f:Py σ j v<;>rw[f]at h<;>simp[Cg]at h
       | some o =>
        rw[hn]at h;cases o with
        | box et st fs=>cases f:Py σ j v<;>rw[f]at h<;>simp[Cg]at h
        | mapo aq v1 l=>cases f:Py σ j v<;>rw[f]at h<;>simp[Cg]at h
        | frame bn fs=>cases f:Py σ j v<;>rw[f]at h<;>simp[Cg]at h
        | loop L=>cases f:Py σ j v<;>rw[f]at h<;>simp[Cg]at h
        | itr bh bk bi bj bf=>cases f:Py σ j v<;>rw[f]at h<;>simp[Cg]at h
        | nest et bg aq e1 xs hl=>rw[hn]at Q;cases Q
        | dfr=>cases f:Py σ j v<;>rw[f]at h<;>simp[Cg]at h
        | arr et e2 xs =>
         simp only[Cg]at h;split at h
         .rename_i ah;subst ah;cases s:BQ (.slice j) ⟨.slice e2,xs⟩ with
          | none=>rw[s]at h;simp[FF]at h
          | some bo =>
           obtain⟨rfl,aa⟩:=Bi s;cases aa;rw[s]at h;cases f:Py σ e2 v with
           | none=>rw[f]at h;simp[FF]at h
           | some ys =>
            rw[f]at h;simp only[FF]at h;cases h;obtain⟨bl,D⟩:=Uk hs.objs f (M y _ ap);obtain⟨bd,cells,q,A⟩:=hs.objs n _ hn;have q:w.ownsRow 0 et e2.size (ρ n) xs.length cells:=q;have A:Dk w (own O0 σ ρ) e2 cells xs:=A;obtain⟨ay,X,m,c,p,bc,ba,W,Y,H,az,h0,h1⟩:=M x _ hx;have p:plc (ρ n)=.slice X m c:=p;rw[Hf q]at p;obtain⟨rfl,rfl⟩:=h0 rfl;simp only[Nat.sub_zero]at H;have bb:=q.1;have O:hi<=xs.length:=by
             rcases q.2 with ⟨i,am⟩|⟨g,cap,I,i,_⟩
             .rw[p]at i;injection i;omega
             rw[p]at i;injection i;omega
            have al:hi*e2.size<=xs.length*e2.size:=Uc _ O;have C:w.ownsRow 0 et e2.size (a.eval x) hi (cells.take (hi*e2.size)):=by
             rw[H];refine⟨by rw[OS];omega,?_⟩;rcases q.2 with ⟨i,am⟩|⟨g,cap,I,i,ar,au,bm,av,aw,ax⟩
             .rw[p]at i;injection i with e1 e2 r
              subst e1;subst r;have:hi=0:=by omega
              subst this;exact .inl ⟨rfl,rfl⟩
             rw[p]at i;injection i with e1 e2 r
             subst e1;subst r;refine .inr ⟨g,Y,I,rfl,ar,au,by omega,av,aw,?_⟩;rw[<-ax,List.take_take,AAS al]
            have T:(hi+ys.length)*te.bytes<=AQ:=ao;obtain⟨z,w',R,an,N,ak⟩:=Gc (ty:=ty) hT hu E S C D T (Is _);have U:=Hh (ty:=ty) hT hu E S C D T R;have J:blk (a.eval x)=blk (ρ n):=by
             rw[H,p];cases W<;>rfl
            rw[J]at U;rw[Um C,J]at N;refine⟨z,w',E9 ρ n z,R,?_⟩;have B:(xs.take hi++ys).length=hi+ys.length:=by simp;omega
            exact hs.app ab ad ai hn N U (by rw[B];exact ak) (by rw[B];exact an) (K0 (oL A hi) D.elems (by rw[OS,OS];rw[AAS O];omega)) (af d rfl) B.symm
         cases h
      cases h
     cases h
   cases h
  cases h
 .grind
 .grind
 cases h
theorem NK (n:Nat) (e:Ty) (xs:List e.den) (s:Nat):∀l:List (Nat×AV),lk s (DR n e xs l)=(lk s l).map (AV.frz n e xs)
 | []=>rfl
 | (j,v) :: l=>by
  simp only[DR,lk];split
  .rfl
  exact NK n e xs s l
def Obj.frz (n:Nat) (e:Ty) (xs:List e.den):Obj->Obj
 | .arr et a ys=>.arr et a ys
 | .box et st fs=>.box et st (AV.frzs n e xs fs)
 | .mapo k v l=>.mapo k v l
 | .nest et c k e ys h=>.nest et c k e ys h
 | .frame j fs=>.frame j (DR n e xs fs)
 | .loop L=>.loop L
 | .itr d i f g b=>.itr d i f g b
 | .dfr=>.dfr
theorem Cd (n:Nat) (e:Ty) (xs:List e.den) (s:Nat):∀l:List (Nat×Obj),lk s (A5 n e xs l)=(lk s l).map (Obj.frz n e xs)
 | []=>rfl
 | (j,.arr et a ys) :: l=>by
  simp only[A5,lk];split
  .rfl
  exact Cd n e xs s l
 | (j,.box et st fs) :: l=>by
  simp only[A5,lk];split
  .rfl
  exact Cd n e xs s l
 | (j,.mapo k v x) :: l=>by
  simp only[A5,lk];split
  .rfl
  exact Cd n e xs s l
 | (j,.nest _ _ _ _ _ _) :: l=>by
  simp only[A5,lk];split
  .rfl
  exact Cd n e xs s l
 | (j,.frame h fs) :: l=>by
  simp only[A5,lk];split
  .rfl
  exact Cd n e xs s l
 | (j,.loop L) :: l=>by
  simp only[A5,lk];split
  .rfl
  exact Cd n e xs s l
 | (j,.itr c g d f b) :: l=>by
  simp only[A5,lk];split
  .rfl
  exact Cd n e xs s l
 | (j,.dfr) :: l=>by
  simp only[A5,lk];split
  .rfl
  exact Cd n e xs s l
theorem S7 (n:Nat) (e:Ty) (xs:List e.den):∀l:List AV,(AV.frzs n e xs l).length=l.length
 | []=>rfl
 | _ :: r=>by simp[AV.frzs,S7 n e xs r]
section
variable {V V':Vw} {n:Nat} {et:TypeId} {e:Ty} {xs:List e.den}
structure tK (V V':Vw) (n:Nat):Prop where
 w:V'.w=V.w
 ρ:V'.ρ=V.ρ
 L:∀m,V.L m->m≠n->V'.L m
 O:∀b,¬V.O b->¬V'.O b
 n:∀b,bk (V.ρ n) b->¬V'.O b
theorem tK.keeps (h:tK V V' n):Cs (V.but n) V':=⟨λb _ c=>h.O b c,λm a=>h.L m a.1 a.2,λm _=>by rw[h.ρ];rfl,λb _ _=>by rw[h.w];rfl⟩
structure QR (V V':Vw) (n:Nat) (e:Ty) (xs:List e.den):Prop where
 seat:seat (V.ρ n)
 read:∀lo hi v,DT (plc (V.ρ n)) e.size lo hi v->B0 V'.w V'.O (.slice e) [v] (sub xs lo hi)
theorem iV {V:Vw} {et:TypeId} {e:Ty} {xs:List e.den} {loc:Value} (b:A4 V (.arr et e xs) loc):seat loc:=by
 obtain⟨_,cells',c,_⟩:=b;rcases c.2 with ⟨a,_⟩|⟨g,cap,d,a,_⟩
 .exact .inl ⟨_,_,_,a⟩
 exact .inl ⟨_,_,_,a⟩
theorem tK.arr (h:tK V V' n) (a:A4 V (.arr et e xs) (V.ρ n)):QR V V' n e xs:=⟨iV a,λlo hi v f=>by
 have d:=cL (V:=V) (O':=V'.O) h.O (λb c=>h.n b (.inl c)) a f
 rwa [<-h.w]at d⟩
theorem tK.nest (h:tK V V' n) {d:TypeId} {k e:Ty} {xs:List (k.den×List e.den)} (a:A4 V (.nest et d k e xs none) (V.ρ n)):QR V V' n (.agg (.prod k (.slice e))) xs:=⟨by
 obtain⟨o,ins,cells,hl,_⟩:=a;exact hl.elim (λh=>.inr ⟨_,h⟩) (λh=>.inl ⟨_,_,_,h.1⟩),λlo hi v c=>by
 have b:=hZ (V:=V) (O':=V'.O) h.O h.n a c
 rwa [<-h.w]at b⟩
theorem c6 (h:tK V V' n) (f:QR V V' n e xs) {x:AV} {v:Value} (hx:VX V x v):VX V' (x.frz n e xs) v/\((∀t d,x≠.p t d)->∀t d,x.frz n e xs=.p t d->t.wrap [v]=v/\B0 V'.w V'.O t [v] d):=by
 have hk:=h.keeps;have b:=f.seat;cases x;case sr m c lo hi =>
  simp only[AV.frz];split
  .rename_i a;subst a;split
   .rename_i o;subst o;obtain⟨s,j⟩:=hx;have g:=f.read lo hi v j;obtain⟨_,_,_,_,_,_,q,r,k,_⟩:=j;refine⟨⟨[v],g,by rw[k];rfl⟩,λ_ t d h=>?_⟩;injection h with h1 l
    subst h1;cases l;exact⟨by rw[k];rfl,g⟩
   exact⟨trivial,λ_ t d h=>by cases h⟩
  rename_i a;have:=JE b hx;simp only[AV.drp,As a]at this;exact⟨this.keeps hk,λ_ t d h=>by cases h⟩
 case ep m c i u off =>
  have:=JE b hx;simp only[AV.drp]at this;simp only[AV.frz];split
  .exact⟨trivial,λ_ t d h=>by cases h⟩
  rename_i a;rw[As a]at this;exact⟨this.keeps hk,λ_ t d h=>by cases h⟩
 case nin m c i len =>
  have:=JE b hx;simp only[AV.drp]at this;simp only[AV.frz];split
  .exact⟨trivial,λ_ t d h=>by cases h⟩
  rename_i a;rw[As a]at this;exact⟨this.keeps hk,λ_ t d h=>by cases h⟩
 case p t d=>exact⟨(JE b hx).keeps hk,λhp=>absurd rfl (hp t d)⟩
 all_goals
  have:=JE b hx;simp only[AV.drp]at this;simp only[AV.frz];exact⟨this.keeps hk,λ_ t d h=>by cases h⟩
theorem A76 (h:tK V V' n) (i:QR V V' n e xs) {x:AV} {cs:List Value} (hx:Nv V x cs):Nv V' (x.frz n e xs) cs:=by
 by_cases hp:∃t d,x=.p t d
 .obtain⟨t,d,rfl⟩:=hp;simp only[AV.frz];have hx:B0 V.w V.O t cs d:=hx;have:B0 V'.w V'.O t cs d:=hx.mono (λb _ g=>h.O b g) (λb _ _=>by rw[h.w]);exact this
 have j:∃v,cs=[v]/\v.oneCell'=true/\VX V x v:=by
  cases x;case p t d=>exact absurd ⟨t,d,rfl⟩ hp
  all_goals exact hx
 obtain⟨v,rfl,h1,f⟩:=j;obtain⟨c,a⟩:=c6 h i f;have a:=a (λt d e=>hp ⟨t,d,e⟩);generalize k:x.frz n e xs=y at c a;cases y;case p t d=>exact(a t d rfl).2
 all_goals exact⟨v,rfl,h1,c⟩
theorem QT (h:tK V V' n) (a:QR V V' n e xs):∀ {l:List AV} {cs:List Value},Dd V l cs->Dd V' (AV.frzs n e xs l) cs
 | [],cs,hx=>(hx:cs=[])
 | x :: r,cs,hx=>by
  obtain⟨c1,c2,rfl,h1,b⟩:=hx;simp only[AV.frzs];exact⟨c1,c2,rfl,A76 h a h1,QT h a b⟩
theorem A77 (h:tK V V' n) (a:QR V V' n e xs) {x:AV} {v:Value} (hx:Sw V x v):Sw V' (x.frz n e xs) v:=by
 cases x;case ag l=>obtain⟨cs,h1,b⟩:=hx;simp only[AV.frz];exact⟨cs,h1,QT h a b⟩
 all_goals
  simp only[Sw]at hx;exact Sw.of1 (c6 h a hx).1
theorem iW (h:tK V V' n) (b:QR V V' n e xs):∀ {l:List AV} {a:List Value},IB V l a->IB V' (AV.frzs n e xs l) a
 | [],a,hx=>(hx:a=[])
 | x :: r,a,hx=>by
  obtain⟨v,d,rfl,h1,c⟩:=hx;simp only[AV.frzs];exact⟨v,d,rfl,A77 h b h1,iW h b c⟩
theorem tL (h:tK V V' n) (b:QR V V' n e xs) {x:AV} {v:Value} (hx:B3 V x v):B3 V' (x.frz n e xs) v:=by
 cases x;case ag l=>obtain⟨cs,h1,a⟩:=hx;simp only[AV.frz];exact⟨cs,h1,QT h b a⟩
 case tup l=>obtain⟨c,h1,a⟩:=hx;simp only[AV.frz];exact⟨c,h1,iW h b a⟩
 all_goals
  simp only[B3]at hx;exact A70 (c6 h b hx).1
end
theorem iX (hs:CB w0 K O0 nt ds σ ρ a w) (n:Nat) (I:¬Gz n=true) {R:Obj} (hn:lk n σ.objs=some R) {e:Ty} {xs:List e.den}
  (N:tK (vw w O0 σ ρ) (vw w O0 ⟨DR n e xs σ.env,A5 n e xs (del n σ.objs)⟩ ρ) n->QR (vw w O0 σ ρ) (vw w O0 ⟨DR n e xs σ.env,A5 n e xs (del n σ.objs)⟩ ρ) n e xs) :
  CB w0 K O0 nt ds ⟨DR n e xs σ.env,A5 n e xs (del n σ.objs)⟩ ρ a w:=by
 have C:∀m x,lk m (A5 n e xs (del n σ.objs))=some x->m≠n/\∃y,lk m σ.objs=some y/\x=y.frz n e xs:=by
  intro m x c;rw[Cd,Rj]at c;split at c
  .simp at c
  rename_i u;simp only[ON]at c;grind
 have g:∀m,HL ⟨DR n e xs σ.env,A5 n e xs (del n σ.objs)⟩ m↔(HL σ m/\m≠n):=by
  intro m;constructor
  .rintro⟨x,hx⟩;obtain⟨h1,y,f,_⟩:=C m x hx;exact⟨⟨y,f⟩,h1⟩
  rintro⟨⟨x,hx⟩,u⟩;exact⟨x.frz n e xs,by simp[Cd,Rj,u,hx]⟩
 have hF:tK (vw w O0 σ ρ) (vw w O0 ⟨DR n e xs σ.env,A5 n e xs (del n σ.objs)⟩ ρ) n:=by
  refine⟨rfl,rfl,λm h1 f=>(g m).2 ⟨h1,f⟩,λb d t=>?_,λb d t=>?_⟩
  .rcases t with h0|⟨m,hl,c⟩
   .exact d (.inl h0)
   exact d (.inr ⟨m,((g m).1 hl).1,c⟩)
  have d:bk (ρ n) b:=d;rcases t with h0|⟨m,hl,c⟩
  .exact(hs.free n b ⟨_,hn⟩ d).2 h0
  exact((g m).1 hl).2 (hs.dist m n b ((g m).1 hl).1 ⟨_,hn⟩ c d)
 have q:=N hF;have M:∀p∈ds.pin,HL ⟨DR n e xs σ.env,A5 n e xs (del n σ.objs)⟩ p.1/\ρ p.1=p.2/\(AAA p.2=true\/Gz p.1=true):=by
  intro p hp;obtain⟨h1,f,i⟩:=hs.pin p hp;refine⟨(g p.1).2 ⟨h1,λe2=>?_⟩,f,i⟩;have i:AAA p.2=true:=i.resolve_right (by rw[e2];exact I);have A:seat (ρ n):=q.seat;rw[<-e2,f]at A;rcases A with ⟨_,_,_,B⟩|⟨_,B⟩<;>rw[B]at i<;>cases i
 refine⟨hs.frm,hs.nt,hs.defers,M,?_,?_,?_,?_⟩
 .intro m x c;obtain⟨u,y,j,rfl⟩:=C m x c;have h:=hs.objs m y j;cases y with
  | arr r e2 G=>exact A4.keeps (V:=(vw w O0 σ ρ).but n) hF.keeps (λ_ _=>rfl) h
  | box r st fs =>
   obtain⟨h0,b,cs,hl,hh,H⟩:=h;exact⟨λO=>by rw[S7];exact h0 O,b,cs,hl,hh,QT hF q H⟩
  | nest r P Q e2 G hl=>exact A4.keeps (V:=(vw w O0 σ ρ).but n) (o:=.nest r P Q e2 G hl) hF.keeps (λ_ _=>rfl) (NH (V:=vw w O0 σ ρ) (V':=(vw w O0 σ ρ).but n) rfl rfl h)
  | mapo k v l=>exact A4.keeps (V:=(vw w O0 σ ρ).but n) hF.keeps (λ_ _=>rfl) h
  | frame Y fs =>
   obtain⟨h0,h1⟩:=h;refine⟨h0,λs z E=>?_⟩;simp only[NK,ON]at E;obtain⟨y,j,rfl⟩:=E;exact tL hF q (h1 s y j)
  | loop L=>exact A4.keeps (V:=(vw w O0 σ ρ).but n) hF.keeps (λ_ _=>rfl) h
  | itr T X U W S=>exact A4.keeps (V:=(vw w O0 σ ρ).but n) hF.keeps (λ_ _=>rfl) h
  | dfr=>exact A4.keeps (V:=(vw w O0 σ ρ).but n) hF.keeps (λ_ _=>rfl) h
 .intro m b hl d;exact hs.free m b ((g m).1 hl).1 d
 .intro m F b hl J h1 f;exact hs.dist m F b ((g m).1 hl).1 ((g F).1 J).1 h1 f
 intro s v D;simp only[NK,ON]at D;obtain⟨y,j,rfl⟩:=D;exact tL hF q (hs.env s y j)
theorem tM (hs:CB w0 K O0 nt ds σ ρ a w) (n:Nat):CB w0 K O0 nt ds (frz n σ) ρ a w:=by
 unfold frz;split
 .exact hs
 rename_i b;cases hn:lk n σ.objs with
 | none=>exact hs
 | some c =>
 cases c with
 | box et st fs=>exact hs
 | mapo k v l=>exact hs
 | frame p fs=>exact hs
 | loop L=>exact hs
 | itr g o j m d=>exact hs
 | dfr=>exact hs
 | arr et e xs=>exact iX hs n b hn λh=>h.arr (hs.objs n _ hn)
 | nest et f k e xs hl =>
  cases hl with
  | some i=>exact hs
  | none=>exact iX hs n b hn λh=>h.nest (hs.objs n _ hn)
theorem K5:∀ {l:List Nat} {σ:St},CB w0 K O0 nt ds σ ρ a w->CB w0 K O0 nt ds (Cr l σ) ρ a w
 | [],_,h=>h
 | n :: r,σ,h=>K5 (l:=r) (σ:=frz n σ) (tM h n)
end
end
section
open Go Go.RowKit
section
variable {P:Program} {tb:Tb} {w0:World} {K O0:Nat->Prop} {nt:Nat} {ds:Fp} {σ σ':St} {ρ:Nat->Value} {a:Act} {w:World} {vc:Prop}
theorem A78 (hs:CB w0 K O0 nt ds σ ρ a w) (br:∀b,K b->b<w0.heap.size) (bs:∀b,O0 b->b<w0.heap.size) (hT:DH P tb) {d:Nat} (bw:d<nt) {t ty:TypeId} {x y:Operand} {n i len:Nat} {e:Ty} {v:AV}
  (hx:Aq σ x=some (.nin n e i len)) (cl:Aq σ y=some v) {et el:TypeId} {k:Ty} {xs:List (k.den×List e.den)} (hn:lk n σ.objs=some (.nest et el k e xs none)) (bz:Gz n=false)
  (hu:P.underlying t=some (.slice el)) {te:TI} (am:lk el tb.ty=some te) (an:te.ty=e) (h:OH σ d n et el k e xs i te.bytes (Py σ e v)=some (vc,σ')) (aa:vc) :
  ∃z w' ρ',(Builtin.append_ #[t,t] ty #[a.eval x,a.eval y]).run P w=.ok z w'/\CB w0 K O0 nt ds σ' ρ' (a.put (some d) z) w':=by
 have au:Hg (vw w O0 σ ρ) σ a.eval:=F3 hs.env;cases ao:Py σ e v with
 | none=>rw[ao]at h;simp[OH]at h
 | some ys =>
  rw[ao]at h;simp only[OH]at h;split at h
  .rename_i av;have ak:lk d σ.objs=none:=by simpa using av.1
   cases h;obtain⟨cq,U⟩:=Uk hs.objs ao (au y _ cl);obtain⟨cu,cr,ad,c,R,I,D,cb,da⟩:=au x _ hx;have I:ρ n=.tuple cr:=I;have bd:=hs.objs n _ hn;have aw:=cN (z:=(k.dflt,[])) bd I D;obtain⟨o,ins,cells,cj,B⟩:=bd;obtain rfl:=cj.tup I;have D:ins[i]?=some R:=by simpa using D
   obtain⟨c1,db,bv,ci,q⟩:=B.row i _ _ aw D;rcases q with ⟨q,_⟩|⟨_,cw,l,bf,M,bx⟩
   .cases q
   generalize cz:xs.getD i (k.dflt,[])=row at *;obtain⟨z,w',N,C,A,al,be⟩:∃z w',(Builtin.append_ #[t,t] ty #[a.eval x,a.eval y]).run P w=.ok z w'/\w'.ownsRow 0 el e.size z (row.2.length+ys.length) (bf++cq)/\w.grownBy w' (blk R)/\row.2.length+ys.length<=AQ/\(blk z=blk R\/∀b,blk z=some b->w.heap.size<=b):=by
    rcases cb with F|⟨F,ap,ck⟩
    .rw[F];obtain⟨z,w',N,C,A,al⟩:=Gc (ty:=ty) hT hu am an M U aa (Is _);have be:=Hh (ty:=ty) hT hu am an M U aa N;rw[Um M]at A;exact⟨z,w',N,C,A,al,be⟩
    subst F;have bb:=Ky M;have ch:row.2=[]:=UW bb.symm;have ca:bf=[]:=UW (by rw[M.1,<-bb,AGq]);subst ca;have cm:0<ys.length:=by
     cases ys with
     | nil=>simp at av
     | cons _ _=>simp
    rw[ck];rw[ch]at aa ⊢;obtain⟨z,w',N,C,A⟩:=S0 (ty:=ty) hT hu am an (xs:=([]:List e.den)) (a:=ap) (Uj w (own O0 σ ρ) e ap 0) U cm aa;refine⟨z,w',N,⟨C.1,C.2.imp (λh=>h) λ⟨g,cap,ag,e,_,r⟩=>⟨g,cap,ag,e,Is _,r⟩⟩,A,by simpa using U.max,.inr λb f=>?_⟩;rcases C.2 with ⟨h1,_⟩|⟨g,cap,ag,h1,p,_⟩
    .rw[h1]at f;simp[blk]at f
    rw[h1]at f;simp[blk]at f;omega
   have X:∀b,bk (ρ n) b↔blk o=some b\/∃(j:Nat) (u:Value),ins[j]?=some u/\blk u=some b:=λb=>by rw[I];exact A7
   have cx:i<ins.length:=(UP.1 D).1;have bc:n≠d:=λe1=>by rw[e1,ak]at hn;cases hn
   generalize ay:(Value.tuple (o :: ins.set i (.slice none 0 0)).toArray)=loc;have ae:E9 (E9 ρ n loc) d z n=loc:=by simp[E9,bc]
   have ab:E9 (E9 ρ n loc) d z d=z:=Bt _ _ _;have af:∀m,m≠n->m≠d->E9 (E9 ρ n loc) d z m=ρ m:=λm h1 p=>by simp[E9,h1,p]
   generalize E9 (E9 ρ n loc) d z=ρ' at ae ab af;have Z:∀(j:Nat) (u:Value),(ins.set i (.slice none 0 0))[j]?=some u->(j=i/\u=.slice none 0 0)\/(j≠i/\ins[j]?=some u):=by grind
   have ar:∀b,bk loc b->blk o=some b\/∃(j:Nat) (u:Value),j≠i/\ins[j]?=some u/\blk u=some b:=by grind [A7,blk]
   have bu:∀b,bk loc b->bk (ρ n) b:=λb f=>(X b).2 ((ar b f).imp id λ⟨j,u,_,h1,p⟩=>⟨j,u,h1,p⟩);have Y:∀b,blk R=some b->bk (ρ n) b:=λb f=>(X b).2 (.inr ⟨i,_,D,f⟩);have cv:∀b,bk z b->blk z=some b:=λb f=>by
    rcases C.2 with ⟨F,_⟩|⟨g,cap,ag,F,_⟩<;>rw[F]at f ⊢<;>exact L5.1 f
   have cp:∀b,bk z b->blk R=some b\/w.heap.size<=b:=λb f=>by grind
   have az:∀b,bk (ρ n) b->b<w.heap.size:=λb f=>(hs.objs n _ hn).block_lt f;have cy:∀b,bk loc b->blk R≠some b:=by
    intro b f F;rcases ar b f with h1|⟨j,u,h1,p,q⟩
    .exact B.out i b _ D F h1
    exact h1 (B.dist j i b u _ p D q F)
   have ax:(row.2++ys).length=row.2.length+ys.length:=by simp
   let S:St:=⟨(d,.sr d e 0 (row.2.length+ys.length)) :: E7 n [] σ.env,(d,.arr el e (row.2++ys)) :: (n,.nest et el k e xs (some i)) :: DJ n [] σ.objs⟩
   have aq:∀m G,lk m S.objs=some G->(m=d/\G=.arr el e (row.2++ys))\/(m=n/\m≠d/\G=.nest et el k e xs (some i))\/(m≠d/\m≠n/\∃s,lk m σ.objs=some s/\G=s.trn n []):=by
    intro m G l;simp only[S,lk]at l;split at l
    .rename_i e1;cases l;exact .inl ⟨e1,rfl⟩
    rename_i e1;split at l
    .rename_i e2;cases l;exact .inr (.inl ⟨e2,e1,rfl⟩)
    rename_i e2;rw[Ei]at l;split at l
    .cases l
    simp only[ON]at l;obtain⟨s,h1,rfl⟩:=l;exact .inr (.inr ⟨e1,e2,s,h1,rfl⟩)
   have bt:∀m,m≠d->m≠n->∀s,lk m σ.objs=some s->lk m S.objs=some (s.trn n []):=by grind [lk,Ei,Ab]
   have cf:∀b,b<w.heap.size->¬own O0 σ ρ b->¬own O0 S ρ' b:=by
    intro b f H co;rcases co with h0|⟨m,⟨G,ce⟩,J⟩
    .exact H (.inl h0)
    rcases aq m G ce with ⟨rfl,_⟩|⟨rfl,_,_⟩|⟨h1,p,s,q,_⟩
    .rw[ab]at J;rcases cp b J with E|E
     .exact H (.inr ⟨n,⟨_,hn⟩,Y b E⟩)
     omega
    .rw[ae]at J;exact H (.inr ⟨_,⟨_,hn⟩,bu b J⟩)
    rw[af m p h1]at J;exact H (.inr ⟨m,⟨s,q⟩,J⟩)
   have cg:plc loc=o:=by rw[<-ay];rfl
   have W:Rm (vw w O0 σ ρ) (vw w' O0 S ρ') n []:=by
    refine⟨cf,λm l _=>?_,λm l _ cd=>?_,⟨_,I⟩,?_,λb f H=>A.block b f λe1=>H (.inr ⟨n,⟨_,hn⟩,Y b e1.symm⟩)⟩
    .obtain⟨s,h1⟩:=l;by_cases ba:m=n
     .subst ba;exact⟨.nest et el k e xs (some i),by simp[S,lk,bc]⟩
     have cc:m≠d:=λe1=>by rw[e1,ak]at h1;cases h1
     exact⟨_,bt m cc ba s h1⟩
    .obtain⟨s,h1⟩:=l;exact af m cd (λe1=>by rw[e1,ak]at h1;cases h1)
    show plc (ρ' n)=plc (ρ n);rw[ae,cg,I];rfl
   have L:Cs ⟨w,own O0 σ ρ,λ_=>False,ρ⟩ (vw w' O0 S ρ'):=⟨W.O,λ_ h=>h.elim,λ_ h=>h.elim,W.heap⟩;refine⟨z,w',ρ',N,hs.swap br bs (T:=λm=>m=n) (λm l=>by obtain rfl:m=n:=l;exact⟨bz,_,hn,by rw[I];exact .inr ⟨_,rfl⟩⟩) (new:=[(d,.arr el e (row.2++ys)),(n,.nest et el k e xs (some i))]) A.os A.tape A.output A.size ?_ ?_ ?_ ?_ ?_ ?_ ?_ ?_⟩
   .exact λb f H=>A.block b f λe1=>H n rfl (Y b e1.symm)
   .grind [lk]
   .grind [lk]
   .grind [lk]
   .grind [lk]
   .grind [bk,lk]
   .intro m G l;rcases aq m G l with ⟨rfl,rfl⟩|⟨rfl,_,rfl⟩|⟨h1,p,s,q,rfl⟩
    .rw[ab];refine⟨by rw[ax];exact al,_,by rw[ax];exact C,?_⟩;exact Dk.keeps L (K0 bx U.elems M.1)
    .rw[ae];refine⟨o,ins.set i (.slice none 0 0),cells,.inl ay.symm,B.max,by rw[Ya];exact B.len,Jc (λb f=>A.block b (az b ((X b).2 (.inl f))) λe1=>B.out i b _ D e1.symm f) B.own,λj cs u h1 p=>?_,?_,?_⟩
     .rcases Z j u p with ⟨rfl,rfl⟩|⟨q,E⟩
      .rw[aw]at h1;cases h1;exact⟨c1,_,bv,B0.mono L.O L.heap ci,.inl ⟨by simp,rfl⟩⟩
      obtain⟨c2,bl,bm,bn,ai⟩:=B.row j cs u h1 E;rcases ai with ⟨ai,_⟩|⟨_,bo,bp⟩
      .cases ai
      refine⟨c2,bl,bm,B0.mono L.O L.heap bn,.inr ⟨ZO.2 (λe1=>q (by injection e1 with e1;exact e1.symm)),bo,?_⟩⟩;exact Ri.keeps (V:=⟨w,own O0 σ ρ,λ_=>False,ρ⟩) L (λb f=>A.block b (az b ((X b).2 (.inr ⟨j,u,E,f⟩))) λe1=>q (B.dist j i b u _ E D f e1.symm)) bp
     .intro bg bh b bi bj h1 p q E;rcases Z bg bi h1 with ⟨_,rfl⟩|⟨_,aj⟩
      .simp[blk]at q
      rcases Z bh bj p with ⟨_,rfl⟩|⟨_,bq⟩
      .simp[blk]at E
      exact B.dist bg bh b bi bj aj bq q E
     intro j b u h1 p;rcases Z j u h1 with ⟨_,rfl⟩|⟨_,aj⟩
     .simp[blk]at p
     exact B.out j b u aj p
    rw[af m p h1];refine tI W (λb f=>A.block b ((hs.objs m s q).block_lt f) λe1=>p (hs.dist m n b ⟨_,q⟩ ⟨_,hn⟩ f (Y b e1.symm))) (hs.objs m s q)
   intro s2 bl Q;rw[NG a d z s2 (by rw[hs.nt];exact bw)];simp only[S,lk]at Q;split at Q
   .rename_i ah;cases Q;rw[Bq ah];refine⟨⟨.arr el e (row.2++ys),by simp[S,lk]⟩,?_⟩;show DT (plc (ρ' d)) e.size 0 _ z;rw[ab,Hf C];exact Gb C
   rename_i ah;rw[As ah];rw[Hv]at Q;simp only[ON]at Q;obtain⟨ct,cn,rfl⟩:=Q;exact c5 W (hs.env s2 ct cn)
  cases h
end
end
section
open Go Go.RowKit
theorem c7 {w:World} {et:TypeId} {sz len g m c:Nat} {cells:List Value} (h:w.ownsRow 0 et sz (.slice (some ⟨g,0,none⟩) m c) len cells) {p:Nat} (hp:p<len*sz) (v:Value) :
  ∃a:List Value,w.heap[g]?=some (.cells a.toArray et (0,0))/\p+1<=a.length/\(w.setRow g (A0 a p [v]).toArray).ownsRow 0 et sz (.slice (some ⟨g,0,none⟩) m c) len (cells.set p v):=by
 obtain⟨t,l⟩:=h;rcases l with ⟨d,_⟩|⟨y,cap,a,d,z,i,e,o,f,u⟩
 .cases d
 injection d with b q r
 injection b with b
 injection b with b
 subst b;have A:len*sz<=cap*sz:=Uc _ e;have B:a.toList.length=cap*sz:=by rw[<-f];simp
 have n:p + [v].length<=a.toList.length:=by simp only[IS];omega
 have s:w.heap[g]?=some (.cells a.toList.toArray et (0,0)):=by simpa using i
 have k:A0 a.toList p [v]=a.toList.set p v:=by
  apply AFL;intro j;simp only[A0,UT,Yu,OS,YS,Yv,IS,ZS];have x:min p a.toList.length=p:=by omega
  simp only[x];by_cases c1:j<p
  .grind
  grind
 refine⟨a.toList,s,by simpa using n,?_,.inr ⟨g,cap,_,by rw[q,r],Is _,setRow_heap w g _ _ et _ i,e,o,?_,?_⟩⟩
 .rw[Ya];exact t
 .rw[k];simp[f]
 rw[k,<-u];simp[List.take_set]
section
variable {P:Program} {tb:Tb} {w0:World} {K O0:Nat->Prop} {nt:Nat} {ds:Fp} {σ σ':St} {ρ:Nat->Value} {a:Act} {w:World} {vc:Prop}
theorem A3s (hs:CB w0 K O0 nt ds σ ρ a w) (bi:∀b,K b->b<w0.heap.size) (bj:∀b,O0 b->b<w0.heap.size) (hT:DH P tb) {id:TypeId} {ti:TI} (ce:lk id tb.ty=some ti) {x y:Operand} {n m i hi:Nat} {k e:Ty} (hty:ti.ty=.slice e) {cn:List Nat}
  (hx:Aq σ x=some (.ep n (.agg (.prod k (.slice e))) i cn k.size)) (ci:Aq σ y=some (.sr m e 0 hi)) {et A:TypeId} {xs:List (k.den×List e.den)} {ys:List e.den} (hn:lk n σ.objs=some (.nest et A k e xs (some i))) (F:lk m σ.objs=some (.arr A e ys))
  (br:Gz n=false) (ct:Gz m=false) (cx:hi=ys.length) :
  ∃w' ρ',(Instr.storeAt id (a.eval x) (a.eval y)).run P w=.ok () w'/\CB w0 K O0 nt ds ⟨E7 n [m] σ.env,(n,.nest et A k e (xs.set i ((xs.getD i (k.dflt,[])).1,ys)) none) :: DJ n [m] σ.objs⟩ ρ' a w':=by
 have ap:Hg (vw w O0 σ ρ) σ a.eval:=F3 hs.env;have bz:m≠n:=λe1=>by rw[e1,hn]at F;cases F
 obtain⟨cr,g,bb,c,aj,bv,cg⟩:=ap x _ hx;obtain⟨cs,be,cm,bf,M,_,cv,cp,cq,cy,_,h0,_⟩:=ap y _ ci;obtain⟨o,ins,cells,ax,s⟩:=hs.objs n _ hn;have am:Ri (vw w O0 σ ρ) A e ys (ρ m):=hs.objs m _ F;have au:=hs.objs m _ F;have M:plc (ρ m)=.slice be cm bf:=M;rw[Ui au]at M;have cl:a.eval y=ρ m:=by
  obtain⟨rfl,rfl⟩:=h0 rfl;obtain⟨_,cz,cw,_⟩:=am;grind [Ky]
 have aj:plc (ρ n)=.slice (some ⟨g,0,none⟩) bb c:=aj;have ca:o=.slice (some ⟨g,0,none⟩) bb c:=by rw[<-ax.plc];exact aj
 subst ca;have bx:=Ky s.own;subst bx;have L:i<xs.length:=bv;have ah:i<ins.length:=by rw[s.len];exact L
 have Y:ρ n=.tuple ((.slice (some ⟨g,0,none⟩) xs.length c) :: ins).toArray:=ax.resolve_right λh=>by rw[h.2.2]at ah;simp at ah
 have hp:i*(k.size+1)+k.size<xs.length*(k.size+1):=by
  have:(i+1)*(k.size+1)<=xs.length*(k.size+1):=Uc _ L;rw[AA5]at this;omega
 obtain⟨N,bs,bo,W⟩:=c7 s.own hp (ρ m);have cc:(ρ m).oneCell'=true:=by rw[M];rfl
 have U:(a.eval y).cells=#[ρ m]:=by rw[cl,M];rfl
 have aw:=MA (P:=P) (xv:=a.eval y) (hT _ _ ce) bs (off:=i*(k.size+1)+k.size) (by rw[U,hty];rfl) (by rw[U];simpa using bo) (by rw[U];intro u hu;simp at hu;subst hu;exact cc);rw[U]at aw;refine⟨_,E9 ρ n (.tuple ((.slice (some ⟨g,0,none⟩) xs.length c) :: ins.set i (ρ m)).toArray),by rw[cg];exact aw,?_⟩;have D:=F4 w g (A0 N (i*(k.size+1)+k.size) [ρ m]).toArray;change CB w0 K O0 nt ds _ _ a (w.setRow g (A0 N (i*(k.size+1)+k.size) [ρ m]).toArray);have W:(w.setRow g (A0 N (i*(k.size+1)+k.size) [ρ m]).toArray).ownsRow 0 et (k.size+1) (.slice (some ⟨g,0,none⟩) xs.length c) xs.length (cells.set (i*(k.size+1)+k.size) (ρ m)):=W;generalize w.setRow g (A0 N (i*(k.size+1)+k.size) [ρ m]).toArray=w' at D W;generalize ar:(Value.tuple ((.slice (some ⟨g,0,none⟩) xs.length c) :: ins.set i (ρ m)).toArray)=loc;have Z:E9 ρ n loc n=loc:=Bt _ _ _;have aa:∀j,j≠n->E9 ρ n loc j=ρ j:=λj h1=>by simp[E9,h1]
 generalize E9 ρ n loc=ρ' at Z aa;have ao:∀b,bk (ρ n) b↔blk (.slice (some ⟨g,0,none⟩) xs.length c)=some b\/∃(j:Nat) (u:Value),ins[j]?=some u/\blk u=some b:=λb=>by rw[Y];exact A7
 have X:∀(j:Nat) (u:Value),(ins.set i (ρ m))[j]?=some u->(j=i/\u=ρ m)\/(j≠i/\ins[j]?=some u):=by grind
 have ae:∀b,blk (ρ m)=some b->bk (ρ m) b:=λb d=>.inl d;have bm:∀b,bk loc b->bk (ρ n) b\/blk (ρ m)=some b:=by grind [A7]
 have bp:∀b,bk (ρ n) b->blk (ρ m)=some b->False:=λb h1 r=>bz (hs.dist m n b ⟨_,F⟩ ⟨_,hn⟩ (ae b r) h1);have af:bk (ρ n) g:=(ao g).2 (.inl rfl);have bu:∀b,bk (ρ n) b->b<w.heap.size:=λb d=>(hs.objs n _ hn).block_lt d;have bw:∀b,blk (ρ m)=some b->b<w.heap.size:=λb d=>au.block_lt (ae b d)
 let S:St:=⟨E7 n [m] σ.env,(n,.nest et A k e (xs.set i ((xs.getD i (k.dflt,[])).1,ys)) none) :: DJ n [m] σ.objs⟩
 have an:∀j B,lk j S.objs=some B->(j=n/\B=.nest et A k e (xs.set i ((xs.getD i (k.dflt,[])).1,ys)) none)\/(j≠n/\j≠m/\∃p,lk j σ.objs=some p/\B=p.trn n [m]):=by
  intro j B l;simp only[S,lk]at l;split at l
  .grind
  rename_i e1;rw[Ei]at l;split at l
  .cases l
  rename_i e2;simp only[ON]at l;grind [Ab]
 have bl:∀j,j≠n->j≠m->∀p,lk j σ.objs=some p->lk j S.objs=some (p.trn n [m]):=by grind [lk,Ei,Ab]
 have cd:∀b,b<w.heap.size->¬own O0 σ ρ b->¬own O0 S ρ' b:=by
  intro b d G ck;rcases ck with h0|⟨j,⟨B,cb⟩,R⟩
  .exact G (.inl h0)
  rcases an j B cb with ⟨rfl,_⟩|⟨h1,r,p,f,_⟩
  .rw[Z]at R;rcases bm b R with t|t
   .exact G (.inr ⟨_,⟨_,hn⟩,t⟩)
   exact G (.inr ⟨m,⟨_,F⟩,ae b t⟩)
  rw[aa j h1]at R;exact G (.inr ⟨j,⟨p,f⟩,R⟩)
 have Q:Rm (vw w O0 σ ρ) (vw w' O0 S ρ') n [m]:=by
  refine⟨cd,λj l bt=>?_,λj _ _ ai=>aa j ai,⟨_,Y⟩,?_,λb d G=>D.block b d λe1=>?_⟩
  .obtain⟨p,h1⟩:=l;by_cases aq:j=n
   .exact⟨.nest et A k e (xs.set i ((xs.getD i (k.dflt,[])).1,ys)) none,by simp[S,lk,aq]⟩
   exact⟨_,bl j aq (λe1=>by simp[Ab,e1]at bt) p h1⟩
  .show plc (ρ' n)=plc (ρ n);rw[Z,<-ar,Y];rfl
  injection e1 with e1
  subst e1;exact G (.inr ⟨n,⟨_,hn⟩,af⟩)
 have E:Cs ⟨w,own O0 σ ρ,λ_=>False,ρ⟩ (vw w' O0 S ρ'):=⟨Q.O,λ_ h=>h.elim,λ_ h=>h.elim,Q.heap⟩;have ag:∀b,b<w.heap.size->b≠g->w'.heap[b]?=w.heap[b]?:=λb h1 r=>D.block b h1 λe1=>r (by injection e1);refine hs.swap bi bj (T:=λj=>j=n\/j=m) (dst:=none) (u:=undef) (λj l=>?_) (new:=[(n,.nest et A k e (xs.set i ((xs.getD i (k.dflt,[])).1,ys)) none)]) D.os D.tape D.output D.size ?_ ?_ ?_ ?_ ?_ ?_ ?_ ?_
 .rcases l with rfl|rfl
  .exact⟨br,_,hn,by rw[Y];exact .inr ⟨_,rfl⟩⟩
  grind [iV]
 .grind
 .grind [lk]
 .grind [lk]
 .grind [lk]
 .grind [lk]
 .grind [lk]
 .intro j B l;rcases an j B l with ⟨rfl,rfl⟩|⟨h1,r,p,f,rfl⟩
  .rw[Z];have bn:cells.length=xs.length*(k.size+1):=s.own.1;refine⟨_,ins.set i (ρ m),cells.set (i*(k.size+1)+k.size) (ρ m),.inl ar.symm,by rw[Ya];exact s.max,by rw[Ya,Ya];exact s.len,by rw[Ya];exact W,λj al u h1 r=>?_,?_,?_⟩
   .have bq:∀(c2:List Value) (C:Value),j≠i->c2.length=k.size->(∀(q:Nat) (z:Value),(c2++[C])[q]?=some z->cells[j*(k.size+1)+q]?=some z)->∀(q:Nat) (z:Value),(c2++[C])[q]?=some z->(cells.set (i*(k.size+1)+k.size) (ρ m))[j*(k.size+1)+q]?=some z:=by
     intro c2 C cu hl H q z v;have ak:=(UP.1 v).1;simp only[BY,IS,hl]at ak;have ai:i*(k.size+1)+k.size≠j*(k.size+1)+q:=by
      intro e1;rcases Nat.lt_or_ge i j with f|f
      .have:(i+1)*(k.size+1)<=j*(k.size+1):=Uc _ f;rw[AA5]at this;omega
      have:(j+1)*(k.size+1)<=i*(k.size+1):=Uc _ (by omega);rw[AA5]at this;omega
     rw[ZS,As ai];exact H q z v
    rcases X j u r with ⟨rfl,rfl⟩|⟨f,t⟩
    .have ch:xs[j]?=some (xs.getD j (k.dflt,[])):=by
      rw[AT L,AS,AT L];rfl
     obtain⟨c2,C,H,I,_⟩:=s.row j _ ins[j] ch (AT ah);have cf:al=((xs.getD j (k.dflt,[])).1,ys):=by
      rw[List.getElem?_set_self L]at h1;exact(AFU h1).symm
     subst cf;have hl:c2.length=k.size:=I.length;refine⟨c2,ρ m,λq z v=>?_,B0.mono E.O E.heap I,.inr ⟨rfl,.inl rfl,?_⟩⟩
     .have ak:=(UP.1 v).1;simp only[BY,IS,hl]at ak;rw[ZS];by_cases av:q=k.size
      .rw[av,Bq rfl,Bq (by rw[bn];exact hp)];rw[av,<-hl,Ud (NO _),AAz]at v;exact v
      rw[As (by omega)];refine H q z ?_;rw[Ug (by omega)]at v ⊢;exact v
     exact Ri.keeps (V:=⟨w,own O0 σ ρ,λ_=>False,ρ⟩) E (λb d=>ag b (bw b d) λe1=>bp b (by rw[e1];exact af) d) am
    have h1:xs[j]?=some al:=by
     rw[ZS,As (λe1=>f e1.symm)]at h1;exact h1
    obtain⟨c2,C,H,I,ab⟩:=s.row j al u h1 t;rcases ab with ⟨ab,_⟩|⟨_,bg,bh⟩
    .exact absurd (by simpa using ab) (λe1:i=j=>f e1.symm)
    refine⟨c2,C,bq c2 C f I.length H,B0.mono E.O E.heap I,.inr ⟨rfl,bg,?_⟩⟩;exact Ri.keeps (V:=⟨w,own O0 σ ρ,λ_=>False,ρ⟩) E (λb d=>ag b (bu b ((ao b).2 (.inr ⟨j,u,t,d⟩))) λe1=>s.out j b u t d (by rw[e1];rfl)) bh
   .intro az ba b bc bd h1 r f t;rcases X az bc h1 with ⟨J,rfl⟩|⟨_,J⟩<;>rcases X ba bd r with ⟨ad,rfl⟩|⟨_,ad⟩
    .rw[J,ad]
    .grind
    .grind
    exact s.dist az ba b bc bd J ad f t
   intro j b u h1 r f;rcases X j u h1 with ⟨_,rfl⟩|⟨_,J⟩
   .grind
   exact s.out j b u J r f
  rw[aa j h1];refine tI Q (λb d=>ag b ((hs.objs j p f).block_lt d) λe1=>h1 (hs.dist j n b ⟨_,f⟩ ⟨_,hn⟩ d (by rw[e1];exact af))) (hs.objs j p f)
 intro s2 C ay;simp only[Hv,ON]at ay;obtain⟨co,cj,rfl⟩:=ay;exact c5 Q (hs.env s2 co cj)
end
end
section
open Go Go.RowKit
section
variable {P:Program} {tb:Tb} {w0:World} {K O0:Nat->Prop} {nt:Nat} {ds:Fp} {σ σ':St} {ρ:Nat->Value} {a:Act} {w:World} {vc:Prop}
theorem CB.swap1 (h:CB w0 K O0 nt ds σ ρ a w) (I:∀b,K b->b<w0.heap.size) (J:∀b,O0 b->b<w0.heap.size) {tl:List Nat} (hT:∀n,n∈tl->Gz n=false/\∃o,lk n σ.objs=some o/\seat (ρ n))
  {e:Nat} (ad:e∈tl\/lk e σ.objs=none) {j:Obj} {loc:Value} {w':World}
  (V:w'.os=w.os) (Z:w'.tape=w.tape) (W:w'.output=w.output) (X:w.heap.size<=w'.heap.size)
  (C:∀b,b<w.heap.size->(∀n,n∈tl->¬bk (ρ n) b)->w'.heap[b]?=w.heap[b]?)
  (Q:∀b,bk loc b->(∃m,m∈tl/\bk (ρ m) b)\/w.heap.size<=b)
  (U:∀V':Vw,V'.w=w'->Cs ⟨w,own O0 σ ρ,λ_=>False,ρ⟩ V'->A4 V' j loc)
  {d:Nat} (O:d<nt) {v:AV} {u:Value} (N:∀V':Vw,V'.L e->V'.ρ e=loc->B3 V' v u) :
  CB w0 K O0 nt ds ⟨(d,v) :: CR tl σ.env,(e,j) :: Aw tl tl σ.objs⟩ (E9 ρ e loc) (a.put (some d) u) w':=by
 let S:St:=⟨(d,v) :: CR tl σ.env,(e,j) :: Aw tl tl σ.objs⟩
 have E:∀m o,lk m S.objs=some o->(m=e/\o=j)\/(m≠e/\m∉tl/\∃c,lk m σ.objs=some c/\o=c.fgt tl):=by
  intro m o f;simp only[S,lk]at f;split at f
  .grind
  rename_i e1;rw[B8]at f;split at f
  .cases f
  rename_i e2;simp only[ON]at f;grind [Am]
 have M:∀m,m≠e->m∉tl->∀c,lk m σ.objs=some c->lk m S.objs=some (c.fgt tl):=by grind [lk,B8,Am]
 have G:∀m,m∉tl->(∃o,lk m σ.objs=some o)->m≠e:=by grind
 have r:E9 ρ e loc e=loc:=Bt _ _ _;have z:∀m,m≠e->E9 ρ e loc m=ρ m:=λm h1=>by simp[E9,h1]
 generalize E9 ρ e loc=ρ' at r z;have H:∀b,b<w.heap.size->¬own O0 σ ρ b->¬own O0 S ρ' b:=by
  intro b l p ab;rcases ab with h0|⟨m,⟨o,R⟩,q⟩
  .exact p (.inl h0)
  rcases E m o R with ⟨rfl,_⟩|⟨h1,i,c,g,_⟩
  .rw[r]at q;rcases Q b q with ⟨t,Y,D⟩|D
   .obtain⟨_,c,k,_⟩:=hT t Y;exact p (.inr ⟨t,⟨c,k⟩,D⟩)
   omega
  rw[z m h1]at q;exact p (.inr ⟨m,⟨c,g⟩,q⟩)
 have F:∀b,b<w.heap.size->¬own O0 σ ρ b->w'.heap[b]?=w.heap[b]?:=λb l p=>C b l λn hn B=>by
  obtain⟨_,c,k,_⟩:=hT n hn;exact p (.inr ⟨n,⟨c,k⟩,B⟩)
 have P:Cs ⟨w,own O0 σ ρ,λ_=>False,ρ⟩ (vw w' O0 S ρ'):=⟨H,λ_ h=>h.elim,λ_ h=>h.elim,F⟩;have hk:Cs ((vw w O0 σ ρ).buts tl) (vw w' O0 S ρ'):=by
  refine⟨H,λm f=>?_,λm f=>?_,F⟩
  .obtain⟨⟨c,h1⟩,i⟩:=f;have g:m∉tl:=λh=>by rw[(Am _ _).2 h]at i;cases i
   exact⟨_,M m (G m g ⟨c,h1⟩) g c h1⟩
  obtain⟨⟨c,h1⟩,i⟩:=f;have g:m∉tl:=λh=>by rw[(Am _ _).2 h]at i;cases i
  exact z m (G m g ⟨c,h1⟩)
 refine h.swap I J (T:=λm=>m∈tl) hT (new:=[(e,j)]) V Z W X C ?_ ?_ ?_ ?_ ?_ ?_ ?_
 .grind [lk]
 .grind [lk]
 .grind [lk]
 .grind [lk]
 .grind [lk]
 .intro m o f;rcases E m o f with ⟨rfl,rfl⟩|⟨h1,i,c,g,rfl⟩
  .rw[r];exact U _ rfl P
  rw[z m h1];refine cX hk (λb l=>C b ((h.objs m c g).block_lt l) λn hn B=>?_) (h.objs m c g);obtain⟨_,ae,k,_⟩:=hT n hn;exact i ((h.dist m n b ⟨_,g⟩ ⟨_,k⟩ l B)▸hn)
 intro s x hs;rw[NG a d u s (by rw[h.nt];exact O)];simp only[S,lk]at hs;split at hs
 .rename_i A;cases hs;rw[Bq A];exact N _ ⟨j,by simp[S,lk]⟩ r
 rename_i A;rw[As A];rw[Eu]at hs;simp only[ON]at hs;obtain⟨y,aa,rfl⟩:=hs;exact(Ul (h.env s y aa)).keeps hk
theorem cI.move {V:Vw} {a:TypeId} {k e:Ty} {hole:Bool} {cells cells':List Value} {i i':Nat} {x:k.den×List e.den} {u:Value} (h:cI V a k e hole cells i x u)
  (c:∀(j:Nat) (z:Value),cells[i*(k.size+1)+j]?=some z->cells'[i'*(k.size+1)+j]?=some z):cI V a k e hole cells' i' x u :=
 let ⟨c1,v,h1,b⟩:=h
 ⟨c1,v,λj z d=>c j z (h1 j z d),b⟩
theorem Zi {V V':Vw} {et D y:TypeId} {k e:Ty} {xs ys:List (k.den×List e.den)} {o C z:Value} {ins f cells l:List Value} (h1:Lf V et y k e xs none o ins cells) (n:Lf V D y k e ys none C f l)
  (q:∀b,bk (.tuple (o :: ins).toArray) b->bk (.tuple (C :: f).toArray) b->False)
  (J:V'.w.ownsRow 0 et (k.size+1) z (xs.length+ys.length) (cells++l)) (K:blk z=blk o\/∀b,blk z=some b->V.w.heap.size<=b)
  (A:∀b,b<V.w.heap.size->blk o≠some b->V'.w.heap[b]?=V.w.heap[b]?) (hk:Cs ⟨V.w,V.O,λ_=>False,V.ρ⟩ V') (H:xs.length+ys.length<=AQ) :
  Lf V' et y k e (xs++ys) none z (ins++f) (cells++l):=by
 have E:cells.length=xs.length*(k.size+1):=h1.own.1;have F:∀(i b:Nat) (u:Value),ins[i]?=some u->blk u=some b->b<V.w.heap.size:=λi b u hi c=>h1.block_lt (A7.2 (.inr ⟨i,u,hi,c⟩));have G:∀(i b:Nat) (u:Value),f[i]?=some u->blk u=some b->b<V.w.heap.size:=λi b u hi c=>n.block_lt (A7.2 (.inr ⟨i,u,hi,c⟩));have B:∀(i b:Nat) (u:Value),f[i]?=some u->blk u=some b->blk o≠some b:=λi b u hi c I=>q b (A7.2 (.inl I)) (A7.2 (.inr ⟨i,u,hi,c⟩));have t:∀(i:Nat) (u:Value),(ins++f)[i]?=some u->(i<xs.length/\ins[i]?=some u)\/(xs.length<=i/\f[i-xs.length]?=some u):=by
  intro i u hi;rw[Yu]at hi;split at hi
  .rename_i h;rw[h1.len]at h;exact .inl ⟨h,hi⟩
  rename_i h;rw[h1.len]at h hi;exact .inr ⟨by omega,hi⟩
 have L:∀b,blk z=some b->(∃(i:Nat) (u:Value),ins[i]?=some u/\blk u=some b)\/(∃(i:Nat) (u:Value),f[i]?=some u/\blk u=some b)->False:=by
  intro b c hi;rcases K with d|d
  .rw[d]at c;rcases hi with ⟨i,u,a,g⟩|⟨i,u,a,g⟩
   .exact h1.out i b u a g c
   exact B i b u a g c
  grind
 refine⟨by rw[BY];exact H,by rw[BY,BY,h1.len,n.len],by rw[BY];exact J,λi x u hx hu=>?_,λi j b u v hi r hu p=>?_,λi b u hi c M=>?_⟩
 .rcases t i u hu with ⟨d,a⟩|⟨d,a⟩
  .have hx:xs[i]?=some x:=by rwa [Ug d]at hx
   have s:=(h1.row i x u hx a).move (cells':=cells++l) (i':=i) λj z r=>by grind
   exact cI.keeps (V:=⟨V.w,V.O,λ_=>False,V.ρ⟩) hk (λb c=>A b (F i b u a c) (h1.out i b u a c)) s
  have hx:ys[i-xs.length]?=some x:=by rwa [Ud d]at hx
  have s:=(n.row _ x u hx a).move (cells':=cells++l) (i':=i) λj z r=>by
   have g:i*(k.size+1)=cells.length+(i-xs.length)*(k.size+1):=by
    rw[E,<-AFK];congr 1;omega
   grind
  exact cI.keeps (V:=⟨V.w,V.O,λ_=>False,V.ρ⟩) hk (λb c=>A b (G _ b u a c) (B _ b u a c)) s
 .rcases t i u hi with ⟨d,a⟩|⟨d,a⟩<;>rcases t j v r with ⟨g,m⟩|⟨g,m⟩
  .exact h1.dist i j b u v a m hu p
  .exact(q b (A7.2 (.inr ⟨i,u,a,hu⟩)) (A7.2 (.inr ⟨_,v,m,p⟩))).elim
  .exact(q b (A7.2 (.inr ⟨j,v,m,p⟩)) (A7.2 (.inr ⟨_,u,a,hu⟩))).elim
  have:=n.dist _ _ b u v a m hu p;omega
 grind
theorem A3t (V:Vw) (et a:TypeId) (k e:Ty):Lf V et a k e [] none (.slice none 0 0) [] [] :=
 ⟨by simp[AQ],rfl,AF4 V.w 0 et _,λi x u h=>by simp at h,λi j b u v h=>by simp at h,λi b u h=>by simp at h⟩
theorem MB {w:World} {base:Nat} {et:TypeId} {sz b n:Nat} {loc v:Value} {cells:List Value} (f:w.ownsRow base et sz loc n cells) (h:DT loc b 0 n v):v=loc:=by
 obtain⟨a,m,c,rfl,_,_,d,e,rfl,_,h0,_⟩:=h;grind [Ky]
theorem A79 {w:World} {O:Nat->Prop} {et:TypeId} {e:Ty} {xs:List e.den} {loc:Value} {cells:List Value} (d:xs.length<=AQ) (a:w.ownsRow 0 et e.size loc xs.length cells) (c:Dk w O e cells xs):Src w O e loc xs cells:=by
 refine⟨?_,a.1,c,Zd (V:=⟨w,O,λ_=>False,λ_=>undef⟩) a c,d⟩;rcases a.2 with ⟨b,hn⟩|⟨g,cap,f,b,_⟩
 .grind
 subst b;exact⟨some ⟨g,0,none⟩,cap,rfl,.inr ⟨_,rfl,a.cells (g:=g) rfl⟩⟩
theorem QU {V:Vw} {et a:TypeId} {k e:Ty} {xs:List (k.den×List e.den)} {o:Value} {ins cells:List Value} (h:Lf V et a k e xs none o ins cells):Src V.w (λ_=>False) (.agg (.prod k (.slice e))) o xs cells :=
 A79 (e:=.agg (.prod k (.slice e))) (xs:=xs) h.max h.own (Oq (λ_ _ h=>h) h λ_ _ _ _ _ h=>h)
theorem Rn {V:Vw} {et b:TypeId} {k e:Ty} {xs:List (k.den×List e.den)} {hl:Option Nat} {loc:Value} (a:A4 V (.nest et b k e xs hl) loc):seat loc:=by
 obtain⟨o,ins,cells,hl,_⟩:=a;exact hl.elim (λh=>.inr ⟨_,h⟩) (λh=>.inl ⟨_,_,_,h.1⟩)
theorem A3u (hs:CB w0 K O0 nt ds σ ρ a w) (R:∀b,K b->b<w0.heap.size) (T:∀b,O0 b->b<w0.heap.size) (hT:DH P tb) {d:Nat} (U:d<nt) {t ty:TypeId} {x y:Operand} {n m hi A:Nat} {E s:Ty} {k e:Ty}
  (hx:Aq σ x=some (.sr n E 0 hi)) (f:Aq σ y=some (.sr m s 0 A)) {et O r:TypeId} {xs ys:List (k.den×List e.den)} (hn:lk n σ.objs=some (.nest et r k e xs none)) (B:lk m σ.objs=some (.nest O r k e ys none)) (X:n≠m)
  (af:Gz n=false) (ae:Gz m=false) (hu:P.underlying t=some (.slice et)) {te:TI} (H:lk et tb.ty=some te) (I:te.ty=.agg (.prod k (.slice e))) (Z:hi=xs.length) (aa:A=ys.length) (J:(xs.length+ys.length)*te.bytes<=AQ) :
  ∃z w' ρ',(Builtin.append_ #[t,t] ty #[a.eval x,a.eval y]).run P w=.ok z w' /\
   CB w0 K O0 nt ds ⟨(d,.sr n (.agg (.prod k (.slice e))) 0 (xs.length+ys.length)) :: CR [n,m] σ.env,(n,.nest et r k e (xs++ys) none) :: Aw [n,m] [n,m] σ.objs⟩ ρ' (a.put (some d) z) w':=by
 subst Z aa;have v:Hg (vw w O0 σ ρ) σ a.eval:=F3 hs.env;have C:=hs.objs n _ hn;have D:=hs.objs m _ B;have ah:=Rn C;have ai:=Rn D;obtain⟨o,ins,cells,l,h⟩:=C;obtain⟨aj,M,N,q,p⟩:=D;obtain⟨_,hx⟩:=v x _ hx;obtain⟨_,f⟩:=v y _ f;have hx:DT (plc (ρ n)) E.size 0 xs.length (a.eval x):=hx;have f:DT (plc (ρ m)) s.size 0 ys.length (a.eval y):=f;rw[l.plc]at hx;rw[q.plc]at f;have hx:=MB h.own hx;have f:=MB p.own f;rw[hx,f];obtain⟨z,w',G,F,g,V⟩:=Gc (ty:=ty) hT hu H I h.own (QU p) J (Is _);have L:=Hh (ty:=ty) hT hu H I h.own (QU p) J G;rw[Um h.own]at g;refine⟨z,w',_,G,hs.swap1 (loc:=.tuple (z :: (ins++M)).toArray) R T (tl:=[n,m]) (λj ag=>?_) (.inl (by simp)) g.os g.tape g.output g.size ?_ ?_ ?_ U ?_⟩
 .grind
 .exact λb c Y=>g.block b c λe1=>Y n (by simp) (l.bk.2 (A7.2 (.inl e1.symm)))
 .intro b c;rcases A7.1 c with c|⟨i,u,hi,c⟩
  .rcases L with h1|h1
   .exact .inl ⟨n,by simp,l.bk.2 (A7.2 (.inl (by rw[<-h1];exact c)))⟩
   exact .inr (h1 b c)
  rw[Yu]at hi;split at hi
  .exact .inl ⟨n,by simp,l.bk.2 (A7.2 (.inr ⟨_,u,hi,c⟩))⟩
  exact .inl ⟨m,by simp,q.bk.2 (A7.2 (.inr ⟨_,u,hi,c⟩))⟩
 .intro V' ab hk;subst ab;refine⟨z,ins++M,cells++N,.inl rfl,Zi h p (λb h1 Q=>?_) F L (λb c W=>g.block b c λe1=>W e1.symm) hk V⟩;exact X (hs.dist n m b ⟨_,hn⟩ ⟨_,B⟩ (l.bk.2 h1) (q.bk.2 Q))
 intro V' S ad;refine⟨S,?_⟩;show DT (plc (V'.ρ n)) _ 0 _ z;rw[ad];exact Gb F
theorem A7a (hs:CB w0 K O0 nt ds σ ρ a w) (J:∀b,K b->b<w0.heap.size) (M:∀b,O0 b->b<w0.heap.size) (hT:DH P tb) {d:Nat} (N:d<nt) {t ty:TypeId} {x y:Operand} {m r:Nat} {o:Ty} {k e:Ty}
  (hx:Aq σ x=some (.raw (.slice none 0 0))) (f:Aq σ y=some (.sr m o 0 r)) {et I n:TypeId} {ys:List (k.den×List e.den)} (Q:lk m σ.objs=some (.nest I n k e ys none)) (O:lk d σ.objs=none)
  (X:Gz m=false) (hu:P.underlying t=some (.slice et)) {te:TI} (C:lk et tb.ty=some te) (D:te.ty=.agg (.prod k (.slice e))) (T:r=ys.length) (E:ys.length*te.bytes<=AQ) :
  ∃z w' ρ',(Builtin.append_ #[t,t] ty #[a.eval x,a.eval y]).run P w=.ok z w' /\
   CB w0 K O0 nt ds ⟨(d,.sr d (.agg (.prod k (.slice e))) 0 ys.length) :: CR [m] σ.env,(d,.nest et n k e ys none) :: Aw [m] [m] σ.objs⟩ ρ' (a.put (some d) z) w':=by
 subst T;have q:Hg (vw w O0 σ ρ) σ a.eval:=F3 hs.env;have s:=hs.objs m _ Q;have aa:=Rn s;obtain⟨ab,G,H,B,l⟩:=s;have hx:a.eval x=.slice none 0 0:=q x _ hx;obtain⟨_,f⟩:=q y _ f;have f:DT (plc (ρ m)) o.size 0 ys.length (a.eval y):=f;rw[B.plc]at f;have f:=MB l.own f;rw[hx,f];have h:=A3t (vw w O0 σ ρ) et n k e;obtain⟨z,w',A,v,g,R⟩:=Gc (ty:=ty) hT hu C D h.own (QU l) (by simpa using E) (Is _);have F:=Hh (ty:=ty) hT hu C D h.own (QU l) (by simpa using E) A;rw[Um h.own]at g;refine⟨z,w',_,A,hs.swap1 (loc:=.tuple (z :: ([]++G)).toArray) J M (tl:=[m]) (λj Y=>?_) (.inr O) g.os g.tape g.output g.size ?_ ?_ ?_ N ?_⟩
 .grind
 .exact λb c Z=>g.block b c λe1=>by simp[blk]at e1
 .intro b c;rcases A7.1 c with c|⟨i,u,hi,c⟩
  .rcases F with h1|h1
   .grind [blk]
   exact .inr (h1 b c)
  exact .inl ⟨m,by simp,B.bk.2 (A7.2 (.inr ⟨_,u,by simpa using hi,c⟩))⟩
 .intro V' U hk;subst U;refine⟨z,[]++G,[]++H,.inl rfl,?_⟩;have:=Zi h l (λb h1 W=>?_) v F (λb c S=>g.block b c λe1=>S e1.symm) hk R
  .simpa using this
  grind [A7,blk]
 intro V' L V;refine⟨L,?_⟩;show DT (plc (V'.ρ d)) _ 0 _ z;rw[V];have p:=Gb v;simp only[Yo,tO]at p;exact p
theorem oO (hs:CB w0 K O0 nt ds σ ρ a w) (r:∀b,K b->b<w0.heap.size) (s:∀b,O0 b->b<w0.heap.size) (hT:DH P tb) {d:Option Nat} (A:∀k,d=some k->k<nt) {t u ty:TypeId} {x y:Operand}
  (h:EU tb σ d t u (Aq σ x) (Aq σ y)=some (vc,σ')) (p:vc) :
  ∃z w' ρ',(Builtin.append_ #[t,u] ty #[a.eval x,a.eval y]).run P w=.ok z w'/\CB w0 K O0 nt ds σ' ρ' (a.put d z) w':=by
 by_cases J:∃n e hi,Aq σ x=some (.sr n e 0 hi)/\Cp (lk n σ.objs)=false
 .exact oM hs r s hT A h p J
 unfold EU at h;split at h
 .rename_i n e hi v hx q;split at h
  .rename_i d;split at h
   .rename_i o;obtain⟨rfl,H⟩:=o;cases f:lk t tb.ty with
    | none=>rw[f]at h;simp[Ef]at h
    | some ti =>
     rw[f]at h;unfold Ef at h;split at h
     .rename_i N offs el b D;cases D;split at h
      .rename_i F;subst F;obtain⟨hu,L,te,g,l⟩:=Ca (hT _ _ f) hT;rw[g]at h;unfold Cg at h;split at h
       .rename_i ti et e2 xs h1 hn;exact absurd ⟨n,_,hi,hx,by rw[hn];rfl⟩ J
       .rename_i ti et M k e2 xs h1 hn;cases h1;split at h
        .rename_i c;obtain⟨rfl,rfl⟩:=c;unfold Su at h;split at h
         .rename_i m E T;unfold L3 at h;split at h
          .rename_i Q Z Y O ys I;split at h
           .rename_i c;obtain⟨rfl,U,G⟩:=c;cases C:BQ (.slice (.agg (.prod k (.slice e2)))) ⟨.slice (.agg (.prod Y (.slice O))),ys⟩ with
            | none=>rw[C]at h;simp[Ku]at h
            | some ab =>
             obtain⟨j,R⟩:=Bi C;injection j with j
             injection j with j B
             injection B with B
             subst j B;cases R;rw[C]at h;simp only[Ku]at h;cases h;obtain⟨V,W,X⟩:=p;exact A3u hs r s hT (A _ rfl) hx q hn I U H G hu g l V W X
           cases h
          cases h
         cases h
        cases h
       cases h
      cases h
     cases h
   cases h
  cases h
 .rename_i n e i len v hx q;split at h
  .rename_i d;split at h
   .rename_i o;subst o;cases f:lk t tb.ty with
    | none=>rw[f]at h;simp[QC]at h
    | some ti =>
     rw[f]at h;unfold QC at h;split at h
     .rename_i N offs el b D;cases D;split at h
      .rename_i F;subst F;obtain⟨hu,L,te,g,l⟩:=Ca (hT _ _ f) hT;rw[g]at h;unfold Ss at h;split at h
       .rename_i ti et M k e1 xs h1 hn;cases h1;split at h
        .rename_i c;obtain⟨rfl,rfl,H⟩:=c;exact A78 hs r s hT (A _ rfl) hx q hn H hu g l h p
        cases h
       cases h
      cases h
     cases h
   cases h
  cases h
 .rename_i v hx q;split at h
  .rename_i d;split at h
   .rename_i o;subst o;unfold cF at h;split at h
    .rename_i m E T aa offs el b f;obtain⟨hu,L,te,g,l⟩:=Ca (hT _ _ f) hT;rw[g]at h;unfold QE at h;split at h
     .rename_i ti Q M k e ys h1 I;cases h1;split at h
      .rename_i c;subst c;unfold QD at h;split at h
       .rename_i c;obtain⟨S,G⟩:=c;cases h;exact A7a hs r s hT (A _ rfl) hx q I (by simpa using S) G hu g l p.1 p.2
       cases h
      cases h
     cases h
    cases h
   cases h
  cases h
 cases h
theorem oP (hs:CB w0 K O0 nt ds σ ρ a w) (r:∀b,K b->b<w0.heap.size) (s:∀b,O0 b->b<w0.heap.size) (hT:DH P tb) {id:TypeId} {x y:Operand} (h:H9 σ (lk id tb.ty) (Aq σ x) (Aq σ y)=some (vc,σ')) (C:vc) :
  ∃w' ρ',(Instr.storeAt id (a.eval x) (a.eval y)).run P w=.ok () w'/\CB w0 K O0 nt ds σ' ρ' a w':=by
 by_cases A:∃n e i l off,Aq σ x=some (.ep n e i l off)/\Cp (lk n σ.objs)=true
 .obtain⟨n,e,i,l,off,hx,f⟩:=A;unfold H9 at h;split at h
  .grind
  .rename_i ti I F i' L J v B g D;rw[hx]at g;cases g;unfold Db at h;split at h
   .rename_i hn;rw[hn]at f;cases f
   .rename_i et G k e1 xs j hn;split at h
    .rename_i m E hi;split at h
     .rename_i c;obtain⟨rfl,rfl,q⟩:=c;subst q;unfold L4 at h;split at h
      .rename_i c;obtain⟨hty,rfl,rfl⟩:=c;unfold L2 at h;split at h
       .rename_i H e2 ys z;split at h
        .rename_i c;obtain⟨rfl,t,u⟩:=c;cases d:BQ (.slice E) ⟨.slice e2,ys⟩ with
         | none=>rw[d]at h;simp[Kt]at h
         | some M =>
          obtain⟨o,p⟩:=Bi d;subst o;cases p;rw[d]at h;simp only[Kt]at h;cases h;exact A3s hs r s hT B hty hx D hn z u t C
        cases h
       cases h
      cases h
     cases h
    cases h
   cases h
  cases h
 grind [A17,Cp,lk]
end
end
end Go.Proofs.YtapkhdkbkodbjaaGreat.Fw
