/- Calls by contract; stores; appends. -/
import Derived.Test.YtaoonfcjbmcmpaaGreatDoorFZC
import Derived.CallsIn
import Derived.TacticsIn
import Derived.OrdersIn
import Derived.RangeFuncCalls
set_option linter.unusedVariables false
set_option linter.unusedSimpArgs false
namespace Go.Proofs.YtaoonfcjbmcmpaaGreatDoor.Fw
section
open Go Go.RowKit
def Lr (w:World) (O:Nat->Prop):(ts:List Ty)->List Value->H4 ts->Prop
 | [],a,_=>a=[]
 | t :: ts,a,ds=>∃(v:Value) (r:List Value),a=v :: r/\BG w O t v ds.1/\Lr w O ts r ds.2
def FR (r:Option Nat):Fence:={ fn:=λ_=>True,depth:=none,alive:=false,round:=r }
theorem QU {r:Option Nat} {n:Nat} {P:Program} {f:FuncId} {args:Array Value} {w:World} {R:Ending->World->Prop} (h:Calls P f args w R):CallsIn (FR r) n P f args w R:=by
 cases r with
 | none=>exact callsIn_wide.2 h
 | some l=>exact((callsIn_wide.2 h:CallsIn Fence.wide n P f args w R).inRound l:CallsIn _ n P f args w R)
theorem Hl (r:Option Nat) (ρ:Operand->Value) (o:Oper) (h:∀c,o.op≠.defer c):o.semAt r ρ=execOp ρ o:=by
 cases r with
 | none=>exact Oper.semAt_none ρ o
 | some l=>exact Oper.semAt_some l ρ o h
def q7 (w:World) (O:Nat->Prop) (outs:List RV) (u:Value) (w':World):Prop :=
 ∀nm:Nat,∃ρ',QS w O ⟨[],[]⟩ (λ_=>undef) (F3 nm outs) (Cv nm outs) u ρ' w'
def kD:List Int->Ty
 | []=>.int .u8
 | [_]=>.int .u8
 | _ :: y :: r=>.prod (.int .u8) (kD (y :: r))
def q8:(l:List Int)->(kD l).den
 | []=>(0:Int)
 | [x]=>x
 | x :: y :: r=>(x,q8 (y :: r))
def gls:List (Nat×PV):=[(0,⟨.agg (kD [0,1,56,2,57,49,28,3,61,58,42,50,38,29,17,4,62,47,59,36,45,43,51,22,53,39,33,30,24,18,12,5,63,55,48,27,60,41,37,16,46,35,44,21,52,32,23,11,54,26,40,15,34,20,31,10,25,14,19,9,13,8,7,6]),q8 [0,1,56,2,57,49,28,3,61,58,42,50,38,29,17,4,62,47,59,36,45,43,51,22,53,39,33,30,24,18,12,5,63,55,48,27,60,41,37,16,46,35,44,21,52,32,23,11,54,26,40,15,34,20,31,10,25,14,19,9,13,8,7,6]⟩)]
def GW (w:World) (K O:Nat->Prop):Prop:=∀x∈gls,K x.1/\¬O x.1/\∃cs:List Value,(∀(j:Nat) (u:Value),cs[j]?=some u->w.cell? ⟨x.1,j,none⟩=some u)/\Bl w (λb=>¬K b\/O b) x.2.t cs x.2.d
theorem GW.mono {w w':World} {K e O O':Nat->Prop} (h:GW w K O) (g:∀b,K b->¬O b->e b/\¬O' b) (i:∀b,K b->w'.heap[b]?=w.heap[b]?):GW w' e O':=λx t=>by
 obtain⟨f,k,cs,l,m⟩:=h x t;obtain⟨n,o⟩:=g _ f k;refine⟨n,o,cs,λj u r=>?_,m.mono (λb _ c s=>?_) λb _ c=>i b (IN λa=>c (.inl a))⟩
 .rw[ABF (w:=w) (w':=w')]
  .exact l j u r
  exact i _ f
 have a:K b:=IN λa=>c (.inl a);have d:¬O b:=λd=>c (.inr d);obtain⟨p,q⟩:=g b a d;rcases s with h|h
 .exact h p
 exact q h
def xY (P:Program) (f:FuncId) (a:Spec):Prop :=
 ∀(w:World) (O:Nat->Prop) (c:List Value) (ds:H4 a.ins),(∀b,O b->b<w.heap.size)->GW w (λb=>b<w.heap.size) O->Lr w O a.ins c ds->a.pre ds ->
  Calls P f c.toArray w λe w'=>∃u,e=.returned u/\q7 w O (a.out ds) u w'
def Ap (P:Program) (f:FuncId) (a:Spec):Prop :=
 (∃ fn : Func, P.funcs[f]? = some fn /\ (fn.name == "runtime.NumGoroutine") = false /\ fn.body.isNone = false) /\ xY P f a
def KH (P:Program) (tb:Tb):Prop:=∀f a,lk f tb.fns=some a->Ap P f a
theorem Mm {w w':World} {O O':Nat->Prop}:∀ {t:Ty} {cs:List Value} {d:t.den},t.flat=true->Bl w O t cs d->Bl w' O' t cs d
 | .int _,_,_,_,h=>h
 | .bool,_,_,_,h=>h
 | .str,_,_,_,h=>h
 | .ref _,_,_,_,h=>h
 | .slice _,_,_,c,_=>by simp[Ty.flat]at c
 | .prod a b,_,_,c,h=>by
  simp only[Ty.flat,AT]at c;obtain⟨c1,c2,rfl,e,f⟩:=h;exact⟨c1,c2,rfl,Mm c.1 e,Mm c.2 f⟩
 | .agg t,cs,d,c,h=>by
  simp only[Ty.flat]at c;have h:Bl w O t cs d:=h;exact(Mm c h:Bl w' O' t cs d)
theorem Sz {w w':World} {O O':Nat->Prop} {t:Ty} {v:Value} {d:t.den} (c:t.flat=true) (h:BG w O t v d):BG w' O' t v d :=
 let ⟨cs,a,b⟩:=h
 ⟨cs,Mm c a,b⟩
theorem O1:∀ {l:List RV} (nm:Nat),l.all RV.flat=true->Cv nm l=[]
 | [],_,_=>rfl
 | .p t d :: l,nm,h=>by
  simp only[AAZ,AT]at h;simp[Cv,Oj,O1 (nm+10000) h.2]
 | .own _ _ _ :: l,nm,h=>by simp[RV.flat]at h
theorem kE {r:RV} (h:r.flat=true) (nm:Nat):∃t d,WE nm r=.p t d/\t.flat=true:=by
 cases r with
 | p t d=>exact⟨t,d,rfl,h⟩
 | own _ _ _=>simp[RV.flat]at h
theorem kF {V V':Vw}:∀ {l:List RV} {nm:Nat} {b:List Value},l.all RV.flat=true->G4 V (Gx nm l) b->G4 V' (Gx nm l) b
 | [],_,_,_,h=>h
 | r :: l,nm,b,a,h=>by
  simp only[AAZ,AT]at a;obtain⟨v,i,rfl,c,f⟩:=h;obtain⟨t,d,e,g⟩:=kE a.1 nm;refine⟨v,i,rfl,?_,kF a.2 f⟩;rw[e]at c ⊢;exact Sz g c
theorem kG {V V':Vw} {l:List RV} {nm:Nat} {u:Value} (a:l.all RV.flat=true) (h:Bn V (F3 nm l) u):Bn V' (F3 nm l) u:=by
 match l,a,h with
 | [],_,h=>exact h
 | [r],a,h =>
  simp only[AAZ,List.all_nil,Bool.and_true]at a;obtain⟨t,d,e,c⟩:=kE a nm;simp only[F3]at h ⊢;rw[e]at h ⊢;exact Sz c h
 | g :: i :: l,a,h =>
  obtain⟨f,rfl,b⟩:=h;exact⟨f,rfl,kF a b⟩
section
variable {P:Program} {tb:Tb} {w:World} {O0:Nat->Prop} {σ:St} {ρ:Nat->Value} {vc:Prop} {v:AV} {obs:List (Nat×Obj)}
theorem QS.call {outs:List RV} {nm:Nat} {u:Value} {ρ':Nat->Value} {w':World} (r:BS (Cv nm outs) σ=true)
  (h:QS w (own O0 σ ρ) ⟨[],[]⟩ (λ_=>undef) (F3 nm outs) (Cv nm outs) u ρ' w') :
  QS w O0 σ ρ (F3 nm outs) (Cv nm outs) u (λn=>if (lk n (Cv nm outs)).isSome then ρ' n else ρ n) w':=by
 have f:∀n,GL (Du ⟨[],[]⟩ (Cv nm outs)) n↔∃o,lk n (Cv nm outs)=some o:=λn=>by simp[GL,Du]
 have g:CG (vw w' (own O0 σ ρ) (Du ⟨[],[]⟩ (Cv nm outs)) ρ') (vw w' O0 (Du σ (Cv nm outs)) (λn=>if (lk n (Cv nm outs)).isSome then ρ' n else ρ n)):=by
  refine⟨?_,?_,?_,λ_ _ _=>rfl⟩
  .intro b _ c e;rcases e with j|⟨n,k,d⟩
   .exact c (.inl (.inl j))
   rcases KD k with ⟨o,a⟩|⟨p,l⟩
   .refine c (.inr ⟨n,(f n).2 ⟨o,a⟩,?_⟩);simpa[a] using d
   refine c (.inl (.inr ⟨n,l,?_⟩));simpa[p] using d
  .intro n d;obtain⟨o,a⟩:=(f n).1 d;exact⟨o,by simp[Du,BI,a]⟩
  intro n d;obtain⟨o,a⟩:=(f n).1 d;simp[vw,a]
 refine⟨h.below,λn d=>by simp[d],h.av.keeps g,λn o a=>?_,λn o b a c=>?_,λn m o q b a i c e=>?_⟩
 .simp only[a,ACn,AAH];exact(h.obj n o a).keeps g (λ_ _=>rfl)
 .simp only[a,ACn,AAH]at c;exact h.new n o b a c
 simp only[a,i,ACn,AAH]at c e;exact h.dist n m o q b a i c e
theorem Uq {V:Vw} {O':Nat->Prop} {l:Bool} (c:∀b,¬V.O b->¬O' b) (f:l=true->∀b,¬O' b) (e:∀n o,lk n σ.objs=some o->Av V o (V.ρ n)) {ev:Operand->Value} (d:EI V σ ev) :
  ∀ {ts:List Ty} {xs:List Operand} {ds:H4 ts},Fb l σ ts xs=some ds->Lr V.w O' ts (xs.map ev) ds
 | [],[],ds,h=>rfl
 | [],_ :: _,ds,h=>by simp[Fb]at h
 | _ :: _,[],ds,h=>by simp[Fb]at h
 | t :: ts,x :: xs,ds,h=>by
  simp only[Fb]at h;cases a:Ae σ x with
  | none=>rw[a]at h;cases h
  | some av =>
   rw[a]at h;simp only at h;split at h
   .rename_i y ys g i;cases h;exact⟨ev x,xs.map ev,rfl,Hh c f e g (d x av a),Uq c f e d i⟩
   cases h
theorem xZ (O:KH P tb) (A:GW w (λb=>b<w.heap.size) (own O0 σ ρ)) (D:∀n o,lk n σ.objs=some o->Av (vw w O0 σ ρ) o (ρ n)) (W:∀b,own O0 σ ρ b->b<w.heap.size) {a:Act} (p:EI (vw w O0 σ ρ) σ a.eval) {d:Nat} {xs:List Operand} {g:Operand}
  {o:Oper} {ts:Array TypeId} (C:o.op=.call { callee:=.value g,args:=xs.toArray,argTypes:=ts })
  (h:J7 tb σ d xs (Ae σ g)=some (vc,v,obs)) (F:vc) (M:BS obs σ=true) {next:Act->World->Prop} {Q:Exit->Act->World->Prop} {r:Option Nat}
  (B:∀u ρ' w',QS w O0 σ ρ v obs u ρ' w'->next (a.put o.dst u) w'):o.wpIn (FR r) 0 P a w next Q:=by
 cases q:Ae σ g with
 | none=>rw[q]at h;simp[J7]at h
 | some G =>
  rw[q]at h;have S:=p g G q;unfold J7 at h;split at h
  .rename_i f L;cases L;have R:a.eval g=.func (.func f) #[] #[]:=S;cases y:lk f tb.fns with
   | none=>rw[y]at h;simp[IA]at h
   | some k =>
    rw[y]at h;simp only[IA]at h;cases i:Fb k.lend σ k.ins xs with
    | none=>rw[i]at h;simp[I8]at h
    | some ds =>
     rw[i]at h;simp only[I8]at h;split at h
     .rename_i j;cases h;obtain⟨⟨fn,N,U,K⟩,E⟩:=O f k y;have X:(execOp a.eval o).run P w=.ok (.enter f (xs.map a.eval).toArray) w:=by
       have H : ¬ fn.name = "runtime.NumGoroutine" := by simpa using U
       have I:¬fn.body=none:=by intro e;simp[e]at K
       simp[execOp,C,resolve,Deferred.ofValue,R,invoke,callFunc,N,H,I]
      refine⟨λ_ _=>trivial,?_⟩;rw[Hl _ _ _ (λc e=>by rw[C]at e;cases e),X,Oper.uponIn_enter];refine⟨λh=>(by simp[FR]at h),QU ?_⟩;by_cases t:k.lend=true
      .rw[t]at i;have z:(k.out ds).all RV.flat=true:=by
        rcases j with j|j
        .rw[t]at j;cases j
        exact j
       have m:=Uq (V:=vw w O0 σ ρ) (O':=λ_=>False) (λ_ _ h=>h) (λ_ _ h=>h) D p i;refine(E w (λ_=>False) _ ds (λ_ h=>h.elim) (A.mono (λb J _=>⟨J,id⟩) λ_ _=>rfl) m F).mono λe w' s=>?_;obtain⟨u,rfl,x⟩:=s;obtain⟨ρ',l⟩:=x d;refine B u ρ w' ?_;rw[O1 d z]at l ⊢;exact⟨l.below,λ_ _=>rfl,kG z l.av,(λ_ _ h=>by cases h),(λ_ _ _ h=>by cases h),(λ_ _ _ _ _ h=>by cases h)⟩
      have T:k.lend=false:=by simpa using t
      rw[T]at i;have m:=Uq (V:=vw w O0 σ ρ) (O':=own O0 σ ρ) (λ_ h=>h) (λh=>by cases h) D p i;refine(E w (own O0 σ ρ) _ ds W A m F).mono λe w' s=>?_;obtain⟨u,rfl,x⟩:=s;obtain⟨ρ',l⟩:=x d;exact B u _ w' (QS.call M l)
     cases h
  cases h
end
end
section
open Go Go.RowKit
section
variable {P:Program} {tb:Tb} {w:World} {O0:Nat->Prop} {σ:St} {ρ:Nat->Value} {vc:Prop} {v:AV} {obs:List (Nat×Obj)}
theorem Aa {o:Oper} {a:Act} {u:Value} {w':World} {next:Act->World->Prop} {Q:Exit->Act->World->Prop} {r:Option Nat} (h:(execOp a.eval o).run P w=.ok (.value u) w') (b:next (a.put o.dst u) w') (d:∀c,o.op≠.defer c:=by intro c e;cases e):o.wpIn (FR r) 0 P a w next Q:=by
 refine⟨λ_ _=>trivial,?_⟩;rw[Hl _ _ _ d,h];exact b
theorem kH {V:Vw} (x:Value):Bn V (Ga x) x:=by
 unfold Ga;split
 .rename_i k n;split
  .rename_i h;exact BD h
  exact(rfl:(Value.int k n)=_)
 .exact Bo _
 .rename_i s;split
  .rename_i h;exact QM h
  exact(rfl:(Value.string s)=_)
 exact(rfl:x=x)
theorem Ck {V:Vw} {a:Act} (h:∀s v,lk s σ.env=some v->Bn V v (a.tmps.getD s undef)):EI V σ a.eval:=by
 intro x v b;cases x with
 | tmp t=>exact h t v b
 | const c=>simp only[Ae]at b;cases b;exact kH c
 | global g=>simp[Ae]at b
 | func f=>simp only[Ae]at b;cases b;rfl
structure A0a (P:Program) (tb:Tb) (w:World) (O0:Nat->Prop) (σ:St) (ρ:Nat->Value) (a:Act):Prop where
 hT:DG P tb
 hF:KH P tb
 hG:GW w (λb=>b<w.heap.size) (own O0 σ ρ)
 obj:∀n o,lk n σ.objs=some o->Av (vw w O0 σ ρ) o (ρ n)
 own:∀b,own O0 σ ρ b->b<w.heap.size
 ev:EI (vw w O0 σ ρ) σ a.eval
theorem QS.toP {d n:Nat} {el:TypeId} {e:Ty} {xs:List e.den} {u:Value} {ρ':Nat->Value} {w':World} (hown:∀b,own O0 σ ρ b->b<w.heap.size) (hf:BS [(d,.arr el e xs)] σ=true)
  (hq:QS w O0 σ ρ (.sr d e 0 n) [(d,.arr el e xs)] u ρ' w') (hn:n=xs.length):QS w O0 σ ρ (.p (.slice e) xs) [] u ρ w' where
 below:=hq.below
 rho:=λ_ _=>rfl
 av:=by
  have hO:∀b,¬own O0 (Du σ [(d,.arr el e xs)]) ρ' b->¬own O0 (Du σ []) ρ b:=by
   intro b hb hb';rcases hb' with h0|⟨m,⟨o,hm⟩,hmb⟩
   .exact hb (.inl h0)
   have hm:lk m σ.objs=some o:=hm;have hne:lk m [(d,Obj.arr el e xs)]=none:=by grind [lk,L4]
   refine hb (.inr ⟨m,⟨o,by simp only[Du,BI,hne];simpa using hm⟩,?_⟩);rw[hq.rho m hne];exact hmb
  have hd:lk d [(d,Obj.arr el e xs)]=some (.arr el e xs):=by simp[lk]
  have hb:∀b,bk (ρ' d) b->¬own O0 (Du σ []) ρ b:=λb hb hb'=>by
   have h1:=hq.new d _ b hd hb;have h2:=hown b hb';omega
  have hr:=Uf (V:=vw w' O0 (Du σ [(d,.arr el e xs)]) ρ') hO (λb hb'=>hb b (.inl hb')) (hq.obj d _ hd) hq.av.2;rw[hn,HW]at hr;obtain⟨_,_,_,_,_,_,a',c',hve,_⟩:=hq.av.2;exact⟨[u],hr,by rw[hve];rfl⟩
 obj:=λ_ _ h=>by cases h
 new:=λ_ _ _ h=>by cases h
 dist:=λ_ _ _ _ _ h=>by cases h
theorem Sc {id:TypeId} {ti:TI} (hT:Dg P tb id ti) (g:DG P tb) (r:∀n o,lk n σ.objs=some o->Av (vw w O0 σ ρ) o (ρ n)) (B:∀b,own O0 σ ρ b->b<w.heap.size) {ev:Operand->Value} (i:EI (vw w O0 σ ρ) σ ev) {s:Bool} {d n:Nat} {parts:List (Nat×Operand)}
  (h:Bd s σ d n parts (some ti)=some (vc,v,obs)) (f:vc) (A:BS obs σ=true) :
  ∃u ρ' w',(Instr.buildSlice id n (parts.map λp=>(p.1,ev p.2)).toArray).run P w=.ok u w'/\QS w O0 σ ρ v obs u ρ' w':=by
 cases s with
 | false=>exact Mi hT g r i h f A
 | true =>
  unfold Bd at h;split at h
  .rename_i e offs el b E;cases hp:EW σ e 0 parts with
   | none=>rw[hp]at h;simp[Bj]at h
   | some xs =>
    rw[hp]at h;simp only[Bj,AAH]at h;cases h;obtain⟨a,z⟩:∃a,lk a σ.objs=none:=by
     have:∀l:List (Nat×Obj),∃m,∀k,m<=k->lk k l=none:=by
      intro l;induction l with
      | nil=>exact⟨0,λ_ _=>rfl⟩
      | cons x l D =>
       obtain⟨m,c⟩:=D;refine⟨max m (x.1+1),λk F=>?_⟩;have:¬k=x.1:=by omega
       obtain⟨j,o⟩:=x;simp only[lk,this,AAX];exact c k oa
     obtain⟨m,c⟩:=this σ.objs;exact⟨m,c m (If m)⟩
    have q:BS [(a,.arr el e xs)] σ=true:=by simp[BS,z]
    have C:Bd false σ a n parts (some ti)=some (xs.length=n/\n*e.size<=16777216,.sr a e 0 n,[(a,.arr el e xs)]):=by grind [Bd,Bj]
    obtain⟨u,ρ',w',t,y⟩:=Mi hT g r i C f q;exact⟨u,ρ,w',t,y.toP B q f.1.symm⟩
  cases h
theorem WT {V:Vw} {ev:Operand->Value} (g:EI V σ ev) (w':World) {k:IntKind}:∀(r:List Operand) (a m:Int),E1 σ k (some a) r=some m->Gm k a->((r.map ev).foldlM Builtin.min2 (.int k a)).run P w'=.ok (.int k m) w'/\Gm k m
 | [],a,m,h,d=>by
  simp only[E1,AAU]at h;subst h;exact⟨rfl,d⟩
 | x :: r,a,m,h,d=>by
  simp only[E1]at h;cases f:Ae σ x with
  | none=>rw[f]at h;cases r<;>simp[Lm,E1]at h
  | some xv =>
   rw[f]at h;cases c:Lm k a (some xv) with
   | none=>rw[c]at h;cases r<;>simp[E1]at h
   | some b' =>
    rw[c]at h;unfold Lm at c;split at c
    .rename_i n b e;cases e;split at c
     .rename_i l;subst l;cases c;obtain⟨i,j⟩:=A3 (g x _ f);have:=WT g w' r _ m h (by split;exact j;exact d);rw[oR,List.foldlM_cons,i];simpa[Builtin.min2] using this
     cases c
    cases c
theorem aM {a:Act} (K:A0a P tb w O0 σ ρ a) {o:Oper} (h:aq tb σ (o.dst.getD 0) o.op=some (vc,v,obs)) (E:vc) (H:BS obs σ=true)
  {next:Act->World->Prop} {Q:Exit->Act->World->Prop} {r:Option Nat} (B:∀u ρ' w',QS w O0 σ ρ v obs u ρ' w'->next (a.put o.dst u) w'):o.wpIn (FR r) 0 P a w next Q:=by
 obtain⟨hT,hF,hG,I,ae,q⟩:=K;have Y:∀n,(vw w O0 σ ρ).L n->∃o,Av (vw w O0 σ ρ) o ((vw w O0 σ ρ).ρ n):=λn ⟨o,aj⟩=>⟨o,I n o aj⟩;obtain⟨dst,op,type,pos,after,guard⟩:=o;simp only at h B;cases op<;>simp only[aq]at h<;>try(cases h;done)
 case move x =>
  cases d:Ae σ x with
  | none=>rw[d]at h;cases h
  | some xv =>
   rw[d]at h;simp only[F4]at h;cases h;exact Aa (u:=a.eval x) (by simp[execOp]) (B _ _ _ (QS.still (q x _ d)))
 case assign x =>
  cases d:Ae σ x with
  | none=>rw[d]at h;cases h
  | some xv =>
   rw[d]at h;simp only[F4]at h;cases h;exact Aa (u:=a.eval x) (by simp[execOp]) (B _ _ _ (QS.still (q x _ d)))
 case pick c x y =>
  cases K:Ae σ c with
  | none=>rw[K]at h;simp[Jn]at h
  | some X =>
   rw[K]at h;have aa:=q c X K;unfold Jn at h;split at h
   .rename_i G;cases G;have F:=Dq aa;cases d:Ae σ x with
    | none=>rw[d]at h;simp[F4]at h
    | some xv =>
     rw[d]at h;simp only[F4]at h;cases h;exact Aa (u:=a.eval x) (by simp[execOp,F,asBool]) (B _ _ _ (QS.still (q x _ d)))
   .rename_i G;cases G;have F:=Dq aa;cases C:Ae σ y with
    | none=>rw[C]at h;simp[F4]at h
    | some N =>
     rw[C]at h;simp only[F4]at h;cases h;exact Aa (u:=a.eval y) (by simp[execOp,F,asBool]) (B _ _ _ (QS.still (q y _ C)))
   cases h
 case alloc t =>
  cases e:lk t tb.ty with
  | none=>rw[e]at h;simp[I4]at h
  | some ti =>
   rw[e]at h;obtain⟨u,ρ',w',A,j⟩:=qX (w:=w) (O0:=O0) (ρ:=ρ) (hT _ _ e) h H;exact Aa (u:=u) (w':=w') (by simp[execOp,A]) (B _ _ _ j)
 case box t x =>
  cases e:lk t tb.ty with
  | none=>rw[e]at h;simp[Pe]at h
  | some ti =>
   cases d:Ae σ x with
   | none=>rw[e,d]at h;simp[Pe]at h
   | some xv =>
    rw[e,d]at h;obtain⟨u,ρ',w',A,j⟩:=A08 (hT _ _ e) h (q x _ d) H;exact Aa (u:=u) (w':=w') (by simp[execOp,A]) (B _ _ _ j)
 case build t parts =>
  cases e:lk t tb.ty with
  | none=>rw[e]at h;simp[H6]at h
  | some ti =>
   rw[e]at h;obtain⟨rfl,u,A,j⟩:=qZ (hT _ _ e) I q h;have A:(Instr.build t (parts.map λp=>(p.1,a.eval p.2))).run P w=.ok u w:=by
    rw[<-A]
    congr 2
    apply Array.ext';simp
   exact Aa (u:=u) (w':=w) (by simp[execOp,A]) (B _ _ _ (QS.still j))
 case buildSlice t n parts =>
  cases ab:lk (dst.getD 0) tb.nests with
  | some ar =>
   rw[ab]at h;simp only[Fx]at h;cases e:lk t tb.ty with
   | none=>rw[e]at h;simp[H8]at h
   | some ti =>
    rw[e]at h;obtain⟨u,ρ',w',A,j⟩:=xT (hT _ _ e) hT I q h E H;have A:(Instr.buildSlice t n (parts.map λp=>(p.1,a.eval p.2))).run P w=.ok u w':=by
     rw[<-A]
     congr 2
     grind
    exact Aa (u:=u) (w':=w') (by simp[execOp,A]) (B _ _ _ j)
  | none =>
  rw[ab]at h;simp only[Fx]at h;cases e:lk t tb.ty with
  | none=>rw[e]at h;simp[Bd]at h
  | some ti =>
   rw[e]at h;obtain⟨u,ρ',w',A,j⟩:=Sc (hT _ _ e) hT I ae q h E H;have A:(Instr.buildSlice t n (parts.map λp=>(p.1,a.eval p.2))).run P w=.ok u w':=by
    rw[<-A]
    congr 2
    apply Array.ext';simp
   exact Aa (u:=u) (w':=w') (by simp[execOp,A]) (B _ _ _ j)
 case load t x =>
  cases e:lk t tb.ty with
  | none=>rw[e]at h;simp[IR]at h
  | some ti =>
   cases d:Ae σ x with
   | none=>rw[e,d]at h;simp[IR]at h
   | some xv =>
    rw[e,d]at h;obtain⟨rfl,u,A,j⟩:=j5 (hT _ _ e) I h (q x _ d);exact Aa (u:=u) (w':=w) (by simp[execOp,A]) (B _ _ _ (QS.still j))
 case nilCheck x =>
  cases d:Ae σ x with
  | none=>rw[d]at h;simp[QH]at h
  | some xv =>
   rw[d]at h;obtain⟨rfl,⟨ad,G⟩,j⟩:=A07 h (q x _ d);exact Aa (u:=a.eval x) (w':=w) (by simp[execOp,G]) (B _ _ _ (QS.still j))
 case binOp op t x y ay =>
  cases d:Ae σ x with
  | none=>rw[d]at h;simp[Nq]at h
  | some xv =>
   cases C:Ae σ y with
   | none=>rw[d,C]at h;cases xv<;>simp[Nq]at h
   | some N =>
    rw[d,C]at h;obtain⟨rfl,A,u,j,D⟩:=A03 (P:=P) (t:=t) (λF=>by
     cases e:lk t tb.ty with
     | none=>rw[e]at F;cases F
     | some ti =>
      have an:=(hT _ _ e).2;rw[e]at F;unfold Ol at F;split at F
      .grind
      cases F) w h E (q x _ d) (q y _ C)
    exact Aa (u:=u) (w':=w) (by simp[execOp,A,j]) (B _ _ _ (QS.still D))
 case unOp op t x =>
  cases d:Ae σ x with
  | none=>rw[d]at h;cases op<;>simp[jR]at h
  | some xv =>
   rw[d]at h;obtain⟨rfl,u,j,D⟩:=A1c (P:=P) w h E (q x _ d);exact Aa (u:=u) (w':=w) (by simp[execOp,j]) (B _ _ _ (QS.still D))
 case convert s t x =>
  cases hs:lk s tb.ty with
  | none=>rw[hs]at h;simp[IT]at h
  | some ax =>
   cases e:lk t tb.ty with
   | none=>rw[hs,e]at h;simp[IT]at h
   | some ti =>
    cases d:Ae σ x with
    | none=>rw[hs,e,d]at h;simp[IT]at h
    | some xv =>
     rw[hs,e,d]at h;obtain⟨rfl,u,j,D⟩:=xP (P:=P) hT rfl (hT _ _ hs) (hT _ _ e) h E (q x _ d);have j:(convert s t (a.eval x)).run P w=.ok u w:=j;exact Aa (u:=u) (w':=w) (by simp[execOp,j]) (B _ _ _ (QS.still D))
 case makeSlice t l c =>
  cases e:lk t tb.ty with
  | none=>rw[e]at h;simp[Hc]at h
  | some ti =>
   cases d:Ae σ l with
   | none=>rw[e,d]at h;simp[Hc]at h
   | some av =>
    cases C:Ae σ c with
    | none=>rw[e,d,C]at h;simp[Hc]at h
    | some X =>
     rw[e,d,C]at h;obtain⟨u,ρ',w',A,j⟩:=xU (hT _ _ e) hT h E (q l _ d) (q c _ C) H;exact Aa (u:=u) (w':=w') (by simp[execOp,A]) (B _ _ _ j)
 case slice t x lo hi am =>
  cases am with
  | some m =>
   cases lo with
   | some _=>cases hi<;>simp[aq]at h
   | none =>
    cases hi with
    | none=>simp[aq]at h
    | some A =>
     simp only[aq]at h;cases e:lk t tb.ty with
     | none=>rw[e]at h;simp[DY]at h
     | some ti =>
      cases d:Ae σ x with
      | none=>rw[e,d]at h;simp[DY]at h
      | some xv =>
       cases O:Ae σ A with
       | none=>rw[e,d,O]at h;simp[DY]at h
       | some ap =>
        cases J:Ae σ m with
        | none=>rw[e,d,O,J]at h;simp[DY]at h
        | some aw =>
         rw[e,d,O,J]at h;obtain⟨rfl,u,j,D⟩:=kA (P:=P) (V:=vw w O0 σ ρ) (hT _ _ e) hT h E (q x _ d) (q A _ O) (q m _ J);have j:(Instr.sliceAt t (a.eval x) none (some (a.eval A)) (some (a.eval m))).run P w=.ok u w:=j;exact Aa (u:=u) (w':=w) (by simp[execOp,j]) (B _ _ _ (QS.still D))
  | none =>
   simp only[aq]at h;cases e:lk t tb.ty with
   | none=>rw[e]at h;simp[Eq]at h
   | some ti =>
    cases d:Ae σ x with
    | none=>rw[e,d]at h;simp[Eq]at h
    | some xv =>
     have Z:∀ {y:Option Operand} {U:Option AV},F2 σ y=some U->WM (V:=vw w O0 σ ρ) U (y.map a.eval):=by
      intro y U C;cases y with
      | none=>simp only[F2]at C;cases C;trivial
      | some z =>
       simp only[F2,GO]at C;obtain⟨W,M,rfl⟩:=C;exact q z W M
     cases R:F2 σ lo with
     | none=>rw[e,d,R]at h;simp[Eq]at h
     | some au =>
      cases S:F2 σ hi with
      | none=>rw[e,d,R,S]at h;simp[Eq]at h
      | some ao =>
       rw[e,d,R,S]at h;obtain⟨rfl,u,j,D⟩:=qW (P:=P) (V:=vw w O0 σ ρ) (hT _ _ e) hT h E (q x _ d) (Z R) (Z S);have j:(Instr.sliceAt t (a.eval x) (lo.map a.eval) (hi.map a.eval) none).run P w=.ok u w:=j;exact Aa (u:=u) (w':=w) (by simp[execOp,j]) (B _ _ _ (QS.still D))
 case fieldAddr s x f =>
  cases hs:lk s tb.ty with
  | none=>rw[hs]at h;simp[GN]at h
  | some ti =>
   cases d:Ae σ x with
   | none=>rw[hs,d]at h;simp[GN]at h
   | some xv =>
    rw[hs,d]at h;obtain⟨rfl,u,j,D⟩:=qS (P:=P) (hT _ _ hs) w h (q x _ d);exact Aa (u:=u) (w':=w) (by simp[execOp,j]) (B _ _ _ (QS.still D))
 case indexAddr t x i =>
  cases e:lk t tb.ty with
  | none=>rw[e]at h;simp[FI]at h
  | some ti =>
   cases d:Ae σ x with
   | none=>rw[e,d]at h;simp[FI]at h
   | some xv =>
    cases hi:Ae σ i with
    | none=>rw[e,d,hi]at h;simp[FI]at h
    | some af =>
     rw[e,d,hi]at h;obtain⟨rfl,u,j,D⟩:=qT (P:=P) (V:=vw w O0 σ ρ) (hT _ _ e) hT h E (q x _ d) (q i _ hi) Y;have j:(Instr.indexAt t (a.eval x) (a.eval i)).run P w=.ok u w:=j;exact Aa (u:=u) (w':=w) (by simp[execOp,j]) (B _ _ _ (QS.still D))
 case index t x i =>
  cases e:lk t tb.ty with
  | none=>rw[e]at h;simp[Dy]at h
  | some ti =>
   cases d:Ae σ x with
   | none=>rw[e,d]at h;simp[Dy]at h
   | some xv =>
    cases hi:Ae σ i with
    | none=>rw[e,d,hi]at h;simp[Dy]at h
    | some af =>
     rw[e,d,hi]at h;obtain⟨rfl,u,j,D⟩:=j7 (P:=P) (hT _ _ e) w h E (q x _ d) (q i _ hi);exact Aa (u:=u) (w':=w) (by simp[execOp,j]) (B _ _ _ (QS.still D))
 case extract x i =>
  cases d:Ae σ x with
  | none=>rw[d]at h;simp[D3]at h
  | some xv =>
   rw[d]at h;obtain⟨rfl,u,j,D⟩:=eI (P:=P) w h (q x _ d);exact Aa (u:=u) (w':=w) (by simp[execOp,j]) (B _ _ _ (QS.still D))
 case makeFunc fn first ah =>
  obtain⟨rfl,u,j,D⟩:=A09 (P:=P) q h;have j:(Instr.makeFunc fn (first.map a.eval) (ah.map a.eval)).run P w=.ok u w:=by
   rw[<-j]
   congr 2<;>(apply Array.ext';simp)
  exact Aa (u:=u) (w':=w) (by simp[execOp,j]) (B _ _ _ (QS.still D))
 case makeMap t res =>
  cases res with
  | some z =>
   simp only[aq]at h;cases M:Ae σ z with
   | none=>rw[M]at h;simp[Dn]at h
   | some W =>
    rw[M]at h;unfold Dn at h;split at h
    .rename_i k n G;cases G;obtain⟨ai,_⟩:=A3 (q z _ M);cases e:lk t tb.ty with
     | none=>rw[e]at h;simp[DJ]at h
     | some ti =>
      rw[e]at h;obtain⟨u,ρ',w',A,j⟩:=Sy (w:=w) (O0:=O0) (ρ:=ρ) (hT _ _ e) h H;have A:=Ny (z:=a.eval z) (hT _ _ e) h ai A;exact Aa (u:=u) (w':=w') (by simp[execOp,A]) (B _ _ _ j)
    cases h
  | none =>
   simp only[aq]at h;cases e:lk t tb.ty with
   | none=>rw[e]at h;simp[DJ]at h
   | some ti =>
    rw[e]at h;obtain⟨u,ρ',w',A,j⟩:=Sy (w:=w) (O0:=O0) (ρ:=ρ) (hT _ _ e) h H;exact Aa (u:=u) (w':=w') (by simp[execOp,A]) (B _ _ _ j)
 case lookup t x i ok =>
  cases e:lk t tb.ty with
  | none=>rw[e]at h;simp[He]at h
  | some ti =>
   cases d:Ae σ x with
   | none=>rw[e,d]at h;simp[He]at h
   | some xv =>
    cases hi:Ae σ i with
    | none=>rw[e,d,hi]at h;simp[He]at h
    | some af =>
     rw[e,d,hi]at h;obtain⟨rfl,u,j,D⟩:=xX (P:=P) (hT _ _ e) hT I h (q x _ d) (q i _ hi);exact Aa (u:=u) (w':=w) (by simp[execOp,j]) (B _ _ _ (QS.still D))
 case call c =>
  obtain⟨callee,args,argTypes⟩:=c;cases callee with
  | invoke r m=>simp[DZ]at h
  | value g =>
   simp only[DZ]at h;exact xZ hF hG I ae q (xs:=args.toList) (ts:=argTypes) (o:=⟨dst,.call ⟨.value g,args,argTypes⟩,type,pos,after,guard⟩) sa h E H B
  | builtin b =>
   simp only[DZ]at h;obtain⟨args⟩:=args;obtain⟨argTypes⟩:=argTypes;simp only at h;unfold D5 at h;split at h
   .rename_i x t;cases e:lk t tb.ty with
    | none=>rw[e]at h;simp[Pf]at h
    | some ti =>
     cases d:Ae σ x with
     | none=>rw[e,d]at h;simp[Pf]at h
     | some xv =>
      rw[e,d]at h;obtain⟨rfl,u,j,D⟩:=A04 (P:=P) (ty:=type) (V:=vw w O0 σ ρ) Y (hT _ _ e) w h (q x _ d);exact Aa (u:=u) (w':=w) (by simp[execOp,resolve,invoke,builtin,j]) (B _ _ _ (QS.still D))
   .rename_i x y t u;cases d:Ae σ x with
    | none=>rw[d]at h;simp[DI]at h
    | some xv =>
     cases C:Ae σ y with
     | none=>rw[d,C]at h;simp[DI]at h
     | some N =>
      rw[d,C]at h;obtain⟨z,ρ',w',A,j⟩:=kC (ty:=type) hT I h E (q x _ d) (q y _ C) H;exact Aa (u:=z) (w':=w') (by simp[execOp,resolve,invoke,builtin,A]) (B _ _ _ j)
   .rename_i x y t u;cases d:Ae σ x with
    | none=>rw[d]at h;simp[Nr]at h
    | some xv =>
     cases C:Ae σ y with
     | none=>rw[d,C]at h;simp[Nr]at h
     | some N =>
      rw[d,C]at h;obtain⟨rfl,z,A,j⟩:=A05 (P:=P) (ts:=#[t,u]) (ty:=type) w h (q x _ d) (q y _ C);exact Aa (u:=z) (w':=w) (by simp[execOp,resolve,invoke,builtin,A]) (B _ _ _ (QS.still j))
   .rename_i x y t u;cases d:Ae σ x with
    | none=>rw[d]at h;simp[Ns]at h
    | some xv =>
     cases C:Ae σ y with
     | none=>rw[d,C]at h;simp[Ns]at h
     | some N =>
      rw[d,C]at h;obtain⟨rfl,z,A,j⟩:=A06 (P:=P) (ts:=#[t,u]) (ty:=type) w h (q x _ d) (q y _ C);exact Aa (u:=z) (w':=w) (by simp[execOp,resolve,invoke,builtin,A]) (B _ _ _ (QS.still j))
   .rename_i x y ag t u t3;cases d:Ae σ x with
    | none=>rw[d]at h;simp[Hd]at h
    | some xv =>
     cases C:Ae σ y with
     | none=>rw[d,C]at h;simp[Hd]at h
     | some N =>
      cases T:Ae σ ag with
      | none=>rw[d,C,T]at h;simp[Hd]at h
      | some W =>
       rw[d,C,T]at h;obtain⟨rfl,z,A,j⟩:=xQ (P:=P) (ts:=#[t,u,t3]) (ty:=type) w h (q x _ d) (q y _ C) (q ag _ T);exact Aa (u:=z) (w':=w) (by simp[execOp,resolve,invoke,builtin,A]) (B _ _ _ (QS.still j))
   .rename_i ts x y z u r;cases d:Ae σ x with
    | none=>rw[d]at h;simp[Ln]at h
    | some xv =>
     rw[d]at h;unfold Ln at h;split at h
     .rename_i k a0 G;cases G;cases J:E1 σ k (some a0) (y :: z :: u :: r) with
      | none=>rw[J]at h;simp[MW]at h
      | some m =>
       rw[J]at h;simp only[MW,AAU,ACD]at h;obtain⟨rfl,rfl,rfl⟩:=h;obtain⟨ak,al⟩:=A3 (q x _ d);obtain⟨A,j⟩:=WT (P:=P) q w _ _ _ J al;have D:(Builtin.min_ ⟨argTypes⟩ type (a.eval x :: a.eval y :: a.eval z :: a.eval u :: r.map a.eval).toArray).run P w=.ok (.int k m) w:=by
        rw[ak];exact A
       exact Aa (u:=.int _ m) (w':=w) (by simp[execOp,resolve,invoke,builtin,D]) (B _ _ _ (QS.still (BD j)))
     cases h
   cases h
end
end
section
open Go Go.RowKit
section
variable {w0:World} {K O0:Nat->Prop} {nt:Nat} {ds:Fp} {σ:St} {ρ:Nat->Value} {a:Act} {w:World}
theorem aN {n:Nat} {o:Obj} {env:List (Nat×AV)} (m:Nat):GL ⟨env,upd n o σ.objs⟩ m↔GL σ m:=by
 constructor
 .rintro⟨x,a⟩;rw[D9]at a;split at a
  .rename_i e;subst e;simp only[GO]at a;obtain⟨y,b,_⟩:=a;exact⟨y,b⟩
  exact⟨x,a⟩
 rintro⟨x,a⟩;by_cases e:m=n
 .subst e;exact⟨o,by simp[D9,a]⟩
 exact⟨x,by simp[D9,e,a]⟩
theorem Bx.upd (h:Bx w0 K O0 nt ds σ ρ a w) (D:∀b,K b->b<w0.heap.size) {n:Nat} {o j:Obj} (u:lk n σ.objs=some o) {g:Nat} (r:blk (ρ n)=some g) {w':World} (c:w.grownBy w' (some g))
  (J:Av (vw w' O0 σ ρ) j (ρ n)):Bx w0 K O0 nt ds ⟨σ.env,Fw.upd n j σ.objs⟩ ρ a w':=by
 have f:GL ⟨σ.env,Fw.upd n j σ.objs⟩=GL σ:=funext λm=>propext (aN m);have A:vw w' O0 ⟨σ.env,Fw.upd n j σ.objs⟩ ρ=vw w' O0 σ ρ:=by
  have H:own O0 ⟨σ.env,Fw.upd n j σ.objs⟩ ρ=own O0 σ ρ:=by
   funext b;simp only[own,f]
  simp only[vw,f,H]
 have F:own O0 σ ρ g:=.inr ⟨n,⟨o,u⟩,.inl r⟩;have y:CG (vw w O0 σ ρ) (vw w' O0 σ ρ):=⟨λ_ _ h=>h,λ_ h=>h,λ_ _=>rfl,λb G E=>c.block b G (λe=>by injection e with e;subst e;exact E F)⟩;refine⟨⟨c.os.trans h.frm.os,c.tape.trans h.frm.tape,c.output.trans h.frm.output,f3 h.frm.size c.size,λk t=>?_⟩,h.nt,h.defers,λp hp=>by rw[f];exact h.pin p hp,?_,?_,?_,?_⟩
 .refine(c.block k (AAf (D k t) h.frm.size) (λe=>?_)).trans (h.frm.block k t);injection e with e
  subst e;exact(h.free n k ⟨o,u⟩ (.inl r)).1 t
 .intro m x i;rw[A];rw[D9]at i;split at i
  .grind
  rename_i e;refine(h.objs m x i).keeps y λb l=>?_;refine c.block b ((h.objs m x i).block_lt l) (λq=>?_);injection q with q
  subst q;exact e (h.dist m n b ⟨x,i⟩ ⟨o,u⟩ l (.inl r))
 .intro m b d l;rw[f]at d;exact h.free m b d l
 .intro m I b d z B C;rw[f]at d z;exact h.dist m I b d z B C
 intro s v hs;rw[A];exact(h.env s v hs).keeps y
theorem IW (n s:Nat):∀l:List (Nat×AV),lk s (FG n l)=(lk s l).map (AV.drp n)
 | []=>rfl
 | (j,v) :: l=>by
  simp only[FG,lk];split
  .rfl
  exact IW n s l
def Obj.drp (n:Nat):Obj->Obj
 | .arr et e xs=>.arr et e xs
 | .box et m fs=>.box et m (AV.drps n fs)
 | .mapo k v l=>.mapo k v l
 | .nest et b k e xs h=>.nest et b k e xs h
 | .frame o fs=>.frame o (FG n fs)
 | .loop L=>.loop L
 | .itr c g d f a=>.itr c g d f a
 | .dfr=>.dfr
 | .sit i j=>.sit i j
 | .gen G=>.gen G
theorem BW (n s:Nat):∀l:List (Nat×Obj),lk s (BP n l)=(lk s l).map (Obj.drp n)
 | []=>rfl
 | (j,.arr et e xs) :: l=>by
  simp only[BP,lk];split
  .rfl
  exact BW n s l
 | (j,.box et o fs) :: l=>by
  simp only[BP,lk];split
  .rfl
  exact BW n s l
 | (j,.mapo k v x) :: l=>by
  simp only[BP,lk];split
  .rfl
  exact BW n s l
 | (j,.nest et b k e xs h) :: l=>by
  simp only[BP,lk];split
  .rfl
  exact BW n s l
 | (j,.frame p fs) :: l=>by
  simp only[BP,lk];split
  .rfl
  exact BW n s l
 | (j,.loop L) :: l=>by
  simp only[BP,lk];split
  .rfl
  exact BW n s l
 | (j,.itr c g d f a) :: l=>by
  simp only[BP,lk];split
  .rfl
  exact BW n s l
 | (j,.dfr) :: l=>by
  simp only[BP,lk];split
  .rfl
  exact BW n s l
 | (j,.sit i m) :: l=>by
  simp only[BP,lk];split
  .rfl
  exact BW n s l
 | (j,.gen G) :: l=>by
  simp only[BP,lk];split
  .rfl
  exact BW n s l
def Vw.but (V:Vw) (n:Nat):Vw:=⟨V.w,V.O,λm=>V.L m/\m≠n,V.ρ⟩
def seat (v:Value):Prop:=(∃a m c,v=.slice a m c)\/∃b,v=.tuple b
def KI (v:Value):Prop:=∃a m c,plc v=.slice a m c
theorem Mn {v:Value} (h:∃a m c,v=.slice a m c):KI v:=by
 obtain⟨a,m,c,rfl⟩:=h;exact⟨a,m,c,rfl⟩
theorem Yg {v:Value} (h:KI v):qL v=false:=by
 obtain⟨a,m,c,h⟩:=h;cases v<;>first|rfl|cases h
theorem Hm {V:Vw} {n:Nat} (j:KI (V.ρ n)) {x:AV} {v:Value} (h:KC V x v):KC (V.but n) (x.drp n) v:=by
 cases x;case sr m e lo hi =>
  simp only[AV.drp];split
  .trivial
  rename_i g;exact⟨⟨h.1,g⟩,h.2⟩
 case ep m e i q off =>
  simp only[AV.drp];split
  .trivial
  rename_i g;exact⟨⟨h.1,g⟩,h.2⟩
 case nin m e i len =>
  simp only[AV.drp];split
  .trivial
  rename_i g;exact⟨⟨h.1,g⟩,h.2⟩
 case bp m q off =>
  simp only[AV.drp];refine⟨⟨h.1,λe=>?_⟩,h.2⟩;subst e;obtain⟨_,b,d,_⟩:=h;obtain⟨a,k,c,hs⟩:=j;rw[d]at hs;cases hs
 case clo f ns =>
  simp only[AV.drp];refine⟨h.1,λm p=>?_⟩;obtain⟨o,b,d⟩:=h.2 m p;refine⟨⟨o,λe=>?_⟩,b,d⟩;subst e;obtain⟨a,k,c,hs⟩:=j;rw[d]at hs;cases hs
 case mp m =>
  simp only[AV.drp];refine⟨⟨h.1,λe=>?_⟩,h.2⟩;subst e;obtain⟨_,b,d,_⟩:=h;obtain⟨a,k,c,hs⟩:=j;rw[d]at hs;cases hs
 case yl m =>
  simp only[AV.drp];refine⟨⟨h.1,λe=>?_⟩,h.2⟩;subst e;obtain⟨_,b,d,_⟩:=h;obtain⟨a,k,c,hs⟩:=j;rw[d]at hs;cases hs
 case ag l=>exact h.elim
 case tup l=>exact h.elim
 all_goals simp only[AV.drp];exact h
theorem kI {V:Vw} {n:Nat} (i:KI (V.ρ n)) {x:AV} {cs:List Value} (e:SZ x=false) (h:Fa V x cs):Fa (V.but n) (x.drp n) cs:=by
 cases x;case p t d=>simp only[AV.drp];exact h
 case ag l=>cases e
 case tup l=>obtain⟨v,_,_,g⟩:=h;exact g.elim
 all_goals
  obtain⟨v,rfl,b,f⟩:=h;have a:=Hm i f;simp only[AV.drp]at a ⊢;first
   | exact⟨v,rfl,b,a⟩
   | (split at a<;>rename_i c<;>first|(rw[At c];exact⟨v,rfl,b,a⟩)|(rw[As c];exact⟨v,rfl,b,a⟩))
theorem kJ {V:Vw} {n:Nat} (a:KI (V.ρ n)):(∀(x:AV) (cs:List Value),Fa V x cs->Fa (V.but n) (x.drp n) cs)/\∀(l:List AV) (cs:List Value),AVCs V l cs->AVCs (V.but n) (AV.drps n l) cs :=
 Mc (λ_=>by simp only[AV.drp]) (by simp only[AV.drps]) (λ_ _=>by simp only[AV.drps]) (kI a)
theorem QV {V:Vw} {n:Nat} (a:KI (V.ρ n)) {l:List AV} {cs:List Value} (h:AVCs V l cs):AVCs (V.but n) (AV.drps n l) cs:=(kJ a).2 l cs h
theorem q9 {V:Vw} {n:Nat} (a:KI (V.ρ n)) {x:AV} {v:Value} (b:Ot V x v):Ot (V.but n) (x.drp n) v:=by
 cases x;case ag l=>obtain⟨cs,c,d⟩:=b;simp only[AV.drp];exact⟨cs,c,QV a d⟩
 all_goals exact Ot.of1 (Hm a b)
theorem WU {V:Vw} {n:Nat} (b:KI (V.ρ n)):∀ {l:List AV} {a:List Value},G4 V l a->G4 (V.but n) (AV.drps n l) a
 | [],a,h=>(h:a=[])
 | x :: r,a,h=>by
  obtain⟨v,e,rfl,c,d⟩:=h;simp only[AV.drps];exact⟨v,e,rfl,q9 b c,WU b d⟩
theorem rA {V:Vw} {x:AV} {v:Value} (h:KC V x v):Bn V x v:=by
 cases x;case ag l=>exact h.elim
 case tup l=>exact h.elim
 all_goals exact h
theorem aO {V:Vw} {n:Nat} (c:KI (V.ρ n)) {x:AV} {v:Value} (h:Bn V x v):Bn (V.but n) (x.drp n) v:=by
 cases x;case ag l=>obtain⟨cs,a,b⟩:=h;simp only[AV.drp];exact⟨cs,a,QV c b⟩
 case tup l=>obtain⟨d,a,b⟩:=h;simp only[AV.drp];exact⟨d,a,WU c b⟩
 all_goals exact rA (Hm c h)
theorem O2 (n:Nat):∀l:List AV,(AV.drps n l).length=l.length
 | []=>rfl
 | _ :: r=>by simp[AV.drps,O2 n r]
theorem rB {n:Nat} {c:Obj} {env:List (Nat×AV)} (m:Nat):GL ⟨env,upd n c (BP n σ.objs)⟩ m↔GL σ m:=by
 constructor
 .rintro⟨x,a⟩;rw[D9,BW,BW]at a;split at a
  .rename_i e;subst e;simp only[Option.map_map,GO]at a;obtain⟨y,b,_⟩:=a;exact⟨y,b⟩
  simp only[GO]at a;obtain⟨y,b,_⟩:=a;exact⟨y,b⟩
 rintro⟨x,a⟩;by_cases e:m=n
 .subst e;exact⟨c,by simp[D9,BW,a]⟩
 exact⟨x.drp n,by simp[D9,BW,e,a]⟩
theorem Bx.app (h:Bx w0 K O0 nt ds σ ρ a w) (ai:∀b,K b->b<w0.heap.size) (az:∀b,O0 b->b<w0.heap.size) {n:Nat} (am:EV n=false) {et:TypeId} {e:Ty} {xs ys:List e.den} (D:lk n σ.objs=some (.arr et e xs)) {loc:Value} {w':World} {cells:List Value}
  (I:w.grownBy w' (blk (ρ n))) (Z:blk loc=blk (ρ n)\/∀b,blk loc=some b->w.heap.size<=b) (P:ys.length<=AN)
  (W:w'.ownsRow 0 et e.size loc ys.length cells) (al:DE w (own O0 σ ρ) e cells ys) {d:Nat} (ak:d<nt) {hi:Nat} (ao:hi=ys.length) :
  Bx w0 K O0 nt ds ⟨(d,.sr n e 0 hi) :: FG n σ.env,Fw.upd n (.arr et e ys) (BP n σ.objs)⟩ (DQ ρ n loc) (a.put (some d) loc) w':=by
 subst ao;have Q:∃a m c,(vw w O0 σ ρ).ρ n=.slice a m c:=by
  obtain⟨_,cells',ar,_⟩:=h.objs n _ D;rcases ar.2 with ⟨H,_⟩|⟨g,cap,ab,H,_⟩
  .exact⟨_,_,_,H⟩
  exact⟨_,_,_,H⟩
 let σ':St:=⟨(d,.sr n e 0 ys.length) :: FG n σ.env,Fw.upd n (.arr et e ys) (BP n σ.objs)⟩
 have J:∀m,GL σ' m↔GL σ m:=λm=>rB m;have O:∀b,bk loc b↔blk loc=some b:=λb=>by
  rcases W.2 with ⟨H,_⟩|⟨g,cap,ab,H,_⟩
  .rw[H];exact G3
  rw[H];exact G3
 have ba:∀b,bk (ρ n) b↔blk (ρ n)=some b:=λb=>by
  obtain⟨af,aw,c2,B⟩:=Q;have B:ρ n=_:=B;rw[B];exact G3
 have ap:∀b,bk loc b->own O0 σ ρ b\/w.heap.size<=b:=by
  intro b f;replace f:=(O b).1 f;rcases Z with i|i
  .exact .inl (.inr ⟨n,⟨_,D⟩,.inl (by rw[<-i];exact f)⟩)
  exact .inr (i b f)
 have q:CG ((vw w O0 σ ρ).but n) (vw w' O0 σ' (DQ ρ n loc)):=by
  refine⟨?_,λm P=>(J m).2 P.1,λm P=>?_,?_⟩
  .intro b T f F;rcases F with M|⟨m,j,S⟩
   .exact f (.inl M)
   by_cases U:m=n
   .subst U;rw[BV]at S;rcases ap b S with i|i
    .exact f i
    have T:b<w.heap.size:=T;omega
   have:DQ ρ n loc m=ρ m:=by simp[DQ,U]
   rw[this]at S;exact f (.inr ⟨m,(J m).1 j,S⟩)
  .have:m≠n:=P.2;show DQ ρ n loc m=ρ m;simp[DQ,this]
  intro b T f;exact I.block b T (λr=>f (.inr ⟨n,⟨_,D⟩,.inl r.symm⟩))
 refine⟨⟨I.os.trans h.frm.os,I.tape.trans h.frm.tape,I.output.trans h.frm.output,f3 h.frm.size I.size,λk X=>?_⟩,by rw[KE];exact h.nt,by rw[G5];exact h.defers,λp hp=>?_,?_,?_,?_,?_⟩
 .refine(I.block k (AAf (ai k X) h.frm.size) (λr=>?_)).trans (h.frm.block k X);exact(h.free n k ⟨_,D⟩ (.inl r.symm)).1 X
 .obtain⟨i,N,E⟩:=h.pin p hp;have bc:p.1≠n:=by
   intro A;obtain⟨af,aw,c2,B⟩:=Q;have B:ρ n=_:=B;rw[<-A,N]at B;rw[B]at E;rcases E with E|E
   .cases E
   rw[A,am]at E;cases E
  grind [DQ]
 .intro m x C;show Av (vw w' O0 σ' (DQ ρ n loc)) x (DQ ρ n loc m);rw[D9]at C;split at C
  .rename_i r;subst r;rw[BW,D]at C;simp only[AB7]at C;cases C;rw[BV];exact⟨P,cells,W,al.keeps (V:=(vw w O0 σ ρ).but m) q⟩
  rename_i r;rw[BW]at C;simp only[GO]at C;obtain⟨y,u,rfl⟩:=C;have:DQ ρ n loc m=ρ m:=by simp[DQ,r]
  rw[this];have f:∀b,bk (ρ m) b->w'.heap[b]?=w.heap[b]?:=λb F=>by
   refine I.block b ((h.objs m y u).block_lt F) (λA=>?_);exact r (h.dist m n b ⟨y,u⟩ ⟨_,D⟩ F (.inl A.symm))
  have t:=h.objs m y u;cases y with
  | arr ae A bl=>exact Av.keeps (V:=(vw w O0 σ ρ).but n) q f t
  | box ae ax fs =>
   obtain⟨M,b,cs,j,an,aj⟩:=t;exact Av.keeps (V:=(vw w O0 σ ρ).but n) (o:=.box ae ax (AV.drps n fs)) q f ⟨λau=>by rw[O2];exact M au,b,cs,j,an,QV (Mn Q) aj⟩
  | mapo k v l=>exact Av.keeps (V:=(vw w O0 σ ρ).but n) q f t
  | nest et av k e xs j=>exact Av.keeps (V:=(vw w O0 σ ρ).but n) (o:=.nest et av k e xs j) q f (K8 (V:=vw w O0 σ ρ) (V':=(vw w O0 σ ρ).but n) rfl rfl t)
  | frame ay fs =>
   obtain⟨M,i⟩:=t;refine Av.keeps (V:=(vw w O0 σ ρ).but n) (o:=.frame ay (FG n fs)) q f ⟨M,λs z aa=>?_⟩;rw[IW]at aa;simp only[GO]at aa;obtain⟨y,u,rfl⟩:=aa;exact aO (Mn Q) (i s y u)
  | loop L=>exact Av.keeps (V:=(vw w O0 σ ρ).but n) q f t
  | itr be bh bf bg bd=>exact Av.keeps (V:=(vw w O0 σ ρ).but n) q f t
  | dfr=>exact Av.keeps (V:=(vw w O0 σ ρ).but n) q f t
  | sit bi bj=>exact Av.keeps (V:=(vw w O0 σ ρ).but n) q f t
  | gen G=>exact Av.keeps (V:=(vw w O0 σ ρ).but n) q f t
 .intro m b j f;replace j:=(J m).1 j;by_cases r:m=n
  .subst r;rw[BV]at f;rcases Z with i|i
   .exact h.free m b j (.inl (by rw[<-i];exact(O b).1 f))
   have:=i b ((O b).1 f);have:=h.frm.size;grind
  have:DQ ρ n loc m=ρ m:=by simp[DQ,r]
  rw[this]at f;exact h.free m b j f
 .have key:∀m b,GL σ m->m≠n->bk (ρ m) b->bk loc b->False:=by
   intro m b j U f F;rcases Z with i|i
   .exact U (h.dist m n b j ⟨_,D⟩ f (.inl (by rw[<-i];exact(O b).1 F)))
   have N:=i b ((O b).1 F);obtain⟨y,u⟩:=j;have:=(h.objs m y u).block_lt f;have:b<w.heap.size:=this;omega
  intro m R b j Y i N;replace j:=(J m).1 j;replace Y:=(J R).1 Y;by_cases ad:m=n<;>by_cases A:R=n
  .rw[ad,A]
  .grind [DQ,BV]
  .grind [DQ,BV]
  have ag:DQ ρ n loc m=ρ m:=by simp[DQ,ad]
  have ah:DQ ρ n loc R=ρ R:=by simp[DQ,A]
  rw[ag]at i;rw[ah]at N;exact h.dist m R b j Y i N
 intro s v hs;show Bn (vw w' O0 σ' (DQ ρ n loc)) v _;rw[Gb a d loc s (by rw[h.nt];exact ak)];simp only[lk]at hs;split at hs
 .rename_i es;cases hs;rw[At es];refine⟨(J n).2 ⟨_,D⟩,?_⟩;show CV (plc (DQ ρ n loc n)) e.size 0 ys.length loc;rw[BV,Hg W];rcases W.2 with ⟨rfl,aq⟩|⟨g,cap,ab,rfl,_,_,bb,_⟩
  .exact⟨none,0,0,rfl,by omega,by omega,none,0,by rw[aq],by omega,λ_=>⟨rfl,rfl⟩,λh=>by omega⟩
  exact⟨some ⟨g,0,none⟩,ys.length,cap,rfl,by omega,by omega,some ⟨g,0,none⟩,cap,by simp,by omega,λ_=>⟨rfl,rfl⟩,λ_=>by simp[Gn]⟩
 rename_i es;rw[As es];rw[IW]at hs;simp only[GO]at hs;obtain⟨y,u,rfl⟩:=hs;exact(aO (Mn Q) (h.env s y u)).keeps q
end
end
section
open Go Go.RowKit
def Vw.buts (V:Vw) (hs:List Nat):Vw:=⟨V.w,V.O,λm=>V.L m/\Ac m hs=false,V.ρ⟩
theorem Ur {V:Vw} {hs:List Nat} {x:AV} {v:Value} (h:KC V x v):KC (V.buts hs) (x.fgt hs) v:=by
 cases x;case clo f ns =>
  simp only[AV.fgt];split
  .trivial
  rename_i b;refine⟨h.1,λn a=>⟨⟨(h.2 n a).1,?_⟩,(h.2 n a).2⟩⟩;grind
 case ag l=>exact h.elim
 case tup l=>exact h.elim
 case p t d=>simp only[AV.fgt];exact h
 case pc e d=>simp only[AV.fgt];exact h
 case raw u=>simp only[AV.fgt];exact h
 case ip t d=>simp only[AV.fgt];exact h
 case fn f=>simp only[AV.fgt];exact h
 case top=>trivial
 all_goals
  simp only[AV.fgt];split
  .trivial
  rename_i b;exact⟨⟨h.1,by simpa using b⟩,h.2⟩
theorem kK {V:Vw} {hs:List Nat} {x:AV} {cs:List Value} (e:SZ x=false) (h:Fa V x cs):Fa (V.buts hs) (x.fgt hs) cs:=by
 cases x;case p t d=>simp only[AV.fgt];exact h
 case ag l=>cases e
 case tup l=>obtain⟨v,_,_,g⟩:=h;exact g.elim
 all_goals
  obtain⟨v,rfl,b,f⟩:=h;have a:=Ur (hs:=hs) f;simp only[AV.fgt]at a ⊢;first
   | exact⟨v,rfl,b,a⟩
   | (split at a<;>rename_i c<;>first|(rw[At c];exact⟨v,rfl,b,a⟩)|(rw[As c];exact⟨v,rfl,b,a⟩))
theorem kL {V:Vw} {hs:List Nat}:(∀(x:AV) (cs:List Value),Fa V x cs->Fa (V.buts hs) (x.fgt hs) cs)/\∀(l:List AV) (cs:List Value),AVCs V l cs->AVCs (V.buts hs) (AV.fgts hs l) cs :=
 Mc (λ_=>by simp only[AV.fgt]) (by simp only[AV.fgts]) (λ_ _=>by simp only[AV.fgts]) kK
theorem QW {V:Vw} {hs:List Nat} {l:List AV} {cs:List Value} (h:AVCs V l cs):AVCs (V.buts hs) (AV.fgts hs l) cs:=kL.2 l cs h
theorem rD {V:Vw} {hs:List Nat} {x:AV} {v:Value} (a:Ot V x v):Ot (V.buts hs) (x.fgt hs) v:=by
 cases x;case ag l=>obtain⟨cs,b,c⟩:=a;simp only[AV.fgt];exact⟨cs,b,QW c⟩
 all_goals exact Ot.of1 (Ur a)
theorem WV {V:Vw} {hs:List Nat}:∀ {l:List AV} {a:List Value},G4 V l a->G4 (V.buts hs) (AV.fgts hs l) a
 | [],a,h=>(h:a=[])
 | x :: r,a,h=>by
  obtain⟨v,d,rfl,b,c⟩:=h;simp only[AV.fgts];exact⟨v,d,rfl,rD b,WV c⟩
theorem Pr {V:Vw} {hs:List Nat} {x:AV} {v:Value} (h:Bn V x v):Bn (V.buts hs) (x.fgt hs) v:=by
 cases x;case ag l=>obtain⟨cs,a,b⟩:=h;simp only[AV.fgt];exact⟨cs,a,QW b⟩
 case tup l=>obtain⟨c,a,b⟩:=h;simp only[AV.fgt];exact⟨c,a,WV b⟩
 all_goals exact rA (Ur h)
theorem EJ (hs:List Nat) (s:Nat):∀l:List (Nat×AV),lk s (CT hs l)=(lk s l).map (AV.fgt hs)
 | []=>rfl
 | (j,v) :: l=>by
  simp only[CT,lk];split
  .rfl
  exact EJ hs s l
theorem O3 (hs:List Nat):∀l:List AV,(AV.fgts hs l).length=l.length
 | []=>rfl
 | _ :: r=>by simp[AV.fgts,O3 hs r]
theorem CM (a hs:List Nat) (n:Nat):∀l:List (Nat×Obj),lk n (BC a hs l)=if Ac n a=true then none else (lk n l).map (Obj.fgt hs)
 | []=>by simp[BC,lk]
 | (j,o) :: l=>by
  simp only[BC];by_cases b:Ac j a=true
  .rw[At b,CM a hs n l];grind [lk]
  rw[As b];simp only[lk];by_cases c:n=j
  .subst c;simp[b]
  simp[c,CM a hs n l]
theorem Us {V V':Vw} {hs:List Nat} (c:CG (V.buts hs) V') {o:Obj} {loc:Value} (a:∀b,bk loc b->V'.w.heap[b]?=V.w.heap[b]?) (h:Av V o loc):Av V' (o.fgt hs) loc:=by
 cases o with
 | arr et e xs=>exact Av.keeps (V:=V.buts hs) c a h
 | box et r fs =>
  obtain⟨d,b,cs,f,m,j⟩:=h;exact Av.keeps (V:=V.buts hs) (o:=.box et r (AV.fgts hs fs)) c a ⟨λn=>by rw[O3];exact d n,b,cs,f,m,QW j⟩
 | mapo k v l=>exact Av.keeps (V:=V.buts hs) c a h
 | nest et q k e xs f=>exact Av.keeps (V:=V.buts hs) (o:=.nest et q k e xs f) c a (K8 (V:=V) (V':=V.buts hs) rfl rfl h)
 | frame t fs =>
  obtain⟨d,i⟩:=h;refine Av.keeps (V:=V.buts hs) (o:=.frame t (CT hs fs)) c a ⟨d,λs z g=>?_⟩;rw[EJ]at g;simp only[GO]at g;obtain⟨y,p,rfl⟩:=g;exact Pr (i s y p)
 | loop L=>exact Av.keeps (V:=V.buts hs) c a h
 | itr x C A B u=>exact Av.keeps (V:=V.buts hs) c a h
 | dfr=>exact Av.keeps (V:=V.buts hs) c a h
 | sit D E=>exact Av.keeps (V:=V.buts hs) c a h
 | gen G=>exact Av.keeps (V:=V.buts hs) c a h
section
variable {w0:World} {K O0:Nat->Prop} {nt:Nat} {ds:Fp} {σ:St} {ρ:Nat->Value} {a:Act} {w:World}
theorem Bx.swap (h:Bx w0 K O0 nt ds σ ρ a w) (J:∀b,K b->b<w0.heap.size) (af:∀b,O0 b->b<w0.heap.size) {T:Nat->Prop} (hT:∀n,T n->EV n=false/\∃o,lk n σ.objs=some o/\seat (ρ n))
  {new:List (Nat×Obj)} {σ':St} {ρ':Nat->Value} {w':World} {dst:Option Nat} {u:Value}
  (Y:w'.os=w.os) (ad:w'.tape=w.tape) (Z:w'.output=w.output) (aa:w.heap.size<=w'.heap.size)
  (P:∀b,b<w.heap.size->(∀n,T n->¬bk (ρ n) b)->w'.heap[b]?=w.heap[b]?)
  (x:∀n o,lk n σ'.objs=some o->lk n new=none->¬T n/\∃f,lk n σ.objs=some f)
  (Q:∀n o,lk n σ.objs=some o->¬T n->lk n new=none/\∃f,lk n σ'.objs=some f)
  (r:∀n,lk n new=none->ρ' n=ρ n)
  (G:∀n o b,lk n new=some o->bk (ρ' n) b->(∃m,T m/\bk (ρ m) b)\/w.heap.size<=b)
  (L:∀n m o y b,lk n new=some o->lk m new=some y->bk (ρ' n) b->bk (ρ' m) b->n=m)
  (X:∀n o,lk n σ'.objs=some o->Av (vw w' O0 σ' ρ') o (ρ' n))
  (M:∀s v,lk s σ'.env=some v->Bn (vw w' O0 σ' ρ') v ((a.put dst u).tmps.getD s undef)) :
  Bx w0 K O0 nt ds σ' ρ' (a.put dst u) w':=by
 have ag:∀m,T m->∀b,bk (ρ m) b->b<w.heap.size:=λm c b l=>by
  obtain⟨_,o,j,_⟩:=hT m c;exact(h.objs m o j).block_lt l
 have D:∀m,T m->∀b,bk (ρ m) b->¬K b/\¬O0 b:=λm c b l=>by
  obtain⟨_,o,j,_⟩:=hT m c;exact h.free m b ⟨o,j⟩ l
 refine⟨⟨Y.trans h.frm.os,ad.trans h.frm.tape,Z.trans h.frm.output,f3 h.frm.size aa,λk A=>?_⟩,by rw[KE];exact h.nt,by rw[G5];exact h.defers,λp hp=>?_,X,?_,?_,M⟩
 .exact(P k (AAf (J k A) h.frm.size) λn d l=>(D n d k l).1 A).trans (h.frm.block k A)
 .obtain⟨⟨o,e⟩,i,q⟩:=h.pin p hp;have S:¬T p.1:=λab=>by
   obtain⟨N,_,_,hs⟩:=hT _ ab;rw[i]at hs;rcases q with q|q
   .rcases hs with ⟨_,_,_,C⟩|⟨_,C⟩<;>rw[C]at q<;>cases q
   rw[N]at q;cases q
  obtain⟨g1,I⟩:=Q p.1 o e S;exact⟨I,(r _ g1).trans i,q⟩
 .intro n b B l;obtain⟨o,j⟩:=B;cases d:lk n new with
  | none =>
   obtain⟨_,f,e⟩:=x n o j d;rw[r n d]at l;exact h.free n b ⟨f,e⟩ l
  | some g =>
   rcases G n g b d l with ⟨m,c,z⟩|O
   .exact D m c b z
   have:=h.frm.size;grind
 have key:∀n m o g b,lk n σ'.objs=some o->lk n new=none->lk m new=some g->bk (ρ' n) b->bk (ρ' m) b->False:=by
  intro n m o g b j d c e i;obtain⟨U,f,t⟩:=x n o j d;rw[r n d]at e;rcases G m g b c i with ⟨H,E,z⟩|O
  .obtain⟨_,ae,W,_⟩:=hT H E;have:=h.dist n H b ⟨f,t⟩ ⟨ae,W⟩ e z;exact U (this▸E)
  have ah:b<w.heap.size:=(h.objs n f t).block_lt e;omega
 intro n m b B R e i;obtain⟨o,j⟩:=B;obtain⟨y,F⟩:=R;cases d:lk n new with
 | none =>
  cases c:lk m new with
  | none =>
   obtain⟨_,f,t⟩:=x n o j d;obtain⟨_,g,V⟩:=x m y F c;rw[r n d]at e;rw[r m c]at i;exact h.dist n m b ⟨f,t⟩ ⟨g,V⟩ e i
  | some g=>exact(key n m o g b j d c e i).elim
 | some f =>
  cases c:lk m new with
  | none=>exact(key m n y f b F c d i e).elim
  | some g=>exact L n m f g b d c e i
end
end
section
open Go Go.RowKit
structure Lg (V V':Vw) (n:Nat) (hs:List Nat):Prop where
 O:∀b,b<V.w.heap.size->¬V.O b->¬V'.O b
 L:∀m,V.L m->Ac m hs=false->V'.L m
 ρ:∀m,V.L m->Ac m hs=false->m≠n->V'.ρ m=V.ρ m
 tup:∃vs,V.ρ n=.tuple vs
 plc:plc (V'.ρ n)=plc (V.ρ n)
 heap:∀b,b<V.w.heap.size->¬V.O b->V'.w.heap[b]?=V.w.heap[b]?
section
variable {V V':Vw} {n:Nat} {hs:List Nat}
theorem Lg.pl (h:Lg V V' n hs) {m:Nat} (a:V.L m) (b:Ac m hs=false):Fw.plc (V'.ρ m)=Fw.plc (V.ρ m):=by
 by_cases e:m=n
 .subst e;exact h.plc
 rw[h.ρ m a b e]
theorem Lg.ptr (h:Lg V V' n hs) {m:Nat} (b:V.L m) (c:Ac m hs=false) {v:Value} (d:V.ρ m=v) (g:∀a,v≠.tuple a):V'.ρ m=v:=by
 have e:m≠n:=λe=>by
  obtain⟨a,f⟩:=h.tup;grind
 rw[h.ρ m b c e,d]
theorem Ut (h:Lg V V' n hs) {x:AV} {v:Value} (c:KC V x v):KC V' (x.trn n hs) v:=by
 cases x;case ag l=>exact c.elim
 case tup l=>exact c.elim
 case p t d=>simp only[AV.trn];exact BG.mono h.O h.heap c
 case pc e d=>simp only[AV.trn];exact⟨BG.mono h.O h.heap c.1,c.2⟩
 case raw u=>simp only[AV.trn];exact c
 case fn f=>simp only[AV.trn];exact c
 case top=>trivial
 case ip t d =>
  simp only[AV.trn];obtain⟨ad,cs,o,q,r,B⟩:=c;have s:ad.block<V.w.heap.size:=by
   have hp:=t.size_pos;have F:=B.length;have:=ACe (r 0 (cs[0]'(by omega)) (DO oa))
   rwa [CJ]at this
  refine⟨ad,cs,o,h.O _ s q,λj u C=>?_,Bl.mono h.O h.heap B⟩;rw[ABF (w:=V.w) (w':=V'.w)]
  .exact r j u C
  rw[CJ];exact h.heap _ s q
 case sr m e lo hi =>
  simp only[AV.trn];split
  .trivial
  rename_i a;have a:Ac m hs=false:=by simpa using a
  exact⟨h.L m c.1 a,by rw[h.pl c.1 a];exact c.2⟩
 case ep m e i E off =>
  simp only[AV.trn];split
  .trivial
  rename_i a;have a:Ac m hs=false:=by simpa using a
  exact⟨h.L m c.1 a,by rw[h.pl c.1 a];exact c.2⟩
 case nin m e i len =>
  simp only[AV.trn];split
  .trivial
  rename_i a;have D:m≠n:=λe=>a (.inl e);have y:Ac m hs=false:=by grind
  exact⟨h.L m c.1 y,by rw[h.ρ m c.1 y D];exact c.2⟩
 case bp m E off =>
  simp only[AV.trn];split
  .trivial
  rename_i a;have a:Ac m hs=false:=by simpa using a
  obtain⟨g,b,k,o⟩:=c;exact⟨h.L m g a,b,h.ptr g a k (λ_ e=>by cases e),o⟩
 case mp m =>
  simp only[AV.trn];split
  .trivial
  rename_i a;have a:Ac m hs=false:=by simpa using a
  obtain⟨g,b,k,o⟩:=c;exact⟨h.L m g a,b,(h.pl g a).trans k,o⟩
 case yl m =>
  simp only[AV.trn];split
  .trivial
  rename_i a;have a:Ac m hs=false:=by simpa using a
  obtain⟨g,b,k,o⟩:=c;exact⟨h.L m g a,b,h.ptr g a k (λ_ e=>by cases e),o⟩
 case clo f ns =>
  simp only[AV.trn];split
  .trivial
  rename_i G;have z:∀m∈ns,Ac m hs=false:=λm a=>by grind
  have A:∀m∈ns,V'.ρ m=V.ρ m:=λm a=>by
   obtain⟨g,b,k⟩:=c.2 m a;rw[h.ptr g (z m a) k (λ_ e=>by cases e),k]
  refine⟨?_,λm a=>⟨h.L m (c.2 m a).1 (z m a),by rw[A m a];exact(c.2 m a).2⟩⟩;rw[c.1]
  congr 1
  exact ABs λm a=>(A m a).symm
theorem kM (h:Lg V V' n hs) {x:AV} {cs:List Value} (f:SZ x=false) (c:Fa V x cs):Fa V' (x.trn n hs) cs:=by
 cases x;case p t d=>simp only[AV.trn];exact(Bl.mono h.O h.heap c:Bl V'.w V'.O t cs d)
 case ag l=>cases f
 case tup l=>obtain⟨v,_,_,i⟩:=c;exact i.elim
 all_goals
  obtain⟨v,rfl,b,g⟩:=c;have a:=Ut h g;simp only[AV.trn]at a ⊢;first
   | exact⟨v,rfl,b,a⟩
   | (split at a<;>rename_i e<;>first|(rw[At e];exact⟨v,rfl,b,a⟩)|(rw[As e];exact⟨v,rfl,b,a⟩))
theorem kN (h:Lg V V' n hs):(∀(x:AV) (cs:List Value),Fa V x cs->Fa V' (x.trn n hs) cs)/\∀(l:List AV) (cs:List Value),AVCs V l cs->AVCs V' (AV.trns n hs l) cs :=
 Mc (λ_=>by simp only[AV.trn]) (by simp only[AV.trns]) (λ_ _=>by simp only[AV.trns]) (kM h)
theorem QX (h:Lg V V' n hs) {l:List AV} {cs:List Value} (a:AVCs V l cs):AVCs V' (AV.trns n hs l) cs:=(kN h).2 l cs a
theorem rE (h:Lg V V' n hs) {x:AV} {v:Value} (a:Ot V x v):Ot V' (x.trn n hs) v:=by
 cases x;case ag l=>obtain⟨cs,b,c⟩:=a;simp only[AV.trn];exact⟨cs,b,QX h c⟩
 all_goals exact Ot.of1 (Ut h a)
theorem WW (h:Lg V V' n hs):∀ {l:List AV} {a:List Value},G4 V l a->G4 V' (AV.trns n hs l) a
 | [],a,b=>(b:a=[])
 | x :: r,a,b=>by
  obtain⟨v,e,rfl,c,d⟩:=b;simp only[AV.trns];exact⟨v,e,rfl,rE h c,WW h d⟩
theorem Mo (h:Lg V V' n hs) {x:AV} {v:Value} (c:Bn V x v):Bn V' (x.trn n hs) v:=by
 cases x;case ag l=>obtain⟨cs,a,b⟩:=c;simp only[AV.trn];exact⟨cs,a,QX h b⟩
 case tup l=>obtain⟨d,a,b⟩:=c;simp only[AV.trn];exact⟨d,a,WW h b⟩
 all_goals exact rA (Ut h c)
theorem E5 (n:Nat) (hs:List Nat) (s:Nat):∀l:List (Nat×AV),lk s (Bw n hs l)=(lk s l).map (AV.trn n hs)
 | []=>rfl
 | (j,v) :: l=>by
  simp only[Bw,lk];split
  .rfl
  exact E5 n hs s l
theorem O4 (n:Nat) (hs:List Nat):∀l:List AV,(AV.trns n hs l).length=l.length
 | []=>rfl
 | _ :: r=>by simp[AV.trns,O4 n hs r]
theorem CW (n:Nat) (hs:List Nat) (m:Nat):∀l:List (Nat×Obj),lk m (Ba n hs l)=if Ac m (n :: hs)=true then none else (lk m l).map (Obj.trn n hs)
 | []=>by simp[Ba,lk]
 | (j,o) :: l=>by
  simp only[Ba];by_cases a:Ac j (n :: hs)=true
  .rw[At a,CW n hs m l];grind [lk]
  rw[As a];simp only[lk];by_cases b:m=j
  .subst b;simp[a]
  simp[b,CW n hs m l]
theorem Ps (h:Lg V V' n hs) {o:Obj} {loc:Value} (c:∀b,bk loc b->V'.w.heap[b]?=V.w.heap[b]?) (a:Av V o loc):Av V' (o.trn n hs) loc:=by
 have d:CG ⟨V.w,V.O,λ_=>False,V.ρ⟩ V':=⟨h.O,λ_ h=>h.elim,λ_ h=>h.elim,h.heap⟩;cases o with
 | arr et e xs=>exact Av.keeps (V:=⟨V.w,V.O,λ_=>False,V.ρ⟩) (o:=.arr et e xs) d c a
 | box et E fs =>
  obtain⟨f,b,cs,rfl,g,j⟩:=a;exact⟨λp=>by rw[O4];exact f p,b,cs,rfl,(c b (.inl rfl)).trans g,QX h j⟩
 | mapo k v l=>exact Av.keeps (V:=⟨V.w,V.O,λ_=>False,V.ρ⟩) (o:=.mapo k v l) d c a
 | nest et t k e xs m=>exact Av.keeps (V:=⟨V.w,V.O,λ_=>False,V.ρ⟩) (o:=.nest et t k e xs m) d c (K8 (V:=V) (V':=⟨V.w,V.O,λ_=>False,V.ρ⟩) rfl rfl a)
 | frame F fs =>
  obtain⟨f,g⟩:=a;refine⟨f,λs z i=>?_⟩;rw[E5]at i;simp only[GO]at i;obtain⟨y,q,rfl⟩:=i;exact Mo h (g s y q)
 | loop L=>exact Av.keeps (V:=⟨V.w,V.O,λ_=>False,V.ρ⟩) (o:=.loop L) d c a
 | itr u B x A r=>exact Av.keeps (V:=⟨V.w,V.O,λ_=>False,V.ρ⟩) (o:=.itr u B x A r) d c a
 | dfr=>exact Av.keeps (V:=⟨V.w,V.O,λ_=>False,V.ρ⟩) (o:=.dfr) d c a
 | sit C D=>exact Av.keeps (V:=⟨V.w,V.O,λ_=>False,V.ρ⟩) (o:=.sit C D) d c a
 | gen G=>exact Av.keeps (V:=⟨V.w,V.O,λ_=>False,V.ρ⟩) (o:=.gen G) d c a
end
end
section
open Go Go.RowKit
theorem Yh {t:Ty} (h:t.cell1=true):t.size=1:=by cases t<;>simp[Ty.cell1]at h<;>rfl
theorem S0 {V:Vw} {ty:Ty} {x:AV} {es:List Value} (c:Fa V x es) (a:Ll ty x=true):es.length=ty.size:=by
 by_cases b:x=.top
 .subst b;obtain⟨v,rfl,_⟩:=c;grind [Ll,Yh]
 have a:CF ty x=true:=by cases x<;>first|exact a|exact absurd rfl b
 exact(Yb c a).1
theorem S1 {V:Vw} {ty:Ty} {u v:AV} {o:List Value} (A:Ll ty u=true) (R:CF ty v=true)
  (L:∀l,v=.ag l->AVCs V l o) (s:(∀l,v≠.ag l)->Fa V v o) (P:o.length=ty.size):∀ {I:List Nat} {f:Bool} {fs q:List AV} {off:Nat} {cs:List Value},AVCs V fs cs->(f=false->fs.length=1) ->
  FJ f fs v I=some q->H5 fs I=some off->EO f fs I=some u->off+o.length<=cs.length/\AVCs V q (A2 cs off o)/\(f=false->q.length=1)
 | [],f,fs,q,off,cs,c,G,h,i,b=>by
  simp only[H5]at i;cases i;cases f with
  | true =>
   simp only[FJ,EO,AAH]at h b;cases b;have W:cs.length=ty.size:=by
    have:=c.length;cases ty<;>simp only[Ll,CF]at A<;>try(cases A;done)
    grind [Ty.size]
   rw[Dd oa];split at h
   .cases h;exact⟨by omega,kB _ _ _ _ (s sa),by simp⟩
   .cases h;exact⟨by omega,L _ rfl,by simp⟩
   cases h
  | false =>
   simp only[FJ,EO,AAG,AAX]at h b;split at h
   .rename_i n;have n:∀l,v≠.ag l:=λl e=>by subst e;simp[MY]at n
    cases h;obtain⟨x,rfl⟩:=AAR.1 (G rfl);simp at b;subst b;obtain⟨c1,c2,rfl,j,a⟩:=c;have a:c2=[]:=a;subst a;have M:=S0 j A;rw[AAb,Dd oa];exact⟨by omega,⟨o,[],by simp,s n,rfl⟩,by simp⟩
   cases h
 | [k],f,fs,q,off,cs,c,G,h,i,b=>by
  simp only[FJ]at h;split at h
  .rename_i J;simp only[AT]at J;obtain⟨rfl,n⟩:=J;have n:∀l,v≠.ag l:=λl e=>by subst e;simp[MY]at n
   cases h;simp only[EO,AAH]at b;obtain⟨j,a⟩:=c.get b;have M:=S0 a A;have U:=a.length;have Q:off=B9 fs k:=by grind [H5,J4]
   subst Q;have D:=s n;have m:=D.length;exact⟨by omega,c.set b D oa,by simp⟩
  cases h
 | k :: X :: r,f,fs,q,off,cs,c,G,h,i,b=>by
  cases f with
  | false=>simp[FJ]at h
  | true =>
   simp only[FJ,AAH]at h;split at h
   .rename_i t d T x g;simp only[GO]at h;obtain⟨y,H,rfl⟩:=h;simp only[H5,g,GO]at i;obtain⟨S,F,rfl⟩:=i;obtain⟨j,a⟩:=c.get g;have E:Bl V.w V.O t _ d:=a;have D:Bl V.w V.O T o x:=s sa;obtain⟨m,B⟩:=QL H F E D;have C:=a.length;simp only[AV.cells]at j C B m;have z:=c.set (y:=.p t y) g (m:Bl V.w V.O t _ y) rfl;rw[IC _ _ _ _ _ oa j]at z;exact⟨by omega,z,by simp⟩
   .rename_i l g;simp only[GO]at h;obtain⟨l',H,rfl⟩:=h;simp only[H5,g,GO]at i;obtain⟨S,F,rfl⟩:=i;simp only[EO,AAH,g]at b;obtain⟨j,a⟩:=c.get g;have E:AVCs V l _:=a;have C:=a.length;obtain⟨m,B,_⟩:=S1 A R L s P E sa H (by simpa only[H5] using F) b;have N:(AV.ag l').cells=(AV.ag l).cells:=by
     have K:=Fa.length (V:=V) (x:=.ag l') B;rw[Dp m]at K;rw[<-K,C]
    have z:=c.set (y:=.ag l') g (show Fa V (.ag l') _ from B) N;rw[C]at m;rw[IC _ _ _ _ _ m j]at z;exact⟨by omega,z,by simp⟩
   cases h
section
variable {P:Program} {tb:Tb} {w0:World} {K O0:Nat->Prop} {nt:Nat} {ds:Fp} {σ σ':St} {ρ:Nat->Value} {a:Act} {w:World} {vc:Prop}
theorem O5 {n:Nat} {o:Obj} (i:lk n σ.objs=some o) {g:Nat} (c:blk (ρ n)=some g) {w':World} (d:w.grownBy w' (some g)):CG (vw w O0 σ ρ) (vw w' O0 σ ρ) :=
 ⟨λ_ _ h=>h,λ_ h=>h,λ_ _=>rfl,λb f a=>d.block b f (λe=>by injection e with e;subst e;exact a (.inr ⟨n,⟨o,i⟩,.inl c⟩))⟩
theorem FN (w:World) (g:Nat) (cs:Array Value):w.grownBy (w.setRow g cs) (some g) :=
 ⟨rfl,rfl,rfl,by simp,λk _ a=>setRow_other w g k cs (λe=>a (by rw[e]))⟩
theorem KJ {id:TypeId} {ti:TI} (hT:Dg P tb id ti) {g off:Nat} {cs:List Value} {et:TypeId} {xv:Value} (c:w.heap[g]?=some (.cells cs.toArray et (0,0))) (hs:xv.cells.size=ti.ty.size)
  (d:off+xv.cells.toList.length<=cs.length) (b:∀u∈xv.cells.toList,u.oneCell'=true) :
  (Instr.storeAt id (.pointer (some ⟨g,off,none⟩)) xv).run P w=.ok () (w.setRow g (A2 cs off xv.cells.toList).toArray):=by
 have a:=run_storeCells_at P g off et xv.cells.toList 0 cs.toArray w c (by simpa using d) b;simp only[Nat.add_zero]at a;have e:¬xv.cells.size≠ti.ty.size:=by omega
 simp only[Instr.storeAt,Instr.sureAddr,storeVar,AAF,ABm,AAh,G6 w hT,As e,a];rfl
theorem Mp {o:Oper} {w':World} {next:Act->World->Prop} {Q:Exit->Act->World->Prop} {r:Option Nat} (h:(execOp a.eval o).run P w=.ok .skip w') (b:next (a.put o.dst undef) w') (d:∀c,o.op≠.defer c:=by intro c e;cases e):o.wpIn (FR r) 0 P a w next Q:=by
 refine⟨λ_ _=>trivial,?_⟩;rw[Hl _ _ _ d,h];exact b
theorem eO (hs:Bx w0 K O0 nt ds σ ρ a w) (am:∀b,K b->b<w0.heap.size) (hT:DG P tb) {id:TypeId} {x y:Operand} (bw:∀n e i t off,Ae σ x=some (.ep n e i t off)->Ci (lk n σ.objs)=false) (h:G1 σ (lk id tb.ty) (Ae σ x) (Ae σ y)=some (vc,σ')) (dd:vc) :
  ∃w',(Instr.storeAt id (a.eval x) (a.eval y)).run P w=.ok () w'/\Bx w0 K O0 nt ds σ' ρ a w':=by
 have I:EI (vw w O0 σ ρ) σ a.eval:=Ck hs.env;unfold G1 at h;split at h
 .rename_i ti n t off v ad S ai;have ah:=I x _ S;have E:=I y _ ai;cases r:lk n σ.objs with
  | none=>rw[r]at h;simp[Cp]at h
  | some o =>
   rw[r]at h;cases o with
   | arr et e xs=>simp[Cp]at h
   | mapo k v l=>simp[Cp]at h
   | frame ct fs=>simp[Cp]at h
   | loop L=>simp[Cp]at h
   | itr cl co cm cn cj=>simp[Cp]at h
   | dfr=>simp[Cp]at h
   | sit cq cr=>simp[Cp]at h
   | gen G=>simp[Cp]at h
   | nest et ck k e xs bs=>simp[Cp]at h
   | box et ak fs =>
    simp only[Cp]at h;cases M:EO ak fs t with
    | none=>rw[M]at h;simp[Ea]at h
    | some u =>
     cases aa:FJ ak fs v t with
     | none=>rw[M,aa]at h;simp[Ea]at h
     | some cw =>
      rw[M,aa]at h;simp only[Ea]at h;split at h
      .rename_i az;obtain⟨cg,ae,bx,_⟩:=az;cases h;obtain⟨cd,b,cs,X,D,bj⟩:=hs.objs n _ r;obtain⟨bh,b',f,af⟩:=ah;have f:ρ n=_:=f;rw[X]at f;injection f with f
       injection f with f
       injection f with f
       subst f;have J:=j0 E ae (Lq E ae);have an:∀l,v=.ag l->AVCs (vw w O0 σ ρ) l (a.eval y).cells.toList:=by
        intro l e;subst e;obtain⟨cv,B,bk⟩:=E;rw[B];simpa[Value.cells] using bk
       obtain⟨bd,T,be⟩:=S1 cg ae an (λN=>J.2 N) (by simpa using J.1) bj cd aa bx M;have ca:∀z∈(a.eval y).cells.toList,z.oneCell'=true:=by
        by_cases N:∃l,v=.ag l
        .obtain⟨l,e⟩:=N;exact(an l e).one
        exact(J.2 (λl e=>N ⟨l,e⟩)).one
       have Z:=KJ (hT _ _ ad) D J.1 bd ca;rw[af];refine⟨_,Z,?_⟩;have A:blk (ρ n)=some b:=by rw[X];rfl
       refine hs.upd am r A (FN w b _) ⟨be,b,_,X,setRow_heap w b _ _ et _ D,?_⟩;exact T.keeps (O5 r A (FN w b _))
      cases h
 .rename_i ti n e i t off v ad S ai;have ah:=I x _ S;have E:=I y _ ai;cases r:lk n σ.objs with
  | none=>rw[r]at h;simp[Cq]at h
  | some o =>
   rw[r]at h;cases o with
   | box et ak fs=>simp[Cq]at h
   | mapo k v l=>simp[Cq]at h
   | frame ct fs=>simp[Cq]at h
   | loop L=>simp[Cq]at h
   | itr cl co cm cn cj=>simp[Cq]at h
   | dfr=>simp[Cq]at h
   | sit cq cr=>simp[Cq]at h
   | gen G=>simp[Cq]at h
   | nest et ck k e xs bs=>have:=bw _ _ _ _ _ S;rw[r]at this;cases this
   | arr et d xs =>
    simp only[Cq]at h;cases U:BR (.slice e) ⟨.slice d,xs⟩ with
    | none=>rw[U]at h;simp[D6]at h
    | some ys =>
     obtain⟨rfl,T⟩:=Bz U;cases T;rw[U]at h;cases has:IQ false σ ti.ty v with
     | none=>rw[has]at h;simp[D6]at h
     | some cu =>
      rw[has]at h;simp only[D6]at h;cases ab:QF t d (xs.getD i d.dflt) ⟨ti.ty,cu⟩ with
      | none=>rw[ab]at h;simp[FK]at h
      | some z =>
       rw[ab]at h;simp only[FK]at h;split at h
       .rename_i bz;cases h;obtain⟨bu,cells,Q,H⟩:=hs.objs n _ r;obtain⟨bh,g,m,c,f,Y,af⟩:=ah;have f:plc (ρ n)=_:=f;have Q:w.ownsRow 0 et d.size (ρ n) xs.length cells:=Q;rw[Hg Q]at f;have H:DE w (own O0 σ ρ) d cells xs:=H;have ch:=Hh (V:=vw w O0 σ ρ) (O':=own O0 σ ρ) (λ_ h=>h) (λh=>by cases h) hs.objs has E;obtain⟨ay,ax⟩:=Ss ch;obtain⟨aw,cb⟩:=Q;rcases cb with ⟨B,_⟩|⟨cx,cap,s,B,cz,D,ap,bi,W,ce⟩
        .grind
        rw[f]at B;injection B with C bl bm
        injection C with C
        injection C with C
        subst C;subst bl;have ci:xs[i]?=some (xs.getD i d.dflt):=by
         rw[DO Y,AS,DO Y];rfl
        obtain⟨es,bo,ar,bn⟩:=H i _ ci;obtain⟨bf,bg⟩:=QL ab bz bn ax;have cy:cells.length=xs.length*d.size:=aw;have bq:(i+1)*d.size<=xs.length*d.size:=p8 _ Y;have da:xs.length*d.size<=cap*d.size:=p8 _ ap;rw[AAV]at bq;have ao:i*d.size+off+(a.eval y).cells.toList.length<=s.toList.length:=by
         have bt:s.toList.length=cap*d.size:=by rw[<-W];simp
         have dc:(a.eval y).cells.toList.length=ti.ty.size:=by rw[<-ay];simp
         omega
        have bp:w.heap[g]?=some (.cells s.toList.toArray et (0,0)):=by simpa using D
        have Z:=KJ (hT _ _ ad) bp ay ao ax.one;rw[af];refine⟨_,Z,?_⟩;have A:blk (ρ n)=some g:=by rw[f];rfl
        have cc:(A2 s.toList (i*d.size+off) (a.eval y).cells.toList).length=s.size:=by rw[Dp ao];simp
        have cf:(A2 s.toList (i*d.size+off) (a.eval y).cells.toList).take (xs.length*d.size)=A2 cells (i*d.size+off) (a.eval y).cells.toList:=by
         rw[<-ce];apply ABY;intro j;simp only[A2,oN,AA3,AAw,OS,AAy,List.take_take];have aj:min (i*d.size+off) s.toList.length=i*d.size+off:=by omega
         have F:min (i*d.size+off) (xs.length*d.size)=i*d.size+off:=by omega
         have cp:min (xs.length*d.size) s.toList.length=xs.length*d.size:=by
          have bt:s.toList.length=cap*d.size:=by rw[<-W];simp
          omega
         simp only[aj,F,cp];by_cases c1:j<i*d.size+off
         .simp[c1,show j<xs.length*d.size by omega]
         by_cases c2:j-(i*d.size+off)<(a.eval y).cells.toList.length
         .simp only[c1,c2,AAX,AAH,show j<xs.length*d.size by omega]
         simp only[c1,c2,AAX];by_cases al:j<xs.length*d.size
         .rw[At al,At oa]
         rw[As al,As oa]
        refine hs.upd am r A (FN w g _) ⟨by simpa using bu,A2 cells (i*d.size+off) (a.eval y).cells.toList,⟨?_,.inr ⟨g,cap,_,by rw[f,bm];simp,BY _,setRow_heap w g _ _ et _ D,by simpa using ap,bi,by simp[cc,W],?_⟩⟩,?_⟩
        .rw[Dp oa];simpa using aw
        .simpa using cf
        have br:=O5 (O0:=O0) r A (FN w g (A2 s.toList (i*d.size+off) (a.eval y).cells.toList).toArray);have bv:DE (vw w O0 σ ρ).w (vw w O0 σ ρ).O d (A2 cells (i*d.size+off) (a.eval y).cells.toList) (xs.set i z):=by
         intro k q R;rw[AB4]at R;split at R
         .rename_i au;subst au;cases R;refine⟨A2 es off (a.eval y).cells.toList,by rw[Dp bg];exact bo,λj u p=>?_,bf⟩;simp only[A2,oN,AAw,OS,AA3,AAy]at p ⊢;have aj:min off es.length=off:=by omega
          have F:min (i*d.size+off) cells.length=i*d.size+off:=by omega
          simp only[aj]at p;simp only[F];by_cases c1:j<off
          .simp only[c1,AAH]at p;simp only[show i*d.size+j<i*d.size+off by omega,AAH];exact ar _ _ p
          simp only[c1,AAX]at p;simp only[show ¬i*d.size+j<i*d.size+off by omega,AAX];rw[show i*d.size+j-(i*d.size+off)=j-off by omega];by_cases c2:j-off<(a.eval y).cells.toList.length
          .simp only[c2,AAH]at p ⊢;exact p
          simp only[c2,AAX]at p ⊢;have:=ar _ _ p;rw[<-this]
          congr 1
          omega
         rename_i au;obtain⟨ba,g1,bb,bc⟩:=H k q R;refine⟨ba,g1,λj u p=>?_,bc⟩;have db:=(ON.1 p).1;have aq:=bb j u p;simp only[A2,oN,AAw,OS,AA3,AAy];have F:min (i*d.size+off) cells.length=i*d.size+off:=by omega
         simp only[F];rcases Nat.lt_or_ge k i with av|av
         .have:(k+1)*d.size<=i*d.size:=p8 _ av;rw[AAV]at this;simp only[show k*d.size+j<i*d.size+off by omega,AAH];exact aq
         have:(i+1)*d.size<=k*d.size:=p8 _ oa;rw[AAV]at this;simp only[show ¬k*d.size+j<i*d.size+off by omega,AAX,show ¬k*d.size+j-(i*d.size+off)<(a.eval y).cells.toList.length by omega];rw[<-aq]
         congr 1
         omega
        exact bv.keeps br
       cases h
 cases h
theorem S2 (hs:Bx w0 K O0 nt ds σ ρ a w) (E:∀b,K b->b<w0.heap.size) (u:DG P tb) {t:TypeId} {m x y:Operand} (h:G2 tb σ (lk t tb.ty) (Ae σ m) (Ae σ x) (Ae σ y)=some (vc,σ')) :
  ∃w',(Instr.mapUpdate t (a.eval m) (a.eval x) (a.eval y)).run P w=.ok () w'/\Bx w0 K O0 nt ds σ' ρ a w':=by
 have j:EI (vw w O0 σ ρ) σ a.eval:=Ck hs.env;unfold G2 at h;split at h
 .rename_i k e _ _ n xv Y R N S U;have T:=j x _ S;have W:=j y _ U;obtain⟨Z,b,c,O⟩:=j m _ N;have c:plc (ρ n)=_:=c;cases f:lk n σ.objs with
  | none=>rw[f]at h;simp[FL]at h
  | some o =>
   rw[f]at h;cases o with
   | mapo aa vt l =>
    cases p:lk k tb.ty with
    | none=>simp[FL,p]at h
    | some X =>
     simp only[FL,p,AB7,AAU]at h;split at h
     .rename_i H;obtain⟨rfl,I⟩:=H;cases g:IQ false σ X.ty xv with
      | none=>rw[g]at h;simp[Fy]at h
      | some kd =>
       cases q:IQ false σ vt Y with
       | none=>rw[g,q]at h;simp[Fy]at h
       | some ad =>
        rw[g,q]at h;simp only[Fy]at h;split at h
        .rename_i L;cases h;have C:=Hh (V:=vw w O0 σ ρ) (O':=own O0 σ ρ) (λ_ h=>h) (λh=>by cases h) hs.objs g T;have D:=Hh (V:=vw w O0 σ ρ) (O':=own O0 σ ρ) (λ_ h=>h) (λh=>by cases h) hs.objs q W;obtain⟨b',s,r,d,Q,⟨ab,A⟩,J,G⟩:=xW (w:=w) (V:=vw w O0 σ ρ) u (u _ _ R) (n:=n) rfl rfl p rfl (hs.objs n _ f) I L C D;have d:ρ n=_:=d;have c:=Md (hs.objs n _ f) c;have c:ρ n=_:=c;rw[c]at d;injection d with d
         injection d with d
         subst d;rw[O];refine⟨_,Q,?_⟩;have v:blk (ρ n)=some b:=by rw[c];rfl
         have z:w.grownBy { w with heap:=w.heap.setIfInBounds b (.map s r) } (some b) :=
          ⟨rfl,rfl,rfl,by simp,λi _ hi=>(MapKept.heap_set A).2 i (λe=>hi (by rw[e]))⟩
         refine hs.upd E f v z ⟨b,s,r,c,(MapKept.heap_set A).1,?_⟩;refine⟨?_,G⟩;exact J.mono (λ_ _ h=>h) (λB M F=>z.block B M (λe=>by injection e with e;subst e;exact F (.inr ⟨n,⟨_,f⟩,.inl v⟩)))
        cases h
     cases h
   | _=>simp[FL]at h
 cases h
end
end
section
open Go Go.RowKit
section
variable {P:Program} {tb:Tb} {w0:World} {K O0:Nat->Prop} {nt:Nat} {ds:Fp} {σ σ':St} {ρ:Nat->Value} {a:Act} {w:World} {vc:Prop} {id:TypeId}
theorem Mq {w:World} {base:Nat} {et:TypeId} {sz n:Nat} {s:Value} {xs:List Value} (h:w.ownsRow base et sz s n xs):s.ownBlock=blk s:=by
 rcases h.2 with ⟨rfl,_⟩|⟨g,cap,a,rfl,_⟩<;>rfl
theorem EK (x:DG P tb) {el:TypeId} {e:Ty} (p:P.underlying id=some (.slice el)) {te:TI} (B:lk el tb.ty=some te) (L:te.ty=e) {base ty:Nat} {s xv:Value} {n:Nat} {xs D:List Value}
  (r:w.ownsRow base el e.size s n xs) {O:Nat->Prop} {ys:List e.den} (V:qB w O e xv ys D) (X:(n+ys.length)*te.bytes<=AN) {f:Value} {w':World}
  (h:(Builtin.append_ #[id,id] ty #[s,xv]).run P w=.ok f w'):blk f=blk s\/∀b,blk f=some b->w.heap.size<=b:=by
 subst L;obtain⟨⟨⟨_,J,_⟩,i,z,hi,o,y,C,ak⟩,_⟩:=x _ _ B;have T:n+ys.length<=AN:=by
  have:(n+ys.length)*1<=(n+ys.length)*te.bytes:=AB2 _ J;omega
 have ag:AN=140737488355328:=rfl;obtain⟨⟨a,c,rfl,H⟩,Q,ab,ai,af⟩:=V;have hs:(sizeOf el).run P w=.ok te.ty.size w:=G6 w (x _ _ B);have al:∀ {l E:Nat} {W:World},Result.ok (Value.slice (some ⟨w.heap.size,0,none⟩) l E) W=Result.ok f w'->blk f=blk s\/∀b,blk f=some b->w.heap.size<=b:=by grind [blk]
 have Y:∀(ad:Addr) (m:Nat) (d:List Value),d.length=m*te.ty.size->(∀(j:Nat) (u:Value),d[j]?=some u->w.cell? (ad.add j)=some u)->(∀u∈d,u.oneCell'=true)->n+m<=AN->(n+m)*te.bytes<=AN ->
   (Builtin.append_ #[id,id] ty #[s,.slice (some ad) m c]).run P w=.ok f w'->blk f=blk s\/∀b,blk f=some b->w.heap.size<=b:=by
  intro ad m d k q F ae I h;rcases r.2 with ⟨rfl,rfl⟩|⟨g,cap,v,rfl,Z,N,ah,aa,K,aj⟩
  .by_cases R:m=0
   .subst R;have:d=[]:=dO (by simpa using k);simp[Builtin.append_,On p,hs,Builtin.lenOf,Builtin.firstCells,loadCells,loadCellsFrom]at h;grind
   have:=run_append_nil (P:=P) w id ty el i z p hi C ad m c d (by rw[o];exact k) q oa oa (by rw[y];simp at I;omega);grind
  by_cases A:n+m<=cap
  .have M:n*i.size+d.length<=v.size:=by
    rw[k,o,K,<-ACM];exact p8 _ A
   have:=run_append_room (P:=P) w id ty el i p hi g n cap v N ad m c d (by rw[o];exact k) q F A M;rw[this]at h;injection h with t G
   subst t;exact .inl rfl
  have U:∀j u,xs[j]?=some u->w.cell? ((⟨g,0,none⟩:Addr).add j)=some u:=r.cells (g:=g) rfl;have:=run_append_grow (P:=P) w id ty el i z p hi C ⟨g,0,none⟩ n cap xs (by rw[o];exact r.1) U ad m c d (by rw[o];exact k) q oa oa (by rw[y];exact growslice_fits oa oa);grind
 rcases H with rfl|⟨ad,rfl,q⟩
 .have S:D=[]:=dO (by simpa using Q);subst S;cases a with
  | none =>
   have:=Ow (P:=P) (ty:=ty) p hs r c;rw[show ([]:List te.ty.den).length=0 from rfl,this]at h;injection h with t G
   subst t;exact .inl rfl
  | some ad=>exact Y ad 0 [] sa sa sa (by simpa using T) (by simpa using X) h
 grind
theorem Yi {w:World} {O:Nat->Prop} {e:Ty} {c:List Value} {xs:List e.den} (h:DE w O e c xs) (n:Nat):DE w O e (c.take (n*e.size)) (xs.take n):=by
 intro i x hi;rw[AA3]at hi;split at hi
 .rename_i d;obtain⟨es,g1,f,a⟩:=h i x hi;refine⟨es,g1,λj u b=>?_,a⟩;have g:=(ON.1 b).1;have:(i+1)*e.size<=n*e.size:=p8 _ d;grind
 cases hi
theorem Yj (hs:Bx w0 K O0 nt ds σ ρ a w) (ai:∀b,K b->b<w0.heap.size) (aj:∀b,O0 b->b<w0.heap.size) (hT:DG P tb) {d:Option Nat} (al:∀k,d=some k->k<nt) {t u ty:TypeId} {x y:Operand}
  (h:Dz tb σ d t u (Ae σ x) (Ae σ y)=some (vc,σ')) (aw:vc) (ak:∃n e hi,Ae σ x=some (.sr n e 0 hi)/\Ci (lk n σ.objs)=false) :
  ∃z w' ρ',(Builtin.append_ #[t,u] ty #[a.eval x,a.eval y]).run P w=.ok z w'/\Bx w0 K O0 nt ds σ' ρ' (a.put d z) w':=by
 have R:EI (vw w O0 σ ρ) σ a.eval:=Ck hs.env;obtain⟨az,af,ap,ab,U⟩:=ak;unfold Dz at h;split at h
 .rename_i n e hi v aa ax;obtain⟨rfl,rfl,rfl⟩:n=az/\e=af/\hi=ap:=by rw[aa]at ab;cases ab;exact⟨rfl,rfl,rfl⟩
  split at h
  .rename_i d;split at h
   .rename_i M;obtain⟨M,ao⟩:=M;subst M;cases J:lk t tb.ty with
    | none=>rw[J]at h;simp[D7]at h
    | some ti =>
     rw[J]at h;unfold D7 at h;split at h
     .rename_i j offs el b i;cases i;split at h
      .rename_i am;subst am;obtain⟨X,bn,te,I,W⟩:=CA (hT _ _ J) hT;rw[I]at h;cases s:lk n σ.objs with
       | none=>rw[s]at h;cases f:K5 σ j v<;>rw[f]at h<;>simp[B7]at h
       | some o =>
        rw[s]at h;cases o with
        | box et bz fs=>cases f:K5 σ j v<;>rw[f]at h<;>simp[B7]at h
        | mapo ay v1 l=>cases f:K5 σ j v<;>rw[f]at h<;>simp[B7]at h
        | frame ca fs=>cases f:K5 σ j v<;>rw[f]at h<;>simp[B7]at h
        | loop L=>cases f:K5 σ j v<;>rw[f]at h<;>simp[B7]at h
        | itr bq bt br bs bo=>cases f:K5 σ j v<;>rw[f]at h<;>simp[B7]at h
        | nest et bp ay A xs bj=>rw[s]at U;cases U
        | dfr=>cases f:K5 σ j v<;>rw[f]at h<;>simp[B7]at h
        | sit bw bx=>cases f:K5 σ j v<;>rw[f]at h<;>simp[B7]at h
        | gen G=>cases f:K5 σ j v<;>rw[f]at h<;>simp[B7]at h
        | arr et p xs =>
         simp only[B7]at h;split at h
         .rename_i an;subst an;cases C:BR (.slice j) ⟨.slice p,xs⟩ with
          | none=>rw[C]at h;simp[Eb]at h
          | some cb =>
           obtain⟨rfl,ah⟩:=Bz C;cases ah;rw[C]at h;cases f:K5 σ p v with
           | none=>rw[f]at h;simp[Eb]at h
           | some ys =>
            rw[f]at h;simp only[Eb]at h;cases h;obtain⟨bu,H⟩:=Mk hs.objs f (R y _ ax);obtain⟨bm,cells,r,D⟩:=hs.objs n _ s;have r:w.ownsRow 0 et p.size (ρ n) xs.length cells:=r;have D:DE w (own O0 σ ρ) p cells xs:=D;obtain⟨bg,a0,m,c,q,bl,bi,ad,ae,N,bh,ag,bf⟩:=R x _ aa;have q:plc (ρ n)=.slice a0 m c:=q;rw[Hg r]at q;obtain⟨rfl,rfl⟩:=ag rfl;simp only[AC2]at N;have bk:=r.1;have T:hi<=xs.length:=by
             rcases r.2 with ⟨i,au⟩|⟨g,cap,O,i,_⟩
             .rw[q]at i;injection i;omega
             rw[q]at i;injection i;omega
            have ar:hi*p.size<=xs.length*p.size:=p8 _ T;have F:w.ownsRow 0 et p.size (a.eval x) hi (cells.take (hi*p.size)):=by
             rw[N];refine⟨by rw[OS];omega,?_⟩;rcases r.2 with ⟨i,au⟩|⟨g,cap,O,i,ba,bb,bv,bc,bd,be⟩
             .rw[q]at i;injection i with A p B
              subst A;subst B;have:hi=0:=by omega
              subst this;exact .inl ⟨rfl,rfl⟩
             rw[q]at i;injection i with A p B
             subst A;subst B;refine .inr ⟨g,ae,O,rfl,ba,bb,by omega,bc,bd,?_⟩;rw[<-be,List.take_take,ACj ar]
            have Y:(hi+ys.length)*te.bytes<=AN:=aw;obtain⟨z,w',V,av,S,aq⟩:=EA (ty:=ty) hT X I W F H Y (BY _);have Z:=EK (ty:=ty) hT X I W F H Y V;have Q:blk (a.eval x)=blk (ρ n):=by
             rw[N,q];cases ad<;>rfl
            rw[Q]at Z;rw[Mq F,Q]at S;refine⟨z,w',DQ ρ n z,V,?_⟩;have E:(xs.take hi++ys).length=hi+ys.length:=by simp;omega
            exact hs.app ai aj ao s S Z (by rw[E];exact aq) (by rw[E];exact av) (Gd (Yi D hi) H.elems (by rw[OS,OS];rw[ACj T];omega)) (al d rfl) E.symm
         cases h
      cases h
     cases h
   cases h
  cases h
 .grind
 .grind
 cases h
theorem K9 (n:Nat) (e:Ty) (xs:List e.den) (s:Nat):∀l:List (Nat×AV),lk s (C9 n e xs l)=(lk s l).map (AV.frz n e xs)
 | []=>rfl
 | (j,v) :: l=>by
  simp only[C9,lk];split
  .rfl
  exact K9 n e xs s l
def Obj.frz (n:Nat) (e:Ty) (xs:List e.den):Obj->Obj
 | .arr et a ys=>.arr et a ys
 | .box et o fs=>.box et o (AV.frzs n e xs fs)
 | .mapo k v l=>.mapo k v l
 | .nest et c k e ys h=>.nest et c k e ys h
 | .frame p fs=>.frame p (C9 n e xs fs)
 | .loop L=>.loop L
 | .itr d i f g b=>.itr d i f g b
 | .dfr=>.dfr
 | .sit j m=>.sit j m
 | .gen G=>.gen G
theorem B0 (n:Nat) (e:Ty) (xs:List e.den) (s:Nat):∀l:List (Nat×Obj),lk s (A1 n e xs l)=(lk s l).map (Obj.frz n e xs)
 | []=>rfl
 | (j,.arr et a ys) :: l=>by
  simp only[A1,lk];split
  .rfl
  exact B0 n e xs s l
 | (j,.box et m fs) :: l=>by
  simp only[A1,lk];split
  .rfl
  exact B0 n e xs s l
 | (j,.mapo k v x) :: l=>by
  simp only[A1,lk];split
  .rfl
  exact B0 n e xs s l
 | (j,.nest _ _ _ _ _ _) :: l=>by
  simp only[A1,lk];split
  .rfl
  exact B0 n e xs s l
 | (j,.frame o fs) :: l=>by
  simp only[A1,lk];split
  .rfl
  exact B0 n e xs s l
 | (j,.loop L) :: l=>by
  simp only[A1,lk];split
  .rfl
  exact B0 n e xs s l
 | (j,.itr c g d f b) :: l=>by
  simp only[A1,lk];split
  .rfl
  exact B0 n e xs s l
 | (j,.dfr) :: l=>by
  simp only[A1,lk];split
  .rfl
  exact B0 n e xs s l
 | (j,.sit h i) :: l=>by
  simp only[A1,lk];split
  .rfl
  exact B0 n e xs s l
 | (j,.gen G) :: l=>by
  simp only[A1,lk];split
  .rfl
  exact B0 n e xs s l
theorem O6 (n:Nat) (e:Ty) (xs:List e.den):∀l:List AV,(AV.frzs n e xs l).length=l.length
 | []=>rfl
 | _ :: r=>by simp[AV.frzs,O6 n e xs r]
section
variable {V V':Vw} {n:Nat} {et:TypeId} {e:Ty} {xs:List e.den}
structure Yk (V V':Vw) (n:Nat):Prop where
 w:V'.w=V.w
 ρ:V'.ρ=V.ρ
 L:∀m,V.L m->m≠n->V'.L m
 O:∀b,¬V.O b->¬V'.O b
 n:∀b,bk (V.ρ n) b->¬V'.O b
theorem Yk.keeps (h:Yk V V' n):CG (V.but n) V':=⟨λb _ c=>h.O b c,λm a=>h.L m a.1 a.2,λm _=>by rw[h.ρ];rfl,λb _ _=>by rw[h.w];rfl⟩
structure Ls (V V':Vw) (n:Nat) (e:Ty) (xs:List e.den):Prop where
 seat:KI (V.ρ n)
 read:∀lo hi v,CV (plc (V.ρ n)) e.size lo hi v->Bl V'.w V'.O (.slice e) [v] (sub xs lo hi)
theorem WX {V:Vw} {et:TypeId} {e:Ty} {xs:List e.den} {loc:Value} (b:Av V (.arr et e xs) loc):seat loc:=by
 obtain⟨_,cells',c,_⟩:=b;rcases c.2 with ⟨a,_⟩|⟨g,cap,d,a,_⟩
 .exact .inl ⟨_,_,_,a⟩
 exact .inl ⟨_,_,_,a⟩
theorem Yk.arr (h:Yk V V' n) (c:Av V (.arr et e xs) (V.ρ n)):Ls V V' n e xs:=⟨Mn ((WX c).elim id λ⟨_,h⟩=>by rw[h]at c;obtain⟨_,_,⟨_,a⟩,_⟩:=c;rcases a with ⟨a,_⟩|⟨_,_,_,a,_⟩<;>cases a),λlo hi v g=>by
 have f:=Uf (V:=V) (O':=V'.O) h.O (λb d=>h.n b (.inl d)) c g
 rwa [<-h.w]at f⟩
theorem Yk.nest (h:Yk V V' n) {j:TypeId} {k e:Ty} {xs:List (k.den×List e.den)} (c:Av V (.nest et j k e xs none) (V.ρ n)):Ls V V' n (.agg (.prod k (.slice e))) xs:=⟨by
 obtain⟨o,ins,cells,b,d⟩:=c;rcases d.own.2 with ⟨a,_⟩|⟨g,cap,l,a,_⟩
 .exact⟨_,_,_,b.plc.trans a⟩
 .exact⟨_,_,_,b.plc.trans a⟩,λlo hi v i=>by
 have f:=WG (V:=V) (O':=V'.O) h.O h.n c i
 rwa [<-h.w]at f⟩
theorem Uu (h:Yk V V' n) (j:Ls V V' n e xs) {x:AV} {v:Value} (b:KC V x v):KC V' (x.frz n e xs) v/\((∀t d,x≠.p t d)->∀t d,x.frz n e xs=.p t d->t.wrap [v]=v/\Bl V'.w V'.O t [v] d):=by
 have c:=h.keeps;have f:=j.seat;cases x;case sr m g lo hi =>
  simp only[AV.frz];split
  .rename_i a;subst a;split
   .rename_i s;subst s;obtain⟨z,l⟩:=b;have k:=j.read lo hi v l;obtain⟨_,_,_,_,_,_,u,y,o,_⟩:=l;refine⟨⟨[v],k,by rw[o];rfl⟩,λ_ t d h=>?_⟩;injection h with q r
    subst q;cases r;exact⟨by rw[o];rfl,k⟩
   exact⟨trivial,λ_ t d h=>by cases h⟩
  rename_i a;have:=Hm f b;simp only[AV.drp,As a]at this;exact⟨this.keeps c,λ_ t d h=>by cases h⟩
 case ep m g i A off =>
  have:=Hm f b;simp only[AV.drp]at this;simp only[AV.frz];split
  .exact⟨trivial,λ_ t d h=>by cases h⟩
  rename_i a;rw[As a]at this;exact⟨this.keeps c,λ_ t d h=>by cases h⟩
 case nin m g i len =>
  have:=Hm f b;simp only[AV.drp]at this;simp only[AV.frz];split
  .exact⟨trivial,λ_ t d h=>by cases h⟩
  rename_i a;rw[As a]at this;exact⟨this.keeps c,λ_ t d h=>by cases h⟩
 case p t d=>exact⟨(Hm f b).keeps c,λhp=>absurd rfl (hp t d)⟩
 all_goals
  have:=Hm f b;simp only[AV.drp]at this;simp only[AV.frz];exact⟨this.keeps c,λ_ t d h=>by cases h⟩
theorem kO (h:Yk V V' n) (m:Ls V V' n e xs) {x:AV} {cs:List Value} (g:SZ x=false) (c:Fa V x cs):Fa V' (x.frz n e xs) cs:=by
 by_cases hp:∃t d,x=.p t d
 .obtain⟨t,d,rfl⟩:=hp;simp only[AV.frz];have c:Bl V.w V.O t cs d:=c;have:Bl V'.w V'.O t cs d:=c.mono (λb _ k=>h.O b k) (λb _ _=>by rw[h.w]);exact this
 have o:∃v,cs=[v]/\v.oneCell'=true/\KC V x v:=by
  cases x;case p t d=>exact absurd ⟨t,d,rfl⟩ hp
  case ag l=>cases g
  all_goals exact c
 obtain⟨v,rfl,i,j⟩:=o;obtain⟨f,a⟩:=Uu h m j;have a:=a (λt d e=>hp ⟨t,d,e⟩);generalize q:x.frz n e xs=y at f a;cases y;case p t d=>exact(a t d rfl).2
 case ag l=>exact f.elim
 all_goals exact⟨v,rfl,i,f⟩
theorem kP (h:Yk V V' n) (a:Ls V V' n e xs):(∀(x:AV) (cs:List Value),Fa V x cs->Fa V' (x.frz n e xs) cs)/\∀(l:List AV) (cs:List Value),AVCs V l cs->AVCs V' (AV.frzs n e xs l) cs :=
 Mc (λ_=>by simp only[AV.frz]) (by simp only[AV.frzs]) (λ_ _=>by simp only[AV.frzs]) (kO h a)
theorem QY (h:Yk V V' n) (a:Ls V V' n e xs) {l:List AV} {cs:List Value} (b:AVCs V l cs):AVCs V' (AV.frzs n e xs l) cs:=(kP h a).2 l cs b
theorem rF (h:Yk V V' n) (b:Ls V V' n e xs) {x:AV} {v:Value} (a:Ot V x v):Ot V' (x.frz n e xs) v:=by
 cases x;case ag l=>obtain⟨cs,c,d⟩:=a;simp only[AV.frz];exact⟨cs,c,QY h b d⟩
 all_goals
  simp only[Ot]at a;exact Ot.of1 (Uu h b a).1
theorem WY (h:Yk V V' n) (c:Ls V V' n e xs):∀ {l:List AV} {a:List Value},G4 V l a->G4 V' (AV.frzs n e xs l) a
 | [],a,b=>(b:a=[])
 | x :: r,a,b=>by
  obtain⟨v,g,rfl,d,f⟩:=b;simp only[AV.frzs];exact⟨v,g,rfl,rF h c d,WY h c f⟩
theorem aP (h:Yk V V' n) (d:Ls V V' n e xs) {x:AV} {v:Value} (a:Bn V x v):Bn V' (x.frz n e xs) v:=by
 cases x;case ag l=>obtain⟨cs,b,c⟩:=a;simp only[AV.frz];exact⟨cs,b,QY h d c⟩
 case tup l=>obtain⟨f,b,c⟩:=a;simp only[AV.frz];exact⟨f,b,WY h d c⟩
 all_goals
  simp only[Bn]at a;exact rA (Uu h d a).1
end
theorem WZ (hs:Bx w0 K O0 nt ds σ ρ a w) (n:Nat) (Q:¬EV n=true) {Z:Obj} (H:lk n σ.objs=some Z) {e:Ty} {xs:List e.den}
  (U:Yk (vw w O0 σ ρ) (vw w O0 ⟨C9 n e xs σ.env,A1 n e xs (SU n σ.objs)⟩ ρ) n->Ls (vw w O0 σ ρ) (vw w O0 ⟨C9 n e xs σ.env,A1 n e xs (SU n σ.objs)⟩ ρ) n e xs) :
  Bx w0 K O0 nt ds ⟨C9 n e xs σ.env,A1 n e xs (SU n σ.objs)⟩ ρ a w:=by
 have I:∀m x,lk m (A1 n e xs (SU n σ.objs))=some x->m≠n/\∃y,lk m σ.objs=some y/\x=y.frz n e xs:=by
  intro m x d;rw[B0,Nu]at d;split at d
  .simp at d
  rename_i D;simp only[GO]at d;grind
 have j:∀m,GL ⟨C9 n e xs σ.env,A1 n e xs (SU n σ.objs)⟩ m↔(GL σ m/\m≠n):=by
  intro m;constructor
  .rintro⟨x,E⟩;obtain⟨g,y,i,_⟩:=I m x E;exact⟨⟨y,i⟩,g⟩
  rintro⟨⟨x,E⟩,D⟩;exact⟨x.frz n e xs,by simp[B0,Nu,D,E]⟩
 have hF:Yk (vw w O0 σ ρ) (vw w O0 ⟨C9 n e xs σ.env,A1 n e xs (SU n σ.objs)⟩ ρ) n:=by
  refine⟨rfl,rfl,λm g i=>(j m).2 ⟨g,i⟩,λb h C=>?_,λb h C=>?_⟩
  .rcases C with q|⟨m,c,d⟩
   .exact h (.inl q)
   exact h (.inr ⟨m,((j m).1 c).1,d⟩)
  have h:bk (ρ n) b:=h;rcases C with q|⟨m,c,d⟩
  .exact(hs.free n b ⟨_,H⟩ h).2 q
  exact((j m).1 c).2 (hs.dist m n b ((j m).1 c).1 ⟨_,H⟩ d h)
 have A:=U hF;have T:∀p∈ds.pin,GL ⟨C9 n e xs σ.env,A1 n e xs (SU n σ.objs)⟩ p.1/\ρ p.1=p.2/\(qL p.2=true\/EV p.1=true):=by
  intro p hp;obtain⟨g,i,t⟩:=hs.pin p hp;refine⟨(j p.1).2 ⟨g,λr=>?_⟩,i,t⟩;have t:qL p.2=true:=t.resolve_right (by rw[r];exact Q);have F:KI (ρ n):=A.seat;rw[<-r,i]at F;rw[Yg F]at t;cases t
 refine⟨hs.frm,hs.nt,hs.defers,T,?_,?_,?_,?_⟩
 .intro m x d;obtain⟨D,y,u,rfl⟩:=I m x d;have f:=hs.objs m y u;cases y with
  | arr B r O=>exact Av.keeps (V:=(vw w O0 σ ρ).but n) hF.keeps (λ_ _=>rfl) f
  | box B ai fs =>
   obtain⟨q,b,cs,c,R,P⟩:=f;exact⟨λW=>by rw[O6];exact q W,b,cs,c,R,QY hF A P⟩
  | nest B X Y r O c=>exact Av.keeps (V:=(vw w O0 σ ρ).but n) (o:=.nest B X Y r O c) hF.keeps (λ_ _=>rfl) (K8 (V:=vw w O0 σ ρ) (V':=(vw w O0 σ ρ).but n) rfl rfl f)
  | mapo k v l=>exact Av.keeps (V:=(vw w O0 σ ρ).but n) hF.keeps (λ_ _=>rfl) f
  | frame aj fs =>
   obtain⟨q,g⟩:=f;refine⟨q,λs z M=>?_⟩;simp only[K9,GO]at M;obtain⟨y,u,rfl⟩:=M;exact aP hF A (g s y u)
  | loop L=>exact Av.keeps (V:=(vw w O0 σ ρ).but n) hF.keeps (λ_ _=>rfl) f
  | itr ab af ad ae aa=>exact Av.keeps (V:=(vw w O0 σ ρ).but n) hF.keeps (λ_ _=>rfl) f
  | dfr=>exact Av.keeps (V:=(vw w O0 σ ρ).but n) hF.keeps (λ_ _=>rfl) f
  | sit ag ah=>exact Av.keeps (V:=(vw w O0 σ ρ).but n) hF.keeps (λ_ _=>rfl) f
  | gen G=>exact Av.keeps (V:=(vw w O0 σ ρ).but n) hF.keeps (λ_ _=>rfl) f
 .intro m b c h;exact hs.free m b ((j m).1 c).1 h
 .intro m N b c S g i;exact hs.dist m N b ((j m).1 c).1 ((j N).1 S).1 g i
 intro s v J;simp only[K9,GO]at J;obtain⟨y,u,rfl⟩:=J;exact aP hF A (hs.env s y u)
theorem rG (hs:Bx w0 K O0 nt ds σ ρ a w) (n:Nat):Bx w0 K O0 nt ds (frz n σ) ρ a w:=by
 unfold frz;split
 .exact hs
 rename_i c;cases b:lk n σ.objs with
 | none=>exact hs
 | some f =>
 cases f with
 | box et t fs=>exact hs
 | mapo k v l=>exact hs
 | frame u fs=>exact hs
 | loop L=>exact hs
 | itr m q o p g=>exact hs
 | dfr=>exact hs
 | sit r s=>exact hs
 | gen G=>exact hs
 | arr et e xs=>exact WZ hs n c b λh=>h.arr (hs.objs n _ b)
 | nest et j k e xs d =>
  cases d with
  | some i=>exact hs
  | none=>exact WZ hs n c b λh=>h.nest (hs.objs n _ b)
theorem JE:∀ {l:List Nat} {σ:St},Bx w0 K O0 nt ds σ ρ a w->Bx w0 K O0 nt ds (DB l σ) ρ a w
 | [],_,h=>h
 | n :: r,σ,h=>JE (l:=r) (σ:=frz n σ) (rG h n)
end
end
section
open Go Go.RowKit
section
variable {P:Program} {tb:Tb} {w0:World} {K O0:Nat->Prop} {nt:Nat} {ds:Fp} {σ σ':St} {ρ:Nat->Value} {a:Act} {w:World} {vc:Prop}
theorem rH (hs:Bx w0 K O0 nt ds σ ρ a w) (bu:∀b,K b->b<w0.heap.size) (bv:∀b,O0 b->b<w0.heap.size) (hT:DG P tb) {d:Nat} (ca:d<nt) {t ty:TypeId} {x y:Operand} {n i len:Nat} {e:Ty} {v:AV}
  (co:Ae σ x=some (.nin n e i len)) (cp:Ae σ y=some v) {et el:TypeId} {k:Ty} {xs:List (k.den×List e.den)} (I:lk n σ.objs=some (.nest et el k e xs none)) (cc:EV n=false)
  (ar:P.underlying t=some (.slice el)) {te:TI} (ap:lk el tb.ty=some te) (aq:te.ty=e) (h:Lo σ d n et el k e xs i te.bytes (K5 σ e v)=some (vc,σ')) (af:vc) :
  ∃z w' ρ',(Builtin.append_ #[t,t] ty #[a.eval x,a.eval y]).run P w=.ok z w'/\Bx w0 K O0 nt ds σ' ρ' (a.put (some d) z) w':=by
 have ax:EI (vw w O0 σ ρ) σ a.eval:=Ck hs.env;cases au:K5 σ e v with
 | none=>rw[au]at h;simp[Lo]at h
 | some ys =>
  rw[au]at h;simp only[Lo]at h;split at h
  .rename_i ay;have an:lk d σ.objs=none:=by simpa using ay.1
   cases h;obtain⟨cu,Y⟩:=Mk hs.objs au (ax y _ cp);obtain⟨cy,cv,ad,c,X,M,F,ce,de⟩:=ax x _ co;have M:ρ n=.tuple cv:=M;have bg:=hs.objs n _ I;have az:=Uh (z:=(k.dflt,[])) bg M F;obtain⟨o,ins,cells,cm,D⟩:=bg;obtain rfl:=cm.tup M;have F:ins[i]?=some X:=by simpa using F
   obtain⟨c1,df,bz,cl,A⟩:=D.row i _ _ az F;rcases A with ⟨A,_⟩|⟨_,da,q,bi,R,cb⟩
   .cases A
   generalize dd:xs.getD i (k.dflt,[])=row at *;obtain⟨z,w',U,E,C,ao,bh⟩:∃z w',(Builtin.append_ #[t,t] ty #[a.eval x,a.eval y]).run P w=.ok z w'/\w'.ownsRow 0 el e.size z (row.2.length+ys.length) (bi++cu)/\w.grownBy w' (blk X)/\row.2.length+ys.length<=AN/\(blk z=blk X\/∀b,blk z=some b->w.heap.size<=b):=by
    rcases ce with H|⟨H,a0,cn⟩
    .rw[H];obtain⟨z,w',U,E,C,ao⟩:=EA (ty:=ty) hT ar ap aq R Y af (BY _);have bh:=EK (ty:=ty) hT ar ap aq R Y af U;rw[Mq R]at C;exact⟨z,w',U,E,C,ao,bh⟩
    subst H;have be:=Gc R;have ck:row.2=[]:=dO be.symm;have cd:bi=[]:=dO (by rw[R.1,<-be,ACo]);subst cd;have cq:0<ys.length:=by
     cases ys with
     | nil=>simp at ay
     | cons _ _=>simp
    rw[cn];rw[ck]at af ⊢;obtain⟨z,w',U,E,C⟩:=KG (ty:=ty) hT ar ap aq (xs:=([]:List e.den)) (a:=a0) (Mj w (own O0 σ ρ) e a0 0) Y cq af;refine⟨z,w',U,⟨E.1,E.2.imp (λh=>h) λ⟨g,cap,aj,e,_,r⟩=>⟨g,cap,aj,e,BY _,r⟩⟩,C,by simpa using Y.max,.inr λb l=>?_⟩;rcases E.2 with ⟨f,_⟩|⟨g,cap,aj,f,s,_⟩
    .rw[f]at l;simp[blk]at l
    rw[f]at l;simp[blk]at l;omega
   have aa:∀b,bk (ρ n) b↔blk o=some b\/∃(j:Nat) (u:Value),ins[j]?=some u/\blk u=some b:=λb=>by rw[M];exact A8
   have db:i<ins.length:=(ON.1 F).1;have bf:n≠d:=λp=>by rw[p,an]at I;cases I
   generalize bb:(Value.tuple (o :: ins.set i (.slice none 0 0)).toArray)=loc;have ah:DQ (DQ ρ n loc) d z n=loc:=by simp[DQ,bf]
   have ag:DQ (DQ ρ n loc) d z d=z:=BV _ _ _;have ai:∀m,m≠n->m≠d->DQ (DQ ρ n loc) d z m=ρ m:=λm f s=>by simp[DQ,f,s]
   generalize DQ (DQ ρ n loc) d z=ρ' at ah ag ai;have ae:∀(j:Nat) (u:Value),(ins.set i (.slice none 0 0))[j]?=some u->(j=i/\u=.slice none 0 0)\/(j≠i/\ins[j]?=some u):=by grind
   have aw:∀b,bk loc b->blk o=some b\/∃(j:Nat) (u:Value),j≠i/\ins[j]?=some u/\blk u=some b:=by grind [A8,blk]
   have bx:∀b,bk loc b->bk (ρ n) b:=λb l=>(aa b).2 ((aw b l).imp id λ⟨j,u,_,f,s⟩=>⟨j,u,f,s⟩);have ab:∀b,blk X=some b->bk (ρ n) b:=λb l=>(aa b).2 (.inr ⟨i,_,F,l⟩);have cz:∀b,bk z b->blk z=some b:=λb l=>by
    rcases E.2 with ⟨H,_⟩|⟨g,cap,aj,H,_⟩<;>rw[H]at l ⊢<;>exact G3.1 l
   have ct:∀b,bk z b->blk X=some b\/w.heap.size<=b:=λb l=>by grind
   have bc:∀b,bk (ρ n) b->b<w.heap.size:=λb l=>(hs.objs n _ I).block_lt l;have dc:∀b,bk loc b->blk X≠some b:=by
    intro b l H;rcases aw b l with f|⟨j,u,f,s,A⟩
    .exact D.out i b _ F H f
    exact f (D.dist j i b u _ s F A H)
   have ba:(row.2++ys).length=row.2.length+ys.length:=by simp
   let S:St:=⟨(d,.sr d e 0 (row.2.length+ys.length)) :: Bw n [] σ.env,(d,.arr el e (row.2++ys)) :: (n,.nest et el k e xs (some i)) :: Ba n [] σ.objs⟩
   have av:∀m J,lk m S.objs=some J->(m=d/\J=.arr el e (row.2++ys))\/(m=n/\m≠d/\J=.nest et el k e xs (some i))\/(m≠d/\m≠n/\∃B,lk m σ.objs=some B/\J=B.trn n []):=by
    intro m J q;simp only[S,lk]at q;split at q
    .rename_i p;cases q;exact .inl ⟨p,rfl⟩
    rename_i p;split at q
    .rename_i ak;cases q;exact .inr (.inl ⟨ak,p,rfl⟩)
    rename_i ak;rw[CW]at q;split at q
    .cases q
    simp only[GO]at q;obtain⟨B,f,rfl⟩:=q;exact .inr (.inr ⟨p,ak,B,f,rfl⟩)
   have bw:∀m,m≠d->m≠n->∀B,lk m σ.objs=some B->lk m S.objs=some (B.trn n []):=by grind [lk,CW,Ac]
   have ci:∀b,b<w.heap.size->¬own O0 σ ρ b->¬own O0 S ρ' b:=by
    intro b l L cs;rcases cs with bs|⟨m,⟨J,ch⟩,N⟩
    .exact L (.inl bs)
    rcases av m J ch with ⟨rfl,_⟩|⟨rfl,_,_⟩|⟨f,s,B,A,_⟩
    .rw[ag]at N;rcases ct b N with G|G
     .exact L (.inr ⟨n,⟨_,I⟩,ab b G⟩)
     omega
    .rw[ah]at N;exact L (.inr ⟨_,⟨_,I⟩,bx b N⟩)
    rw[ai m s f]at N;exact L (.inr ⟨m,⟨B,A⟩,N⟩)
   have cj:plc loc=o:=by rw[<-bb];rfl
   have Z:Lg (vw w O0 σ ρ) (vw w' O0 S ρ') n []:=by
    refine⟨ci,λm q _=>?_,λm q _ cg=>?_,⟨_,M⟩,?_,λb l L=>C.block b l λp=>L (.inr ⟨n,⟨_,I⟩,ab b p.symm⟩)⟩
    .obtain⟨B,f⟩:=q;by_cases bd:m=n
     .subst bd;exact⟨.nest et el k e xs (some i),by simp[S,lk,bf]⟩
     have cf:m≠d:=λp=>by rw[p,an]at f;cases f
     exact⟨_,bw m cf bd B f⟩
    .obtain⟨B,f⟩:=q;exact ai m cg (λp=>by rw[p,an]at f;cases f)
    show plc (ρ' n)=plc (ρ n);rw[ah,cj,M];rfl
   have Q:CG ⟨w,own O0 σ ρ,λ_=>False,ρ⟩ (vw w' O0 S ρ'):=⟨Z.O,λ_ h=>h.elim,λ_ h=>h.elim,Z.heap⟩;refine⟨z,w',ρ',U,hs.swap bu bv (T:=λm=>m=n) (λm q=>by obtain rfl:m=n:=q;exact⟨cc,_,I,by rw[M];exact .inr ⟨_,rfl⟩⟩) (new:=[(d,.arr el e (row.2++ys)),(n,.nest et el k e xs (some i))]) C.os C.tape C.output C.size ?_ ?_ ?_ ?_ ?_ ?_ ?_ ?_⟩
   .exact λb l L=>C.block b l λp=>L n rfl (ab b p.symm)
   .grind [lk]
   .grind [lk]
   .grind [lk]
   .grind [lk]
   .grind [bk,lk]
   .intro m J q;rcases av m J q with ⟨rfl,rfl⟩|⟨rfl,_,rfl⟩|⟨f,s,B,A,rfl⟩
    .rw[ag];refine⟨by rw[ba];exact ao,_,by rw[ba];exact E,?_⟩;exact DE.keeps Q (Gd cb Y.elems R.1)
    .rw[ah];refine⟨o,ins.set i (.slice none 0 0),cells,.inl bb.symm,D.max,by rw[ABk];exact D.len,IB (λb l=>C.block b (bc b ((aa b).2 (.inl l))) λp=>D.out i b _ F p.symm l) D.own,λj cw u f s=>?_,?_,?_⟩
     .rcases ae j u s with ⟨rfl,rfl⟩|⟨A,G⟩
      .rw[az]at f;cases f;exact⟨c1,_,bz,Bl.mono Q.O Q.heap cl,.inl ⟨by simp,rfl⟩⟩
      obtain⟨c2,bo,g1,bp,al⟩:=D.row j cw u f G;rcases al with ⟨al,_⟩|⟨_,bq,br⟩
      .cases al
      refine⟨c2,bo,g1,Bl.mono Q.O Q.heap bp,.inr ⟨AAI.2 (λp=>A (by injection p with p;exact p.symm)),bq,?_⟩⟩;exact Lf.keeps (V:=⟨w,own O0 σ ρ,λ_=>False,ρ⟩) Q (λb l=>C.block b (bc b ((aa b).2 (.inr ⟨j,u,G,l⟩))) λp=>A (D.dist j i b u _ G F l p.symm)) br
     .intro bj bl b bm bn f s A G;rcases ae bj bm f with ⟨_,rfl⟩|⟨_,am⟩
      .simp[blk]at A
      rcases ae bl bn s with ⟨_,rfl⟩|⟨_,bt⟩
      .simp[blk]at G
      exact D.dist bj bl b bm bn am bt A G
     intro j b u f s;rcases ae j u f with ⟨_,rfl⟩|⟨_,am⟩
     .simp[blk]at s
     exact D.out j b u am s
    rw[ai m s f];refine Ps Z (λb l=>C.block b ((hs.objs m B A).block_lt l) λp=>s (hs.dist m n b ⟨_,A⟩ ⟨_,I⟩ l (ab b p.symm))) (hs.objs m B A)
   intro s2 bo W;rw[Gb a d z s2 (by rw[hs.nt];exact ca)];simp only[S,lk]at W;split at W
   .rename_i es;cases W;rw[At es];refine⟨⟨.arr el e (row.2++ys),by simp[S,lk]⟩,?_⟩;show CV (plc (ρ' d)) e.size 0 _ z;rw[ag,Hg E];exact Fe E
   rename_i es;rw[As es];rw[E5]at W;simp only[GO]at W;obtain⟨cx,cr,rfl⟩:=W;exact Mo Z (hs.env s2 cx cr)
  cases h
end
end
section
open Go Go.RowKit
theorem Uv {w:World} {et:TypeId} {sz len g m c:Nat} {cells:List Value} (h:w.ownsRow 0 et sz (.slice (some ⟨g,0,none⟩) m c) len cells) {p:Nat} (hp:p<len*sz) (v:Value) :
  ∃a:List Value,w.heap[g]?=some (.cells a.toArray et (0,0))/\p+1<=a.length/\(w.setRow g (A2 a p [v]).toArray).ownsRow 0 et sz (.slice (some ⟨g,0,none⟩) m c) len (cells.set p v):=by
 obtain⟨t,l⟩:=h;rcases l with ⟨d,_⟩|⟨y,cap,a,d,z,i,e,o,f,u⟩
 .cases d
 injection d with b q r
 injection b with b
 injection b with b
 subst b;have A:len*sz<=cap*sz:=p8 _ e;have B:a.toList.length=cap*sz:=by rw[<-f];simp
 have n:p + [v].length<=a.toList.length:=by simp only[AAe];omega
 have s:w.heap[g]?=some (.cells a.toList.toArray et (0,0)):=by simpa using i
 have k:A2 a.toList p [v]=a.toList.set p v:=by
  apply ABY;intro j;simp only[A2,oN,AAw,OS,AA3,AAy,AAe,AB4];have x:min p a.toList.length=p:=by omega
  simp only[x];by_cases c1:j<p
  .grind
  grind
 refine⟨a.toList,s,by simpa using n,?_,.inr ⟨g,cap,_,by rw[q,r],BY _,setRow_heap w g _ _ et _ i,e,o,?_,?_⟩⟩
 .rw[ABk];exact t
 .rw[k];simp[f]
 rw[k,<-u];simp[List.take_set]
section
variable {P:Program} {tb:Tb} {w0:World} {K O0:Nat->Prop} {nt:Nat} {ds:Fp} {σ σ':St} {ρ:Nat->Value} {a:Act} {w:World} {vc:Prop}
theorem kQ (hs:Bx w0 K O0 nt ds σ ρ a w) (bo:∀b,K b->b<w0.heap.size) (bp:∀b,O0 b->b<w0.heap.size) (hT:DG P tb) {id:TypeId} {ti:TI} (cj:lk id tb.ty=some ti) {x y:Operand} {n m i hi:Nat} {k e:Ty} (ck:ti.ty=.slice e) {cu:List Nat}
  (cl:Ae σ x=some (.ep n (.agg (.prod k (.slice e))) i cu k.size)) (cp:Ae σ y=some (.sr m e 0 hi)) {et D:TypeId} {xs:List (k.den×List e.den)} {ys:List e.den} (B:lk n σ.objs=some (.nest et D k e xs (some i))) (I:lk m σ.objs=some (.arr D e ys))
  (bw:EV n=false) (db:EV m=false) (df:hi=ys.length) :
  ∃w' ρ',(Instr.storeAt id (a.eval x) (a.eval y)).run P w=.ok () w'/\Bx w0 K O0 nt ds ⟨Bw n [m] σ.env,(n,.nest et D k e (xs.set i ((xs.getD i (k.dflt,[])).1,ys)) none) :: Ba n [m] σ.objs⟩ ρ' a w':=by
 have av:EI (vw w O0 σ ρ) σ a.eval:=Ck hs.env;have ce:m≠n:=λf=>by rw[f,B]at I;cases I
 obtain⟨cz,g,bg,c,an,cb,cn⟩:=av x _ cl;obtain⟨da,bj,ct,bl,Q,_,dd,cw,cx,dg,_,ag,_⟩:=av y _ cp;obtain⟨o,ins,cells,bb,v⟩:=hs.objs n _ B;have aq:Lf (vw w O0 σ ρ) D e ys (ρ m):=hs.objs m _ I;have ay:=hs.objs m _ I;have Q:plc (ρ m)=.slice bj ct bl:=Q;rw[Pp ay]at Q;have cs:a.eval y=ρ m:=by
  obtain⟨rfl,rfl⟩:=ag rfl;obtain⟨_,dh,de,_⟩:=aq;grind [Gc]
 have an:plc (ρ n)=.slice (some ⟨g,0,none⟩) bg c:=an;have cf:o=.slice (some ⟨g,0,none⟩) bg c:=by rw[<-bb.plc];exact an
 subst cf;have cd:=Gc v.own;subst cd;have N:i<xs.length:=cb;have al:i<ins.length:=by rw[v.len];exact N
 have ab:ρ n=.tuple ((.slice (some ⟨g,0,none⟩) xs.length c) :: ins).toArray:=bb.resolve_right λh=>by rw[h.2.2]at al;simp at al
 have hp:i*(k.size+1)+k.size<xs.length*(k.size+1):=by
  have:(i+1)*(k.size+1)<=xs.length*(k.size+1):=p8 _ N;rw[AAV]at this;omega
 obtain⟨R,bx,bt,Z⟩:=Uv v.own hp (ρ m);have ch:(ρ m).oneCell'=true:=by rw[Q];rfl
 have X:(a.eval y).cells=#[ρ m]:=by rw[cs,Q];rfl
 have ba:=KJ (P:=P) (xv:=a.eval y) (hT _ _ cj) bx (off:=i*(k.size+1)+k.size) (by rw[X,ck];rfl) (by rw[X];simpa using bt) (by rw[X];intro u bd;simp at bd;subst bd;exact ch);rw[X]at ba;refine⟨_,DQ ρ n (.tuple ((.slice (some ⟨g,0,none⟩) xs.length c) :: ins.set i (ρ m)).toArray),by rw[cn];exact ba,?_⟩;have G:=FN w g (A2 R (i*(k.size+1)+k.size) [ρ m]).toArray;change Bx w0 K O0 nt ds _ _ a (w.setRow g (A2 R (i*(k.size+1)+k.size) [ρ m]).toArray);have Z:(w.setRow g (A2 R (i*(k.size+1)+k.size) [ρ m]).toArray).ownsRow 0 et (k.size+1) (.slice (some ⟨g,0,none⟩) xs.length c) xs.length (cells.set (i*(k.size+1)+k.size) (ρ m)):=Z;generalize w.setRow g (A2 R (i*(k.size+1)+k.size) [ρ m]).toArray=w' at G Z;generalize ax:(Value.tuple ((.slice (some ⟨g,0,none⟩) xs.length c) :: ins.set i (ρ m)).toArray)=loc;have ad:DQ ρ n loc n=loc:=BV _ _ _;have ae:∀j,j≠n->DQ ρ n loc j=ρ j:=λj d=>by simp[DQ,d]
 generalize DQ ρ n loc=ρ' at ad ae;have au:∀b,bk (ρ n) b↔blk (.slice (some ⟨g,0,none⟩) xs.length c)=some b\/∃(j:Nat) (u:Value),ins[j]?=some u/\blk u=some b:=λb=>by rw[ab];exact A8
 have aa:∀(j:Nat) (u:Value),(ins.set i (ρ m))[j]?=some u->(j=i/\u=ρ m)\/(j≠i/\ins[j]?=some u):=by grind
 have ai:∀b,blk (ρ m)=some b->bk (ρ m) b:=λb l=>.inl l;have br:∀b,bk loc b->bk (ρ n) b\/blk (ρ m)=some b:=by grind [A8]
 have bu:∀b,bk (ρ n) b->blk (ρ m)=some b->False:=λb d t=>ce (hs.dist m n b ⟨_,I⟩ ⟨_,B⟩ (ai b t) d);have aj:bk (ρ n) g:=(au g).2 (.inl rfl);have ca:∀b,bk (ρ n) b->b<w.heap.size:=λb l=>(hs.objs n _ B).block_lt l;have cc:∀b,blk (ρ m)=some b->b<w.heap.size:=λb l=>ay.block_lt (ai b l)
 let S:St:=⟨Bw n [m] σ.env,(n,.nest et D k e (xs.set i ((xs.getD i (k.dflt,[])).1,ys)) none) :: Ba n [m] σ.objs⟩
 have ar:∀j E,lk j S.objs=some E->(j=n/\E=.nest et D k e (xs.set i ((xs.getD i (k.dflt,[])).1,ys)) none)\/(j≠n/\j≠m/\∃s,lk j σ.objs=some s/\E=s.trn n [m]):=by
  intro j E r;simp only[S,lk]at r;split at r
  .grind
  rename_i f;rw[CW]at r;split at r
  .cases r
  rename_i cy;simp only[GO]at r;grind [Ac]
 have bq:∀j,j≠n->j≠m->∀s,lk j σ.objs=some s->lk j S.objs=some (s.trn n [m]):=by grind [lk,CW,Ac]
 have ci:∀b,b<w.heap.size->¬own O0 σ ρ b->¬own O0 S ρ' b:=by
  intro b l J cr;rcases cr with ag|⟨j,⟨E,cg⟩,W⟩
  .exact J (.inl ag)
  rcases ar j E cg with ⟨rfl,_⟩|⟨d,t,s,p,_⟩
  .rw[ad]at W;rcases br b W with A|A
   .exact J (.inr ⟨_,⟨_,B⟩,A⟩)
   exact J (.inr ⟨m,⟨_,I⟩,ai b A⟩)
  rw[ae j d]at W;exact J (.inr ⟨j,⟨s,p⟩,W⟩)
 have U:Lg (vw w O0 σ ρ) (vw w' O0 S ρ') n [m]:=by
  refine⟨ci,λj r bz=>?_,λj _ _ am=>ae j am,⟨_,ab⟩,?_,λb l J=>G.block b l λf=>?_⟩
  .obtain⟨s,d⟩:=r;by_cases aw:j=n
   .exact⟨.nest et D k e (xs.set i ((xs.getD i (k.dflt,[])).1,ys)) none,by simp[S,lk,aw]⟩
   exact⟨_,bq j aw (λf=>by simp[Ac,f]at bz) s d⟩
  .show plc (ρ' n)=plc (ρ n);rw[ad,<-ax,ab];rfl
  injection f with f
  subst f;exact J (.inr ⟨n,⟨_,B⟩,aj⟩)
 have H:CG ⟨w,own O0 σ ρ,λ_=>False,ρ⟩ (vw w' O0 S ρ'):=⟨U.O,λ_ h=>h.elim,λ_ h=>h.elim,U.heap⟩;have ak:∀b,b<w.heap.size->b≠g->w'.heap[b]?=w.heap[b]?:=λb d t=>G.block b d λf=>t (by injection f);refine hs.swap bo bp (T:=λj=>j=n\/j=m) (dst:=none) (u:=undef) (λj r=>?_) (new:=[(n,.nest et D k e (xs.set i ((xs.getD i (k.dflt,[])).1,ys)) none)]) G.os G.tape G.output G.size ?_ ?_ ?_ ?_ ?_ ?_ ?_ ?_
 .rcases r with rfl|rfl
  .exact⟨bw,_,B,by rw[ab];exact .inr ⟨_,rfl⟩⟩
  grind [WX]
 .grind
 .grind [lk]
 .grind [lk]
 .grind [lk]
 .grind [lk]
 .grind [lk]
 .intro j E r;rcases ar j E r with ⟨rfl,rfl⟩|⟨d,t,s,p,rfl⟩
  .rw[ad];have bs:cells.length=xs.length*(k.size+1):=v.own.1;refine⟨_,ins.set i (ρ m),cells.set (i*(k.size+1)+k.size) (ρ m),.inl ax.symm,by rw[ABk];exact v.max,by rw[ABk,ABk];exact v.len,by rw[ABk];exact Z,λj ap u d t=>?_,?_,?_⟩
   .have bv:∀(c2:List Value) (F:Value),j≠i->c2.length=k.size->(∀(q:Nat) (z:Value),(c2++[F])[q]?=some z->cells[j*(k.size+1)+q]?=some z)->∀(q:Nat) (z:Value),(c2++[F])[q]?=some z->(cells.set (i*(k.size+1)+k.size) (ρ m))[j*(k.size+1)+q]?=some z:=by
     intro c2 F dc Y g1 q z C;have ao:=(ON.1 C).1;simp only[YT,AAe,Y]at ao;have am:i*(k.size+1)+k.size≠j*(k.size+1)+q:=by
      intro f;rcases Nat.lt_or_ge i j with p|p
      .have:(i+1)*(k.size+1)<=j*(k.size+1):=p8 _ p;rw[AAV]at this;omega
      have:(j+1)*(k.size+1)<=i*(k.size+1):=p8 _ oa;rw[AAV]at this;omega
     rw[AB4,As am];exact g1 q z C
    rcases aa j u t with ⟨rfl,rfl⟩|⟨p,A⟩
    .have co:xs[j]?=some (xs.getD j (k.dflt,[])):=by
      rw[DO N,AS,DO N];rfl
     obtain⟨c2,F,g1,L,_⟩:=v.row j _ ins[j] co (DO al);have cm:ap=((xs.getD j (k.dflt,[])).1,ys):=by
      rw[List.getElem?_set_self N]at d;exact(Option.some.inj d).symm
     subst cm;have Y:c2.length=k.size:=L.length;refine⟨c2,ρ m,λq z C=>?_,Bl.mono H.O H.heap L,.inr ⟨rfl,.inl rfl,?_⟩⟩
     .have ao:=(ON.1 C).1;simp only[YT,AAe,Y]at ao;rw[AB4];by_cases az:q=k.size
      .rw[az,At rfl,At (by rw[bs];exact hp)];rw[az,<-Y,AAq (If _),ABy]at C;exact C
      rw[As oa];refine g1 q z ?_;rw[AA5 oa]at C ⊢;exact C
     exact Lf.keeps (V:=⟨w,own O0 σ ρ,λ_=>False,ρ⟩) H (λb l=>ak b (cc b l) λf=>bu b (by rw[f];exact aj) l) aq
    have d:xs[j]?=some ap:=by
     rw[AB4,As (λf=>p f.symm)]at d;exact d
    obtain⟨c2,F,g1,L,af⟩:=v.row j ap u d A;rcases af with ⟨af,_⟩|⟨_,bm,bn⟩
    .exact absurd (by simpa using af) (λf:i=j=>p f.symm)
    refine⟨c2,F,bv c2 F p L.length g1,Bl.mono H.O H.heap L,.inr ⟨rfl,bm,?_⟩⟩;exact Lf.keeps (V:=⟨w,own O0 σ ρ,λ_=>False,ρ⟩) H (λb l=>ak b (ca b ((au b).2 (.inr ⟨j,u,A,l⟩))) λf=>v.out j b u A l (by rw[f];rfl)) bn
   .intro be bf b bh bi d t p A;rcases aa be bh d with ⟨M,rfl⟩|⟨_,M⟩<;>rcases aa bf bi t with ⟨ah,rfl⟩|⟨_,ah⟩
    .rw[M,ah]
    .grind
    .grind
    exact v.dist be bf b bh bi M ah p A
   intro j b u d t p;rcases aa j u d with ⟨_,rfl⟩|⟨_,M⟩
   .grind
   exact v.out j b u M t p
  rw[ae j d];refine Ps U (λb l=>ak b ((hs.objs j s p).block_lt l) λf=>d (hs.dist j n b ⟨_,p⟩ ⟨_,B⟩ l (by rw[f];exact aj))) (hs.objs j s p)
 intro s2 F bc;simp only[E5,GO]at bc;obtain⟨cv,cq,rfl⟩:=bc;exact Mo U (hs.env s2 cv cq)
end
end
section
open Go Go.RowKit
section
variable {P:Program} {tb:Tb} {w0:World} {K O0:Nat->Prop} {nt:Nat} {ds:Fp} {σ σ':St} {ρ:Nat->Value} {a:Act} {w:World} {vc:Prop}
theorem Bx.swap1 (h:Bx w0 K O0 nt ds σ ρ a w) (N:∀b,K b->b<w0.heap.size) (O:∀b,O0 b->b<w0.heap.size) {tl:List Nat} (hT:∀n,n∈tl->EV n=false/\∃o,lk n σ.objs=some o/\seat (ρ n))
  {e:Nat} (ai:e∈tl\/lk e σ.objs=none) {k:Obj} {loc:Value} {w':World}
  (Y:w'.os=w.os) (ad:w'.tape=w.tape) (Z:w'.output=w.output) (aa:w.heap.size<=w'.heap.size)
  (D:∀b,b<w.heap.size->(∀n,n∈tl->¬bk (ρ n) b)->w'.heap[b]?=w.heap[b]?)
  (V:∀b,bk loc b->(∃m,m∈tl/\bk (ρ m) b)\/w.heap.size<=b)
  (X:∀V':Vw,V'.w=w'->CG ⟨w,own O0 σ ρ,λ_=>False,ρ⟩ V'->Av V' k loc)
  {d:Nat} (R:d<nt) {v:AV} {u:Value} (Q:∀V':Vw,V'.L e->V'.ρ e=loc->Bn V' v u) :
  Bx w0 K O0 nt ds ⟨(d,v) :: CT tl σ.env,(e,k) :: BC tl tl σ.objs⟩ (DQ ρ e loc) (a.put (some d) u) w':=by
 let S:St:=⟨(d,v) :: CT tl σ.env,(e,k) :: BC tl tl σ.objs⟩
 have F:∀m o,lk m S.objs=some o->(m=e/\o=k)\/(m≠e/\m∉tl/\∃c,lk m σ.objs=some c/\o=c.fgt tl):=by
  intro m o f;simp only[S,lk]at f;split at f
  .grind
  rename_i ag;rw[CM]at f;split at f
  .cases f
  rename_i ah;simp only[GO]at f;grind [Ah]
 have P:∀m,m≠e->m∉tl->∀c,lk m σ.objs=some c->lk m S.objs=some (c.fgt tl):=by grind [lk,CM,Ah]
 have I:∀m,m∉tl->(∃o,lk m σ.objs=some o)->m≠e:=by grind
 have A:DQ ρ e loc e=loc:=BV _ _ _;have B:∀m,m≠e->DQ ρ e loc m=ρ m:=λm g=>by simp[DQ,g]
 generalize DQ ρ e loc=ρ' at A B;have J:∀b,b<w.heap.size->¬own O0 σ ρ b->¬own O0 S ρ' b:=by
  intro b p q af;rcases af with M|⟨m,⟨o,W⟩,r⟩
  .exact q (.inl M)
  rcases F m o W with ⟨rfl,_⟩|⟨g,j,c,i,_⟩
  .rw[A]at r;rcases V b r with ⟨t,ab,E⟩|E
   .obtain⟨_,c,l,_⟩:=hT t ab;exact q (.inr ⟨t,⟨c,l⟩,E⟩)
   omega
  rw[B m g]at r;exact q (.inr ⟨m,⟨c,i⟩,r⟩)
 have G:∀b,b<w.heap.size->¬own O0 σ ρ b->w'.heap[b]?=w.heap[b]?:=λb p q=>D b p λn z C=>by
  obtain⟨_,c,l,_⟩:=hT n z;exact q (.inr ⟨n,⟨c,l⟩,C⟩)
 have U:CG ⟨w,own O0 σ ρ,λ_=>False,ρ⟩ (vw w' O0 S ρ'):=⟨J,λ_ h=>h.elim,λ_ h=>h.elim,G⟩;have H:CG ((vw w O0 σ ρ).buts tl) (vw w' O0 S ρ'):=by
  refine⟨J,λm f=>?_,λm f=>?_,G⟩
  .obtain⟨⟨c,g⟩,j⟩:=f;have i:m∉tl:=λh=>by rw[(Ah _ _).2 h]at j;cases j
   exact⟨_,P m (I m i ⟨c,g⟩) i c g⟩
  obtain⟨⟨c,g⟩,j⟩:=f;have i:m∉tl:=λh=>by rw[(Ah _ _).2 h]at j;cases j
  exact B m (I m i ⟨c,g⟩)
 refine h.swap N O (T:=λm=>m∈tl) hT (new:=[(e,k)]) Y ad Z aa D ?_ ?_ ?_ ?_ ?_ ?_ ?_
 .grind [lk]
 .grind [lk]
 .grind [lk]
 .grind [lk]
 .grind [lk]
 .intro m o f;rcases F m o f with ⟨rfl,rfl⟩|⟨g,j,c,i,rfl⟩
  .rw[A];exact X _ rfl U
  rw[B m g];refine Us H (λb p=>D b ((h.objs m c i).block_lt p) λn z C=>?_) (h.objs m c i);obtain⟨_,aj,l,_⟩:=hT n z;exact j ((h.dist m n b ⟨_,i⟩ ⟨_,l⟩ p C)▸z)
 intro s x hs;rw[Gb a d u s (by rw[h.nt];exact R)];simp only[S,lk]at hs;split at hs
 .rename_i es;cases hs;rw[At es];exact Q _ ⟨k,by simp[S,lk]⟩ A
 rename_i es;rw[As es];rw[EJ]at hs;simp only[GO]at hs;obtain⟨y,ae,rfl⟩:=hs;exact(Pr (h.env s y ae)).keeps H
theorem Uc.move {V:Vw} {a:TypeId} {k e:Ty} {hole:Bool} {cells cells':List Value} {i i':Nat} {x:k.den×List e.den} {u:Value} (h:Uc V a k e hole cells i x u)
  (d:∀(j:Nat) (z:Value),cells[i*(k.size+1)+j]?=some z->cells'[i'*(k.size+1)+j]?=some z):Uc V a k e hole cells' i' x u :=
 let ⟨c1,v,b,c⟩:=h
 ⟨c1,v,λj z f=>d j z (b j z f),c⟩
theorem S3 {V V':Vw} {et H C:TypeId} {k e:Ty} {xs ys:List (k.den×List e.den)} {o G z:Value} {ins g cells p:List Value} (d:Jo V et C k e xs none o ins cells) (r:Jo V H C k e ys none G g p)
  (t:∀b,bk (.tuple (o :: ins).toArray) b->bk (.tuple (G :: g).toArray) b->False)
  (N:V'.w.ownsRow 0 et (k.size+1) z (xs.length+ys.length) (cells++p)) (P:blk z=blk o\/∀b,blk z=some b->V.w.heap.size<=b)
  (D:∀b,b<V.w.heap.size->blk o≠some b->V'.w.heap[b]?=V.w.heap[b]?) (E:CG ⟨V.w,V.O,λ_=>False,V.ρ⟩ V') (L:xs.length+ys.length<=AN) :
  Jo V' et C k e (xs++ys) none z (ins++g) (cells++p):=by
 have I:cells.length=xs.length*(k.size+1):=d.own.1;have J:∀(i b:Nat) (u:Value),ins[i]?=some u->blk u=some b->b<V.w.heap.size:=λi b u hi c=>d.block_lt (A8.2 (.inr ⟨i,u,hi,c⟩));have K:∀(i b:Nat) (u:Value),g[i]?=some u->blk u=some b->b<V.w.heap.size:=λi b u hi c=>r.block_lt (A8.2 (.inr ⟨i,u,hi,c⟩));have F:∀(i b:Nat) (u:Value),g[i]?=some u->blk u=some b->blk o≠some b:=λi b u hi c M=>t b (A8.2 (.inl M)) (A8.2 (.inr ⟨i,u,hi,c⟩));have B:∀(i:Nat) (u:Value),(ins++g)[i]?=some u->(i<xs.length/\ins[i]?=some u)\/(xs.length<=i/\g[i-xs.length]?=some u):=by
  intro i u hi;rw[AAw]at hi;split at hi
  .rename_i h;rw[d.len]at h;exact .inl ⟨h,hi⟩
  rename_i h;rw[d.len]at h hi;exact .inr ⟨by omega,hi⟩
 have Q:∀b,blk z=some b->(∃(i:Nat) (u:Value),ins[i]?=some u/\blk u=some b)\/(∃(i:Nat) (u:Value),g[i]?=some u/\blk u=some b)->False:=by
  intro b c hi;rcases P with f|f
  .rw[f]at c;rcases hi with ⟨i,u,a,l⟩|⟨i,u,a,l⟩
   .exact d.out i b u a l c
   exact F i b u a l c
  grind
 refine⟨by rw[YT];exact L,by rw[YT,YT,d.len,r.len],by rw[YT];exact N,λi x u n m=>?_,λi j b u v hi y m s=>?_,λi b u hi c R=>?_⟩
 .rcases B i u m with ⟨f,a⟩|⟨f,a⟩
  .have n:xs[i]?=some x:=by rwa [AA5 f]at n
   have A:=(d.row i x u n a).move (cells':=cells++p) (i':=i) λj z y=>by grind
   exact Uc.keeps (V:=⟨V.w,V.O,λ_=>False,V.ρ⟩) E (λb c=>D b (J i b u a c) (d.out i b u a c)) A
  have n:ys[i-xs.length]?=some x:=by rwa [AAq f]at n
  have A:=(r.row _ x u n a).move (cells':=cells++p) (i':=i) λj z y=>by
   have l:i*(k.size+1)=cells.length+(i-xs.length)*(k.size+1):=by
    rw[I,<-ACM];congr 1;omega
   grind
  exact Uc.keeps (V:=⟨V.w,V.O,λ_=>False,V.ρ⟩) E (λb c=>D b (K _ b u a c) (F _ b u a c)) A
 .rcases B i u hi with ⟨f,a⟩|⟨f,a⟩<;>rcases B j v y with ⟨l,q⟩|⟨l,q⟩
  .exact d.dist i j b u v a q m s
  .exact(t b (A8.2 (.inr ⟨i,u,a,m⟩)) (A8.2 (.inr ⟨_,v,q,s⟩))).elim
  .exact(t b (A8.2 (.inr ⟨j,v,q,s⟩)) (A8.2 (.inr ⟨_,u,a,m⟩))).elim
  have:=r.dist _ _ b u v a q m s;omega
 grind
theorem kR (V:Vw) (et a:TypeId) (k e:Ty):Jo V et a k e [] none (.slice none 0 0) [] [] :=
 ⟨by simp[AN],rfl,AB5 V.w 0 et _,λi x u h=>by simp at h,λi j b u v h=>by simp at h,λi b u h=>by simp at h⟩
theorem KK {w:World} {base:Nat} {et:TypeId} {sz b n:Nat} {loc v:Value} {cells:List Value} (g:w.ownsRow base et sz loc n cells) (h:CV loc b 0 n v):v=loc:=by
 obtain⟨a,m,c,rfl,_,_,d,e,rfl,_,f,_⟩:=h;grind [Gc]
theorem rI {w:World} {O:Nat->Prop} {et:TypeId} {e:Ty} {xs:List e.den} {loc:Value} {cells:List Value} (d:xs.length<=AN) (a:w.ownsRow 0 et e.size loc xs.length cells) (c:DE w O e cells xs):qB w O e loc xs cells:=by
 refine⟨?_,a.1,c,Sv (V:=⟨w,O,λ_=>False,λ_=>undef⟩) a c,d⟩;rcases a.2 with ⟨b,h⟩|⟨g,cap,f,b,_⟩
 .grind
 subst b;exact⟨some ⟨g,0,none⟩,cap,rfl,.inr ⟨_,rfl,a.cells (g:=g) rfl⟩⟩
theorem Mr {V:Vw} {et a:TypeId} {k e:Ty} {xs:List (k.den×List e.den)} {o:Value} {ins cells:List Value} (h:Jo V et a k e xs none o ins cells):qB V.w (λ_=>False) (.agg (.prod k (.slice e))) o xs cells :=
 rI (e:=.agg (.prod k (.slice e))) (xs:=xs) h.max h.own (L6 (λ_ _ h=>h) h λ_ _ _ _ _ h=>h)
theorem Nz {V:Vw} {et c:TypeId} {k e:Ty} {xs:List (k.den×List e.den)} {a:Option Nat} {loc:Value} (b:Av V (.nest et c k e xs a) loc):seat loc:=by
 obtain⟨o,ins,cells,a,_⟩:=b;exact a.elim (λh=>.inr ⟨_,h⟩) (λh=>.inl ⟨_,_,_,h.1⟩)
theorem kS (hs:Bx w0 K O0 nt ds σ ρ a w) (W:∀b,K b->b<w0.heap.size) (Y:∀b,O0 b->b<w0.heap.size) (hT:DG P tb) {d:Nat} (Z:d<nt) {t ty:TypeId} {x y:Operand} {n m hi D:Nat} {E B:Ty} {k e:Ty}
  (f:Ae σ x=some (.sr n E 0 hi)) (g:Ae σ y=some (.sr m B 0 D)) {et U A:TypeId} {xs ys:List (k.den×List e.den)} (G:lk n σ.objs=some (.nest et A k e xs none)) (F:lk m σ.objs=some (.nest U A k e ys none)) (ae:n≠m)
  (al:EV n=false) (ak:EV m=false) (O:P.underlying t=some (.slice et)) {te:TI} (M:lk et tb.ty=some te) (N:te.ty=.agg (.prod k (.slice e))) (ag:hi=xs.length) (ah:D=ys.length) (Q:(xs.length+ys.length)*te.bytes<=AN) :
  ∃z w' ρ',(Builtin.append_ #[t,t] ty #[a.eval x,a.eval y]).run P w=.ok z w' /\
   Bx w0 K O0 nt ds ⟨(d,.sr n (.agg (.prod k (.slice e))) 0 (xs.length+ys.length)) :: CT [n,m] σ.env,(n,.nest et A k e (xs++ys) none) :: BC [n,m] [n,m] σ.objs⟩ ρ' (a.put (some d) z) w':=by
 subst ag ah;have C:EI (vw w O0 σ ρ) σ a.eval:=Ck hs.env;have H:=hs.objs n _ G;have I:=hs.objs m _ F;have an:=Nz H;have ao:=Nz I;obtain⟨o,ins,cells,q,p⟩:=H;obtain⟨ap,S,T,v,r⟩:=I;obtain⟨_,f⟩:=C x _ f;obtain⟨_,g⟩:=C y _ g;have f:CV (plc (ρ n)) E.size 0 xs.length (a.eval x):=f;have g:CV (plc (ρ m)) B.size 0 ys.length (a.eval y):=g;rw[q.plc]at f;rw[v.plc]at g;have f:=KK p.own f;have g:=KK r.own g;rw[f,g];obtain⟨z,w',L,J,h,ab⟩:=EA (ty:=ty) hT O M N p.own (Mr r) Q (BY _);have R:=EK (ty:=ty) hT O M N p.own (Mr r) Q L;rw[Mq p.own]at h;refine⟨z,w',_,L,hs.swap1 (loc:=.tuple (z :: (ins++S)).toArray) W Y (tl:=[n,m]) (λj am=>?_) (.inl sa) h.os h.tape h.output h.size ?_ ?_ ?_ Z ?_⟩
 .grind
 .exact λb c af=>h.block b c λs=>af n sa (q.bk.2 (A8.2 (.inl s.symm)))
 .intro b c;rcases A8.1 c with c|⟨i,u,hi,c⟩
  .rcases R with l|l
   .exact .inl ⟨n,by simp,q.bk.2 (A8.2 (.inl (by rw[<-l];exact c)))⟩
   exact .inr (l b c)
  rw[AAw]at hi;split at hi
  .exact .inl ⟨n,by simp,q.bk.2 (A8.2 (.inr ⟨_,u,hi,c⟩))⟩
  exact .inl ⟨m,by simp,v.bk.2 (A8.2 (.inr ⟨_,u,hi,c⟩))⟩
 .intro V' ai aa;subst ai;refine⟨z,ins++S,cells++T,.inl rfl,S3 p r (λb l V=>?_) J R (λb c ad=>h.block b c λs=>ad s.symm) aa ab⟩;exact ae (hs.dist n m b ⟨_,G⟩ ⟨_,F⟩ (q.bk.2 l) (v.bk.2 V))
 intro V' X aj;refine⟨X,?_⟩;show CV (plc (V'.ρ n)) _ 0 _ z;rw[aj];exact Fe J
theorem rJ (hs:Bx w0 K O0 nt ds σ ρ a w) (O:∀b,K b->b<w0.heap.size) (R:∀b,O0 b->b<w0.heap.size) (hT:DG P tb) {d:Nat} (S:d<nt) {t ty:TypeId} {x y:Operand} {m A:Nat} {r:Ty} {k e:Ty}
  (p:Ae σ x=some (.raw (.slice none 0 0))) (f:Ae σ y=some (.sr m r 0 A)) {et N q:TypeId} {ys:List (k.den×List e.den)} (V:lk m σ.objs=some (.nest N q k e ys none)) (T:lk d σ.objs=none)
  (ad:EV m=false) (H:P.underlying t=some (.slice et)) {te:TI} (F:lk et tb.ty=some te) (G:te.ty=.agg (.prod k (.slice e))) (Y:A=ys.length) (I:ys.length*te.bytes<=AN) :
  ∃z w' ρ',(Builtin.append_ #[t,t] ty #[a.eval x,a.eval y]).run P w=.ok z w' /\
   Bx w0 K O0 nt ds ⟨(d,.sr d (.agg (.prod k (.slice e))) 0 ys.length) :: CT [m] σ.env,(d,.nest et q k e ys none) :: BC [m] [m] σ.objs⟩ ρ' (a.put (some d) z) w':=by
 subst Y;have v:EI (vw w O0 σ ρ) σ a.eval:=Ck hs.env;have B:=hs.objs m _ V;have ag:=Nz B;obtain⟨ah,L,M,E,l⟩:=B;have p:a.eval x=.slice none 0 0:=v x _ p;obtain⟨_,f⟩:=v y _ f;have f:CV (plc (ρ m)) r.size 0 ys.length (a.eval y):=f;rw[E.plc]at f;have f:=KK l.own f;rw[p,f];have h:=kR (vw w O0 σ ρ) et q k e;obtain⟨z,w',D,C,g,W⟩:=EA (ty:=ty) hT H F G h.own (Mr l) (by simpa using I) (BY _);have J:=EK (ty:=ty) hT H F G h.own (Mr l) (by simpa using I) D;rw[Mq h.own]at g;refine⟨z,w',_,D,hs.swap1 (loc:=.tuple (z :: ([]++L)).toArray) O R (tl:=[m]) (λj ae=>?_) (.inr T) g.os g.tape g.output g.size ?_ ?_ ?_ S ?_⟩
 .grind
 .exact λb c af=>g.block b c λn=>by simp[blk]at n
 .intro b c;rcases A8.1 c with c|⟨i,u,hi,c⟩
  .rcases J with o|o
   .grind [blk]
   exact .inr (o b c)
  exact .inl ⟨m,by simp,E.bk.2 (A8.2 (.inr ⟨_,u,by simpa using hi,c⟩))⟩
 .intro V' Z U;subst Z;refine⟨z,[]++L,[]++M,.inl rfl,?_⟩;have:=S3 h l (λb o ab=>?_) C J (λb c X=>g.block b c λn=>X n.symm) U W
  .simpa using this
  grind [A8,blk]
 intro V' Q aa;refine⟨Q,?_⟩;show CV (plc (V'.ρ d)) _ 0 _ z;rw[aa];have s:=Fe C;simp only[AB9,AAO]at s;exact s
theorem Yl (hs:Bx w0 K O0 nt ds σ ρ a w) (B:∀b,K b->b<w0.heap.size) (C:∀b,O0 b->b<w0.heap.size) (hT:DG P tb) {d:Option Nat} (D:∀k,d=some k->k<nt) {t u ty:TypeId} {x y:Operand}
  (h:Dz tb σ d t u (Ae σ x) (Ae σ y)=some (vc,σ')) (s:vc) :
  ∃z w' ρ',(Builtin.append_ #[t,u] ty #[a.eval x,a.eval y]).run P w=.ok z w'/\Bx w0 K O0 nt ds σ' ρ' (a.put d z) w':=by
 by_cases O:∃n e hi,Ae σ x=some (.sr n e 0 hi)/\Ci (lk n σ.objs)=false
 .exact Yj hs B C hT D h s O
 unfold Dz at h;split at h
 .rename_i n e hi v l A;split at h
  .rename_i d;split at h
   .rename_i q;obtain⟨rfl,L⟩:=q;cases f:lk t tb.ty with
    | none=>rw[f]at h;simp[D7]at h
    | some ti =>
     rw[f]at h;unfold D7 at h;split at h
     .rename_i S offs el b H;cases H;split at h
      .rename_i I;subst I;obtain⟨r,Q,te,g,p⟩:=CA (hT _ _ f) hT;rw[g]at h;unfold B7 at h;split at h
       .rename_i ti et N xs j o;exact absurd ⟨n,_,hi,l,by rw[o];rfl⟩ O
       .rename_i ti et R k N xs j o;cases j;split at h
        .rename_i c;obtain⟨rfl,rfl⟩:=c;unfold Oo at h;split at h
         .rename_i m E X;unfold KA at h;split at h
          .rename_i U af ad T ys M;split at h
           .rename_i c;obtain⟨rfl,Y,J⟩:=c;cases G:BR (.slice (.agg (.prod k (.slice N)))) ⟨.slice (.agg (.prod ad (.slice T))),ys⟩ with
            | none=>rw[G]at h;simp[JB]at h
            | some ah =>
             obtain⟨g1,V⟩:=Bz G;injection g1 with g1
             injection g1 with g1 F
             injection F with F
             subst g1 F;cases V;rw[G]at h;simp only[JB]at h;cases h;obtain⟨Z,aa,ab⟩:=s;exact kS hs B C hT (D _ rfl) l A o M Y L J r g p Z aa ab
           cases h
          cases h
         cases h
        cases h
       cases h
      cases h
     cases h
   cases h
  cases h
 .rename_i n e i len v l A;split at h
  .rename_i d;split at h
   .rename_i q;subst q;cases f:lk t tb.ty with
    | none=>rw[f]at h;simp[MZ]at h
    | some ti =>
     rw[f]at h;unfold MZ at h;split at h
     .rename_i S offs el b H;cases H;split at h
      .rename_i I;subst I;obtain⟨r,Q,te,g,p⟩:=CA (hT _ _ f) hT;rw[g]at h;unfold Om at h;split at h
       .rename_i ti et R k ae xs j o;cases j;split at h
        .rename_i c;obtain⟨rfl,rfl,L⟩:=c;exact rH hs B C hT (D _ rfl) l A o L r g p h s
        cases h
       cases h
      cases h
     cases h
   cases h
  cases h
 .rename_i v l A;split at h
  .rename_i d;split at h
   .rename_i q;subst q;unfold Ub at h;split at h
    .rename_i m E X ag offs el b f;obtain⟨r,Q,te,g,p⟩:=CA (hT _ _ f) hT;rw[g]at h;unfold Mb at h;split at h
     .rename_i ti U R k e ys j M;cases j;split at h
      .rename_i c;subst c;unfold Ma at h;split at h
       .rename_i c;obtain⟨W,J⟩:=c;cases h;exact rJ hs B C hT (D _ rfl) l A M (by simpa using W) J r g p s.1 s.2
       cases h
      cases h
     cases h
    cases h
   cases h
  cases h
 cases h
theorem Ym (hs:Bx w0 K O0 nt ds σ ρ a w) (t:∀b,K b->b<w0.heap.size) (u:∀b,O0 b->b<w0.heap.size) (hT:DG P tb) {id:TypeId} {x y:Operand} (h:G1 σ (lk id tb.ty) (Ae σ x) (Ae σ y)=some (vc,σ')) (G:vc) :
  ∃w' ρ',(Instr.storeAt id (a.eval x) (a.eval y)).run P w=.ok () w'/\Bx w0 K O0 nt ds σ' ρ' a w':=by
 by_cases C:∃n e i p off,Ae σ x=some (.ep n e i p off)/\Ci (lk n σ.objs)=true
 .obtain⟨n,e,i,p,off,l,g⟩:=C;unfold G1 at h;split at h
  .grind
  .rename_i ti N I i' Q O v D o H;rw[l]at o;cases o;unfold Cq at h;split at h
   .rename_i f;rw[f]at g;cases g
   .rename_i et L k J xs j f;split at h
    .rename_i m E hi;split at h
     .rename_i c;obtain⟨rfl,rfl,s⟩:=c;subst s;unfold KB at h;split at h
      .rename_i c;obtain⟨F,rfl,rfl⟩:=c;unfold J9 at h;split at h
       .rename_i M q ys B;split at h
        .rename_i c;obtain⟨rfl,z,A⟩:=c;cases d:BR (.slice E) ⟨.slice q,ys⟩ with
         | none=>rw[d]at h;simp[JA]at h
         | some R =>
          obtain⟨g1,r⟩:=Bz d;subst g1;cases r;rw[d]at h;simp only[JA]at h;cases h;exact kQ hs t u hT D F l H f B A z G
        cases h
       cases h
      cases h
     cases h
    cases h
   cases h
  cases h
 grind [eO,Ci,lk]
end
end
end Go.Proofs.YtaoonfcjbmcmpaaGreatDoor.Fw
