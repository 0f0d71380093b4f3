/- Calls by contract; stores; appends. -/
import Derived.Test.YtglkoagnnnpimaaGreatDoorAZC
import Derived.CallsIn
import Derived.TacticsIn
import Derived.OrdersIn
import Derived.RangeFuncCalls
set_option linter.unusedVariables false
set_option linter.unusedSimpArgs false
namespace Go.Proofs.YtglkoagnnnpimaaGreatDoor.Fw
variable {t E B R p:TypeId} {x:AV} {g y:Operand} {e k:Ty} {v:Value} {Z:List Nat} {a:List Value} {Y:TI} {w W:World} {o:Oper} {X:Act} {K c:Nat->Prop} {n:Nat} {l:List AV} {V:Bool}
section
open Go Go.RowKit
abbrev ABU:=@Go.Oper.uponIn_enter
def Nm (w:World) (O:Nat->Prop):(ts:List Ty)->List Value->Iy ts->Prop
 | [],a,_=>a=[]
 | t :: ts,a,ds=>∃(v:Value) (r:List Value),a=v :: r/\BQ w O t v ds.1/\Nm w O ts r ds.2
def FR (r:Option Nat):Fence:={ fn:=λ_=>True,depth:=none,alive:=false,round:=r }
theorem G2 {r:Option Nat} {P:Program} {f:FuncId} {args:Array Value} {R:Ending->World->Prop} (h:Calls P f args w R):CallsIn (FR r) n P f args w R:=by
 cases r with
 | none=>exact callsIn_wide.2 h
 | some l=>exact((callsIn_wide.2 h:CallsIn Fence.wide n P f args w R).inRound l:CallsIn _ n P f args w R)
theorem D6 (r:Option Nat) (ρ:Operand->Value) (o:Oper) (h:∀c,o.op≠.defer c):o.semAt r ρ=execOp ρ o:=by
 cases r with
 | none=>exact Oper.semAt_none ρ o
 | some l=>exact Oper.semAt_some l ρ o h
def r9 (w:World) (O:Nat->Prop) (outs:List RV) (u:Value) (w':World):Prop :=
 ∀nm:Nat,∃ρ',QS w O ⟨[],[]⟩ (λ_=>undef) (Gx nm outs) (Cr nm outs) u ρ' w'
def gls:List (Nat×PV):=[(0,⟨.slice (.agg (.prod .str .str)),([(⟨#[104]⟩,⟨#[104,97,110,100,108,101]⟩),(⟨#[101]⟩,⟨#[101,118,101,110,116]⟩),(⟨#[120]⟩,⟨#[101,110,116,105,116,121]⟩),(⟨#[105]⟩,⟨#[105,110,100,101,120]⟩)]:List (ByteArray×ByteArray))⟩)]
def GW (w:World) (K O:Nat->Prop):Prop:=∀x∈gls,K x.1/\¬O x.1/\∃cs:List Value,(∀(j:Nat) (u:Value),cs[j]?=some u->w.cell? ⟨x.1,j,none⟩=some u)/\Bn w (λb=>¬K b\/O b) x.2.t cs x.2.d
theorem GW.mono {w':World} {O O':Nat->Prop} (h:GW w K O) (d:∀b,K b->¬O b->c b/\¬O' b) (e:∀b,K b->w'.heap[b]?=w.heap[b]?):GW w' c O':=λx q=>by
 obtain⟨h1,f,cs,g,i⟩:=h x q;obtain⟨k,l⟩:=d _ h1 f;refine⟨k,l,cs,λj u o=>?_,i.mono (λb _ hn p=>?_) λb _ hn=>e b (DO λhk=>hn (.inl hk))⟩
 .rw[ABx (w:=w) (w':=w')]
  .exact g j u o
  exact e _ h1
 have hk:K b:=DO λhk=>hn (.inl hk);have a:¬O b:=λa=>hn (.inr a);obtain⟨m,n⟩:=d b hk a;rcases p with h|h
 .exact h m
 exact n h
def A3H (P:Program) (f:FuncId) (sp:AX):Prop :=
 ∀(w:World) (O:Nat->Prop) (a:List Value) (ds:Iy sp.ins),(∀b,O b->b<w.heap.size)->GW w (λb=>b<w.heap.size) O->Nm w O sp.ins a ds->sp.pre ds ->
  Calls P f a.toArray w λe w'=>∃u,e=.returned u/\r9 w O (sp.out ds) u w'
def Ac (P:Program) (f:FuncId) (sp:AX):Prop :=
 (∃ fn : Func, P.funcs[f]? = some fn /\ (fn.name == "runtime.NumGoroutine") = false /\ fn.body.isNone = false) /\ A3H P f sp
def Hi (P:Program) (tb:Tb):Prop:=∀f sp,lk f tb.fns=some sp->Ac P f sp
theorem Nn {w w':World} {O O':Nat->Prop}:∀ {t:Ty} {cs:List Value} {d:t.den},t.flat=true->Bn w O t cs d->Bn w' O' t cs d
 | .int _,_,_,_,h=>h
 | .bool,_,_,_,h=>h
 | .str,_,_,_,h=>h
 | .ref _,_,_,_,h=>h
 | .slice _,_,_,hf,_=>by simp[Ty.flat]at hf
 | .prod a b,_,_,hf,h=>by
  simp only[Ty.flat,AT]at hf;obtain⟨c1,c2,rfl,h1,c⟩:=h;exact⟨c1,c2,rfl,Nn hf.1 h1,Nn hf.2 c⟩
 | .agg t,cs,d,hf,h=>by
  simp only[Ty.flat]at hf;have h:Bn w O t cs d:=h;exact(Nn hf h:Bn w' O' t cs d)
theorem Vp {w':World} {O O':Nat->Prop} {t:Ty} {d:t.den} (hf:t.flat=true) (h:BQ w O t v d):BQ w' O' t v d :=
 let ⟨cs,h1,a⟩:=h
 ⟨cs,Nn hf h1,a⟩
theorem QV:∀ {l:List RV} (nm:Nat),l.all RV.flat=true->Cr nm l=[]
 | [],_,_=>rfl
 | .p t d :: l,nm,h=>by
  simp only[AB5,AT]at h;simp[Cr,SQ,QV (nm+10000) h.2]
 | .own _ _ _ :: l,nm,h=>by simp[RV.flat]at h
theorem sA {r:RV} (h:r.flat=true) (nm:Nat):∃t d,dG nm r=.p t d/\t.flat=true:=by
 cases r with
 | p t d=>exact⟨t,d,rfl,h⟩
 | own _ _ _=>simp[RV.flat]at h
theorem sB {V V':Vw}:∀ {l:List RV} {nm:Nat} {a:List Value},l.all RV.flat=true->Gz V (Hg nm l) a->Gz V' (Hg nm l) a
 | [],_,_,_,h=>h
 | r :: l,nm,a,hf,h=>by
  simp only[AB5,AT]at hf;obtain⟨v,f,rfl,h1,b⟩:=h;obtain⟨t,d,e,c⟩:=sA hf.1 nm;refine⟨v,f,rfl,?_,sB hf.2 b⟩;rw[e]at h1 ⊢;exact Vp c h1
theorem sC {V V':Vw} {l:List RV} {nm:Nat} {u:Value} (hf:l.all RV.flat=true) (h:Bu V (Gx nm l) u):Bu V' (Gx nm l) u:=by
 match l,hf,h with
 | [],_,h=>exact h
 | [r],hf,h =>
  simp only[AB5,List.all_nil,Bool.and_true]at hf;obtain⟨t,d,e,a⟩:=sA hf nm;simp only[Gx]at h ⊢;rw[e]at h ⊢;exact Vp a h
 | c :: f :: l,hf,h =>
  obtain⟨b,rfl,h1⟩:=h;exact⟨b,rfl,sB hf h1⟩
section
variable {P:Program} {tb:Tb} {w:World} {O0:Nat->Prop} {σ:St} {ρ:Nat->Value} {vc:Prop} {v:AV} {obs:List (Nat×Obj)}
theorem QS.call {outs:List RV} {nm:Nat} {u:Value} {ρ':Nat->Value} {w':World} (hf:Bb (Cr nm outs) σ=true)
  (h:QS w (own O0 σ ρ) ⟨[],[]⟩ (λ_=>undef) (Gx nm outs) (Cr nm outs) u ρ' w') :
  QS w O0 σ ρ (Gx nm outs) (Cr nm outs) u (λn=>if (lk n (Cr nm outs)).isSome then ρ' n else ρ n) w':=by
 have e:∀n,GI (DX ⟨[],[]⟩ (Cr nm outs)) n↔∃o,lk n (Cr nm outs)=some o:=λn=>by simp[GI,DX]
 have hk:CZ (vw w' (own O0 σ ρ) (DX ⟨[],[]⟩ (Cr nm outs)) ρ') (vw w' O0 (DX σ (Cr nm outs)) (λn=>if (lk n (Cr nm outs)).isSome then ρ' n else ρ n)):=by
  refine⟨?_,?_,?_,λ_ _ _=>rfl⟩
  .intro b _ c d;rcases d with h0|⟨n,g,hn⟩
   .exact c (.inl (.inl h0))
   rcases KS g with ⟨o,a⟩|⟨j,i⟩
   .refine c (.inr ⟨n,(e n).2 ⟨o,a⟩,?_⟩);simpa[a] using hn
   refine c (.inl (.inr ⟨n,i,?_⟩));simpa[j] using hn
  .intro n hn;obtain⟨o,a⟩:=(e n).1 hn;exact⟨o,by simp[DX,A5,a]⟩
  intro n hn;obtain⟨o,a⟩:=(e n).1 hn;simp[vw,a]
 refine⟨h.below,λn hn=>by simp[hn],h.av.keeps hk,λn o a=>?_,λn o b a c=>?_,λn m o k b a f c d=>?_⟩
 .simp only[a,AC9,AAB];exact(h.obj n o a).keeps hk (λ_ _=>rfl)
 .simp only[a,AC9,AAB]at c;exact h.new n o b a c
 simp only[a,f,AC9,AAB]at c d;exact h.dist n m o k b a f c d
theorem Xh {V:Vw} {O':Nat->Prop} {l:Bool} (c:∀b,¬V.O b->¬O' b) (f:l=true->∀b,¬O' b) (e:∀n o,lk n σ.objs=some o->A4 V o (V.ρ n)) {ev:Operand->Value} (d:D5 V σ ev) :
  ∀ {ts:List Ty} {xs:List Operand} {ds:Iy ts},F0 l σ ts xs=some ds->Nm V.w O' ts (xs.map ev) ds
 | [],[],ds,h=>rfl
 | [],_ :: _,ds,h=>by simp[F0]at h
 | _ :: _,[],ds,h=>by simp[F0]at h
 | t :: ts,x :: xs,ds,h=>by
  simp only[F0]at h;cases a:Ab σ x with
  | none=>rw[a]at h;cases h
  | some av =>
   rw[a]at h;simp only at h;split at h
   .rename_i y ys g i;cases h;exact⟨ev x,xs.map ev,rfl,Eu c f e g (d x av a),Xh c f e d i⟩
   cases h
theorem A3I (J:Hi P tb) (y:GW w (λb=>b<w.heap.size) (own O0 σ ρ)) (A:∀n o,lk n σ.objs=some o->A4 (vw w O0 σ ρ) o (ρ n)) (O:∀b,own O0 σ ρ b->b<w.heap.size) {a:Act} (m:D5 (vw w O0 σ ρ) σ a.eval) {d:Nat} {xs:List Operand} 
  {ts:Array TypeId} (z:o.op=.call { callee:=.value g,args:=xs.toArray,argTypes:=ts })
  (h:ME tb σ d xs (Ab σ g)=some (vc,v,obs)) (C:vc) (hf:Bb obs σ=true) {next:Act->World->Prop} {Q:Exit->Act->World->Prop} {r:Option Nat}
  (hn:∀u ρ' w',QS w O0 σ ρ v obs u ρ' w'->next (a.put o.dst u) w'):o.wpIn (FR r) 0 P a w next Q:=by
 cases p:Ab σ g with
 | none=>rw[p]at h;simp[ME]at h
 | some D =>
  rw[p]at h;have L:=m g D p;unfold ME at h;split at h
  .rename_i f H;cases H;have K:a.eval g=.func (.func f) #[] #[]:=L;cases t:lk f tb.fns with
   | none=>rw[t]at h;simp[I8]at h
   | some sp =>
    rw[t]at h;simp only[I8]at h;cases i:F0 sp.lend σ sp.ins xs with
    | none=>rw[i]at h;simp[KI]at h
    | some ds =>
     rw[i]at h;simp only[KI]at h;split at h
     .rename_i j;cases h;obtain⟨⟨fn,I,N,G⟩,B⟩:=J f sp t;have R:(execOp a.eval o).run P w=.ok (.enter f (xs.map a.eval).toArray) w:=by
       have h1 : ¬ fn.name = "runtime.NumGoroutine" := by simpa using N
       have E:¬fn.body=none:=by intro e;simp[e]at G
       simp[execOp,z,resolve,Deferred.ofValue,K,invoke,callFunc,I,h1,E]
      refine⟨λ_ _=>trivial,?_⟩;rw[D6 _ _ _ (λc e=>by rw[z]at e;cases e),R,ABU];refine⟨λh=>(by simp[FR]at h),G2 ?_⟩;by_cases q:sp.lend=true
      .rw[q]at i;have x:(sp.out ds).all RV.flat=true:=by
        rcases j with j|j
        .rw[q]at j;cases j
        exact j
       have l:=Xh (V:=vw w O0 σ ρ) (O':=λ_=>False) (λ_ _ h=>h) (λ_ _ h=>h) A m i;refine(B w (λ_=>False) _ ds (λ_ h=>h.elim) (y.mono (λb F _=>⟨F,id⟩) λ_ _=>rfl) l C).mono λe w' hh=>?_;obtain⟨u,rfl,s⟩:=hh;obtain⟨ρ',k⟩:=s d;refine hn u ρ w' ?_;rw[QV d x]at k ⊢;exact⟨k.below,λ_ _=>rfl,sC x k.av,(λ_ _ h=>by cases h),(λ_ _ _ h=>by cases h),(λ_ _ _ _ _ h=>by cases h)⟩
      have M:sp.lend=false:=by simpa using q
      rw[M]at i;have l:=Xh (V:=vw w O0 σ ρ) (O':=own O0 σ ρ) (λ_ h=>h) (λh=>by cases h) A m i;refine(B w (own O0 σ ρ) _ ds O y l C).mono λe w' hh=>?_;obtain⟨u,rfl,s⟩:=hh;obtain⟨ρ',k⟩:=s d;exact hn u _ w' (QS.call hf k)
     cases h
  cases h
end
end
section
open Go Go.RowKit
section
variable {P:Program} {tb:Tb} {w:World} {O0:Nat->Prop} {σ:St} {ρ:Nat->Value} {vc:Prop} {v:AV} {obs:List (Nat×Obj)}
theorem AZ {a:Act} {u:Value} {w':World} {next:Act->World->Prop} {Q:Exit->Act->World->Prop} {r:Option Nat} (h:(execOp a.eval o).run P w=.ok (.value u) w') (hn:next (a.put o.dst u) w') (b:∀c,o.op≠.defer c:=by intro c e;cases e):o.wpIn (FR r) 0 P a w next Q:=by
 refine⟨λ_ _=>trivial,?_⟩;rw[D6 _ _ _ b,h];exact hn
theorem sD {V:Vw} (x:Value):Bu V (Hf x) x:=by
 unfold Hf;split
 .rename_i k n;split
  .rename_i h;exact BP h
  exact(rfl:(Value.int k n)=_)
 .exact Bg _
 .rename_i s;split
  .rename_i h;exact Sb h
  exact(rfl:(Value.string s)=_)
 exact(rfl:x=x)
theorem CN {V:Vw} {a:Act} (h:∀s v,lk s σ.env=some v->Bu V v (a.tmps.getD s undef)):D5 V σ a.eval:=by
 intro x v b;cases x with
 | tmp t=>exact h t v b
 | const c=>simp only[Ab]at b;cases b;exact sD c
 | global g=>simp[Ab]at b
 | func f=>simp only[Ab]at b;cases b;rfl
structure A5Q (P:Program) (tb:Tb) (w:World) (O0:Nat->Prop) (σ:St) (ρ:Nat->Value) (a:Act):Prop where
 hT:Cs P tb
 hF:Hi P tb
 hG:GW w (λb=>b<w.heap.size) (own O0 σ ρ)
 obj:∀n o,lk n σ.objs=some o->A4 (vw w O0 σ ρ) o (ρ n)
 own:∀b,own O0 σ ρ b->b<w.heap.size
 ev:D5 (vw w O0 σ ρ) σ a.eval
theorem QS.toP {d n:Nat} {xs:List e.den} {u:Value} {ρ':Nat->Value} {w':World} (hown:∀b,own O0 σ ρ b->b<w.heap.size) (hf:Bb [(d,.arr t e xs)] σ=true)
  (hq:QS w O0 σ ρ (.sr d e 0 n) [(d,.arr t e xs)] u ρ' w') (hn:n=xs.length):QS w O0 σ ρ (.p (.slice e) xs) [] u ρ w' where
 below:=hq.below
 rho:=λ_ _=>rfl
 av:=by
  have hO:∀b,¬own O0 (DX σ [(d,.arr t e xs)]) ρ' b->¬own O0 (DX σ []) ρ b:=by
   intro b hb hb';rcases hb' with h0|⟨m,⟨o,hm⟩,hmb⟩
   .exact hb (.inl h0)
   have hm:lk m σ.objs=some o:=hm;have hne:lk m [(d,Obj.arr t e xs)]=none:=by grind [lk,Mi]
   refine hb (.inr ⟨m,⟨o,by simp only[DX,A5,hne];simpa using hm⟩,?_⟩);rw[hq.rho m hne];exact hmb
  have hd:lk d [(d,Obj.arr t e xs)]=some (.arr t e xs):=by simp[lk]
  have hb:∀b,bk (ρ' d) b->¬own O0 (DX σ []) ρ b:=λb hb hb'=>by
   have h1:=hq.new d _ b hd hb;have h2:=hown b hb';omega
  have hr:=XY (V:=vw w' O0 (DX σ [(d,.arr t e xs)]) ρ') hO (λb hb'=>hb b (.inl hb')) (hq.obj d _ hd) hq.av.2;rw[hn,Ix]at hr;obtain⟨_,_,_,_,_,_,a',c',hve,_⟩:=hq.av.2;exact⟨[u],hr,by rw[hve];rfl⟩
 obj:=λ_ _ h=>by cases h
 new:=λ_ _ _ h=>by cases h
 dist:=λ_ _ _ _ _ h=>by cases h
theorem VV {id:TypeId} (hT:Dh P tb id Y) (g:Cs P tb) (r:∀n o,lk n σ.objs=some o->A4 (vw w O0 σ ρ) o (ρ n)) (A:∀b,own O0 σ ρ b->b<w.heap.size) {ev:Operand->Value} (i:D5 (vw w O0 σ ρ) σ ev) {t:Bool} {d n:Nat} {parts:List (Nat×Operand)}
  (h:Bo t σ d n parts (some Y)=some (vc,v,obs)) (f:vc) (hf:Bb obs σ=true) :
  ∃u ρ' w',(Instr.buildSlice id n (parts.map λp=>(p.1,ev p.2)).toArray).run P w=.ok u w'/\QS w O0 σ ρ v obs u ρ' w':=by
 cases t with
 | false=>exact Nk hT g r i h f hf
 | true =>
  unfold Bo at h;split at h
  .rename_i e offs el b D;cases s:El σ e 0 parts with
   | none=>rw[s]at h;simp[Bw]at h
   | some xs =>
    rw[s]at h;simp only[Bw,AAB]at h;cases h;obtain⟨a,z⟩:∃a,lk a σ.objs=none:=by
     have:∀l:List (Nat×Obj),∃m,∀k,m<=k->lk k l=none:=by
      intro l;induction l with
      | nil=>exact⟨0,λ_ _=>rfl⟩
      | cons x l C =>
       obtain⟨m,c⟩:=C;refine⟨max m (x.1+1),λk hk=>?_⟩;have:¬k=x.1:=by omega
       obtain⟨j,o⟩:=x;simp only[lk,this,AAR];exact c k O1
     obtain⟨m,c⟩:=this σ.objs;exact⟨m,c m (OS m)⟩
    have q:Bb [(a,.arr el e xs)] σ=true:=by simp[Bb,z]
    have B:Bo false σ a n parts (some Y)=some (xs.length=n/\n*e.size<=16777216,.sr a e 0 n,[(a,.arr el e xs)]):=by grind [Bo,Bw]
    obtain⟨u,ρ',w',h1,y⟩:=Nk hT g r i B f q;exact⟨u,ρ,w',h1,y.toP A q f.1.symm⟩
  cases h
theorem ZN {V:Vw} {ev:Operand->Value} (f:D5 V σ ev) (w':World) {k:IntKind}:∀(r:List Operand) (a m:Int),E4 σ k (some a) r=some m->HY k a->((r.map ev).foldlM Builtin.min2 (.int k a)).run P w'=.ok (.int k m) w'/\HY k m
 | [],a,m,h,ha=>by
  simp only[E4,AAK]at h;subst h;exact⟨rfl,ha⟩
 | x :: r,a,m,h,ha=>by
  simp only[E4]at h;cases d:Ab σ x with
  | none=>rw[d]at h;cases r<;>simp[NY,E4]at h
  | some xv =>
   rw[d]at h;cases c:NY k a (some xv) with
   | none=>rw[c]at h;cases r<;>simp[E4]at h
   | some j =>
    rw[c]at h;unfold NY at c;split at c
    .rename_i l b e;cases e;split at c
     .rename_i hk;subst hk;cases c;obtain⟨g,i⟩:=BM (f x _ d);have:=ZN f w' r _ m h (by split;exact i;exact ha);rw[AA2,List.foldlM_cons,g];simpa[Builtin.min2] using this
     cases c
    cases c
theorem jK {a:Act} (H:A5Q P tb w O0 σ ρ a) (h:aq tb σ (o.dst.getD 0) o.op=some (vc,v,obs)) (C:vc) (hf:Bb obs σ=true)
  {next:Act->World->Prop} {Q:Exit->Act->World->Prop} {r:Option Nat} (hn:∀u ρ' w',QS w O0 σ ρ v obs u ρ' w'->next (a.put o.dst u) w'):o.wpIn (FR r) 0 P a w next Q:=by
 obtain⟨hT,hF,hG,E,W,q⟩:=H;have R:∀n,(vw w O0 σ ρ).L n->∃o,A4 (vw w O0 σ ρ) o ((vw w O0 σ ρ).ρ n):=λn ⟨o,ae⟩=>⟨o,E n o ae⟩;obtain⟨dst,op,type,pos,after,guard⟩:=o;simp only at h hn;cases op<;>simp only[aq]at h<;>try(cases h;done)
 case move x =>
  cases d:Ab σ x with
  | none=>rw[d]at h;cases h
  | some xv =>
   rw[d]at h;simp only[GK]at h;cases h;exact AZ (u:=a.eval x) (by simp[execOp]) (hn _ _ _ (QS.still (q x _ d)))
 case assign x =>
  cases d:Ab σ x with
  | none=>rw[d]at h;cases h
  | some xv =>
   rw[d]at h;simp only[GK]at h;cases h;exact AZ (u:=a.eval x) (by simp[execOp]) (hn _ _ _ (QS.still (q x _ d)))
 case pick c x y =>
  cases H:Ab σ c with
  | none=>rw[H]at h;simp[KE]at h
  | some O =>
   rw[H]at h;have T:=q c O H;unfold KE at h;split at h
   .rename_i F;cases F;have D:=Dn T;cases d:Ab σ x with
    | none=>rw[d]at h;simp[GK]at h
    | some xv =>
     rw[d]at h;simp only[GK]at h;cases h;exact AZ (u:=a.eval x) (by simp[execOp,D,asBool]) (hn _ _ _ (QS.still (q x _ d)))
   .rename_i F;cases F;have D:=Dn T;cases A:Ab σ y with
    | none=>rw[A]at h;simp[GK]at h
    | some I =>
     rw[A]at h;simp only[GK]at h;cases h;exact AZ (u:=a.eval y) (by simp[execOp,D,asBool]) (hn _ _ _ (QS.still (q y _ A)))
   cases h
 case alloc t =>
  cases e:lk t tb.ty with
  | none=>rw[e]at h;simp[KF]at h
  | some ti =>
   rw[e]at h;obtain⟨u,ρ',w',h1,j⟩:=A0m (w:=w) (O0:=O0) (ρ:=ρ) (hT _ _ e) h hf;exact AZ (u:=u) (w':=w') (by simp[execOp,h1]) (hn _ _ _ j)
 case box t x =>
  cases e:lk t tb.ty with
  | none=>rw[e]at h;simp[SR]at h
  | some ti =>
   cases d:Ab σ x with
   | none=>rw[e,d]at h;simp[SR]at h
   | some xv =>
    rw[e,d]at h;obtain⟨u,ρ',w',h1,j⟩:=A5O (hT _ _ e) h (q x _ d) hf;exact AZ (u:=u) (w':=w') (by simp[execOp,h1]) (hn _ _ _ j)
 case build t parts =>
  cases e:lk t tb.ty with
  | none=>rw[e]at h;simp[I0]at h
  | some ti =>
   rw[e]at h;obtain⟨rfl,u,h1,j⟩:=A0o (hT _ _ e) E q h;have h1:(Instr.build t (parts.map λp=>(p.1,a.eval p.2))).run P w=.ok u w:=by
    rw[<-h1]
    congr 2
    apply Array.ext';simp
   exact AZ (u:=u) (w':=w) (by simp[execOp,h1]) (hn _ _ _ (QS.still j))
 case buildSlice t n parts =>
  cases U:lk (dst.getD 0) tb.nests with
  | some am =>
   rw[U]at h;simp only[GY]at h;cases e:lk t tb.ty with
   | none=>rw[e]at h;simp[I2]at h
   | some ti =>
    rw[e]at h;obtain⟨u,ρ',w',h1,j⟩:=A3C (hT _ _ e) hT E q h C hf;have h1:(Instr.buildSlice t n (parts.map λp=>(p.1,a.eval p.2))).run P w=.ok u w':=by
     rw[<-h1]
     congr 2
     grind
    exact AZ (u:=u) (w':=w') (by simp[execOp,h1]) (hn _ _ _ j)
  | none =>
  rw[U]at h;simp only[GY]at h;cases e:lk t tb.ty with
  | none=>rw[e]at h;simp[Bo]at h
  | some ti =>
   rw[e]at h;obtain⟨u,ρ',w',h1,j⟩:=VV (hT _ _ e) hT E W q h C hf;have h1:(Instr.buildSlice t n (parts.map λp=>(p.1,a.eval p.2))).run P w=.ok u w':=by
    rw[<-h1]
    congr 2
    apply Array.ext';simp
   exact AZ (u:=u) (w':=w') (by simp[execOp,h1]) (hn _ _ _ j)
 case load t x =>
  cases e:lk t tb.ty with
  | none=>rw[e]at h;simp[Jp]at h
  | some ti =>
   cases d:Ab σ x with
   | none=>rw[e,d]at h;simp[Jp]at h
   | some xv =>
    rw[e,d]at h;obtain⟨rfl,u,h1,j⟩:=rS (hT _ _ e) E h (q x _ d);exact AZ (u:=u) (w':=w) (by simp[execOp,h1]) (hn _ _ _ (QS.still j))
 case nilCheck x =>
  cases d:Ab σ x with
  | none=>rw[d]at h;simp[VQ]at h
  | some xv =>
   rw[d]at h;obtain⟨rfl,⟨ad,F⟩,j⟩:=A5N h (q x _ d);exact AZ (u:=a.eval x) (w':=w) (by simp[execOp,F]) (hn _ _ _ (QS.still j))
 case binOp op t x y au =>
  cases d:Ab σ x with
  | none=>rw[d]at h;simp[RE]at h
  | some xv =>
   cases A:Ab σ y with
   | none=>rw[d,A]at h;cases xv<;>simp[RE]at h
   | some I =>
    rw[d,A]at h;obtain⟨rfl,h1,u,j,B⟩:=A5J (P:=P) (t:=t) (λD=>by
     cases e:lk t tb.ty with
     | none=>rw[e]at D;cases D
     | some ti =>
      have h0:=(hT _ _ e).2;rw[e]at D;unfold ST at D;split at D
      .grind
      cases D) w h C (q x _ d) (q y _ A)
    exact AZ (u:=u) (w':=w) (by simp[execOp,h1,j]) (hn _ _ _ (QS.still B))
 case unOp op t x =>
  cases d:Ab σ x with
  | none=>rw[d]at h;cases op<;>simp[qUn]at h
  | some xv =>
   rw[d]at h;obtain⟨rfl,u,j,B⟩:=A7g (P:=P) w h C (q x _ d);exact AZ (u:=u) (w':=w) (by simp[execOp,j]) (hn _ _ _ (QS.still B))
 case convert s t x =>
  cases hs:lk s tb.ty with
  | none=>rw[hs]at h;simp[Jq]at h
  | some ar =>
   cases e:lk t tb.ty with
   | none=>rw[hs,e]at h;simp[Jq]at h
   | some ti =>
    cases d:Ab σ x with
    | none=>rw[hs,e,d]at h;simp[Jq]at h
    | some xv =>
     rw[hs,e,d]at h;obtain⟨rfl,u,j,B⟩:=A3y (P:=P) hT rfl (hT _ _ hs) (hT _ _ e) h C (q x _ d);have j:(convert s t (a.eval x)).run P w=.ok u w:=j;exact AZ (u:=u) (w':=w) (by simp[execOp,j]) (hn _ _ _ (QS.still B))
 case makeSlice t l c =>
  cases e:lk t tb.ty with
  | none=>rw[e]at h;simp[X1]at h
  | some ti =>
   cases d:Ab σ l with
   | none=>rw[e,d]at h;simp[X1]at h
   | some ao =>
    cases A:Ab σ c with
    | none=>rw[e,d,A]at h;simp[X1]at h
    | some O =>
     rw[e,d,A]at h;obtain⟨u,ρ',w',h1,j⟩:=A3D (hT _ _ e) hT h C (q l _ d) (q c _ A) hf;exact AZ (u:=u) (w':=w') (by simp[execOp,h1]) (hn _ _ _ j)
 case slice t x lo hi ai =>
  cases ai with
  | some m =>
   cases lo with
   | some _=>cases hi<;>simp[aq]at h
   | none =>
    cases hi with
    | none=>simp[aq]at h
    | some h1 =>
     simp only[aq]at h;cases e:lk t tb.ty with
     | none=>rw[e]at h;simp[Dv]at h
     | some ti =>
      cases d:Ab σ x with
      | none=>rw[e,d]at h;simp[Dv]at h
      | some xv =>
       cases hh:Ab σ h1 with
       | none=>rw[e,d,hh]at h;simp[Dv]at h
       | some al =>
        cases G:Ab σ m with
        | none=>rw[e,d,hh,G]at h;simp[Dv]at h
        | some ap =>
         rw[e,d,hh,G]at h;obtain⟨rfl,u,j,B⟩:=rZ (P:=P) (V:=vw w O0 σ ρ) (hT _ _ e) hT h C (q x _ d) (q h1 _ hh) (q m _ G);have j:(Instr.sliceAt t (a.eval x) none (some (a.eval h1)) (some (a.eval m))).run P w=.ok u w:=j;exact AZ (u:=u) (w':=w) (by simp[execOp,j]) (hn _ _ _ (QS.still B))
  | none =>
   simp only[aq]at h;cases e:lk t tb.ty with
   | none=>rw[e]at h;simp[E2]at h
   | some ti =>
    cases d:Ab σ x with
    | none=>rw[e,d]at h;simp[E2]at h
    | some xv =>
     have S:∀ {y:Option Operand} {N:Option AV},GR σ y=some N->ZF (V:=vw w O0 σ ρ) N (y.map a.eval):=by
      intro y N A;cases y with
      | none=>simp only[GR]at A;cases A;trivial
      | some z =>
       simp only[GR,Is]at A;obtain⟨Z,ah,rfl⟩:=A;exact q z Z ah
     cases J:GR σ lo with
     | none=>rw[e,d,J]at h;simp[E2]at h
     | some an =>
      cases K:GR σ hi with
      | none=>rw[e,d,J,K]at h;simp[E2]at h
      | some ak =>
       rw[e,d,J,K]at h;obtain⟨rfl,u,j,B⟩:=A0l (P:=P) (V:=vw w O0 σ ρ) (hT _ _ e) hT h C (q x _ d) (S J) (S K);have j:(Instr.sliceAt t (a.eval x) (lo.map a.eval) (hi.map a.eval) none).run P w=.ok u w:=j;exact AZ (u:=u) (w':=w) (by simp[execOp,j]) (hn _ _ _ (QS.still B))
 case fieldAddr s x f =>
  cases hs:lk s tb.ty with
  | none=>rw[hs]at h;simp[Gy]at h
  | some ti =>
   cases d:Ab σ x with
   | none=>rw[hs,d]at h;simp[Gy]at h
   | some xv =>
    rw[hs,d]at h;obtain⟨rfl,u,j,B⟩:=A0h (P:=P) (hT _ _ hs) w h (q x _ d);exact AZ (u:=u) (w':=w) (by simp[execOp,j]) (hn _ _ _ (QS.still B))
 case indexAddr t x i =>
  cases e:lk t tb.ty with
  | none=>rw[e]at h;simp[FX]at h
  | some ti =>
   cases d:Ab σ x with
   | none=>rw[e,d]at h;simp[FX]at h
   | some xv =>
    cases hi:Ab σ i with
    | none=>rw[e,d,hi]at h;simp[FX]at h
    | some X =>
     rw[e,d,hi]at h;obtain⟨rfl,u,j,B⟩:=A0i (P:=P) (V:=vw w O0 σ ρ) (hT _ _ e) hT h C (q x _ d) (q i _ hi) R;have j:(Instr.indexAt t (a.eval x) (a.eval i)).run P w=.ok u w:=j;exact AZ (u:=u) (w':=w) (by simp[execOp,j]) (hn _ _ _ (QS.still B))
 case index t x i =>
  cases e:lk t tb.ty with
  | none=>rw[e]at h;simp[EJ]at h
  | some ti =>
   cases d:Ab σ x with
   | none=>rw[e,d]at h;simp[EJ]at h
   | some xv =>
    cases hi:Ab σ i with
    | none=>rw[e,d,hi]at h;simp[EJ]at h
    | some X =>
     rw[e,d,hi]at h;obtain⟨rfl,u,j,B⟩:=rU (P:=P) (hT _ _ e) w h C (q x _ d) (q i _ hi);exact AZ (u:=u) (w':=w) (by simp[execOp,j]) (hn _ _ _ (QS.still B))
 case extract x i =>
  cases d:Ab σ x with
  | none=>rw[d]at h;simp[Ea]at h
  | some xv =>
   rw[d]at h;obtain⟨rfl,u,j,B⟩:=m8 (P:=P) w h (q x _ d);exact AZ (u:=u) (w':=w) (by simp[execOp,j]) (hn _ _ _ (QS.still B))
 case makeFunc fn first ab =>
  obtain⟨rfl,u,j,B⟩:=A5P (P:=P) q h;have j:(Instr.makeFunc fn (first.map a.eval) (ab.map a.eval)).run P w=.ok u w:=by
   rw[<-j]
   congr 2<;>(apply Array.ext';simp)
  exact AZ (u:=u) (w':=w) (by simp[execOp,j]) (hn _ _ _ (QS.still B))
 case makeMap t res =>
  cases res with
  | some z=>simp[aq]at h
  | none =>
   simp only[aq]at h;cases e:lk t tb.ty with
   | none=>rw[e]at h;simp[F1]at h
   | some ti =>
    rw[e]at h;obtain⟨u,ρ',w',h1,j⟩:=nD (w:=w) (O0:=O0) (ρ:=ρ) (hT _ _ e) h hf;exact AZ (u:=u) (w':=w') (by simp[execOp,h1]) (hn _ _ _ j)
 case lookup t x i ok =>
  cases e:lk t tb.ty with
  | none=>rw[e]at h;simp[IQ]at h
  | some ti =>
   cases d:Ab σ x with
   | none=>rw[e,d]at h;simp[IQ]at h
   | some xv =>
    cases hi:Ab σ i with
    | none=>rw[e,d,hi]at h;simp[IQ]at h
    | some X =>
     rw[e,d,hi]at h;obtain⟨rfl,u,j,B⟩:=A3G (P:=P) (hT _ _ e) hT E h (q x _ d) (q i _ hi);exact AZ (u:=u) (w':=w) (by simp[execOp,j]) (hn _ _ _ (QS.still B))
 case call c =>
  obtain⟨callee,args,argTypes⟩:=c;cases callee with
  | invoke r m=>simp[Cz]at h
  | value g =>
   simp only[Cz]at h;exact A3I hF hG E W q (xs:=args.toList) (ts:=argTypes) (o:=⟨dst,.call ⟨.value g,args,argTypes⟩,type,pos,after,guard⟩) sc h C hf hn
  | builtin b =>
   simp only[Cz]at h;obtain⟨args⟩:=args;obtain⟨argTypes⟩:=argTypes;simp only at h;unfold DK at h;split at h
   .rename_i x t;cases e:lk t tb.ty with
    | none=>rw[e]at h;simp[SU]at h
    | some ti =>
     cases d:Ab σ x with
     | none=>rw[e,d]at h;simp[SU]at h
     | some xv =>
      rw[e,d]at h;obtain⟨rfl,u,j,B⟩:=A5K (P:=P) (ty:=type) (V:=vw w O0 σ ρ) R (hT _ _ e) w h (q x _ d);exact AZ (u:=u) (w':=w) (by simp[execOp,resolve,invoke,builtin,j]) (hn _ _ _ (QS.still B))
   .rename_i x y t u;cases d:Ab σ x with
    | none=>rw[d]at h;simp[Cn]at h
    | some xv =>
     cases A:Ab σ y with
     | none=>rw[d,A]at h;simp[Cn]at h
     | some I =>
      rw[d,A]at h;obtain⟨z,ρ',w',h1,j⟩:=r8 (ty:=type) hT E h C (q x _ d) (q y _ A) hf;exact AZ (u:=z) (w':=w') (by simp[execOp,resolve,invoke,builtin,h1]) (hn _ _ _ j)
   .rename_i x y t u;cases d:Ab σ x with
    | none=>rw[d]at h;simp[RF]at h
    | some xv =>
     cases A:Ab σ y with
     | none=>rw[d,A]at h;simp[RF]at h
     | some I =>
      rw[d,A]at h;obtain⟨rfl,z,h1,j⟩:=A5L (P:=P) (ts:=#[t,u]) (ty:=type) w h (q x _ d) (q y _ A);exact AZ (u:=z) (w':=w) (by simp[execOp,resolve,invoke,builtin,h1]) (hn _ _ _ (QS.still j))
   .rename_i x y t u;cases d:Ab σ x with
    | none=>rw[d]at h;simp[RG]at h
    | some xv =>
     cases A:Ab σ y with
     | none=>rw[d,A]at h;simp[RG]at h
     | some I =>
      rw[d,A]at h;obtain⟨rfl,z,h1,j⟩:=A5M (P:=P) (ts:=#[t,u]) (ty:=type) w h (q x _ d) (q y _ A);exact AZ (u:=z) (w':=w) (by simp[execOp,resolve,invoke,builtin,h1]) (hn _ _ _ (QS.still j))
   .rename_i x y Y t u aj;cases d:Ab σ x with
    | none=>rw[d]at h;simp[IP]at h
    | some xv =>
     cases A:Ab σ y with
     | none=>rw[d,A]at h;simp[IP]at h
     | some I =>
      cases M:Ab σ Y with
      | none=>rw[d,A,M]at h;simp[IP]at h
      | some Z =>
       rw[d,A,M]at h;obtain⟨rfl,z,h1,j⟩:=A3z (P:=P) (ts:=#[t,u,aj]) (ty:=type) w h (q x _ d) (q y _ A) (q Y _ M);exact AZ (u:=z) (w':=w) (by simp[execOp,resolve,invoke,builtin,h1]) (hn _ _ _ (QS.still j))
   .rename_i ts x y z u r;cases d:Ab σ x with
    | none=>rw[d]at h;simp[NZ]at h
    | some xv =>
     rw[d]at h;unfold NZ at h;split at h
     .rename_i k aa F;cases F;cases G:E4 σ k (some aa) (y :: z :: u :: r) with
      | none=>rw[G]at h;simp[QH]at h
      | some m =>
       rw[G]at h;simp only[QH,AAK,AC3]at h;obtain⟨rfl,rfl,rfl⟩:=h;obtain⟨af,ag⟩:=BM (q x _ d);obtain⟨h1,j⟩:=ZN (P:=P) q w _ _ _ G ag;have B:(Builtin.min_ ⟨argTypes⟩ type (a.eval x :: a.eval y :: a.eval z :: a.eval u :: r.map a.eval).toArray).run P w=.ok (.int k m) w:=by
        rw[af];exact h1
       exact AZ (u:=.int _ m) (w':=w) (by simp[execOp,resolve,invoke,builtin,B]) (hn _ _ _ (QS.still (BP j)))
     cases h
   cases h
end
end
section
open Go Go.RowKit
section
variable {w0:World} {K O0:Nat->Prop} {nt:Nat} {ds:Fp} {σ:St} {ρ:Nat->Value} {a:Act} {w:World}
theorem A0q {n:Nat} {o:Obj} {env:List (Nat×AV)} (m:Nat):GI ⟨env,upd n o σ.objs⟩ m↔GI σ m:=by
 constructor
 .rintro⟨x,a⟩;rw[FZ]at a;split at a
  .rename_i e;subst e;simp only[Is]at a;obtain⟨y,b,_⟩:=a;exact⟨y,b⟩
  exact⟨x,a⟩
 rintro⟨x,a⟩;by_cases e:m=n
 .subst e;exact⟨o,by simp[FZ,a]⟩
 exact⟨x,by simp[FZ,e,a]⟩
theorem Bx.upd (h:Bx w0 K O0 nt ds σ ρ a w) (A:∀b,K b->b<w0.heap.size) {n:Nat} {o j:Obj} (hn:lk n σ.objs=some o) {g:Nat} (r:blk (ρ n)=some g) {w':World} (c:w.grownBy w' (some g))
  (H:A4 (vw w' O0 σ ρ) j (ρ n)):Bx w0 K O0 nt ds ⟨σ.env,Fw.upd n j σ.objs⟩ ρ a w':=by
 have f:GI ⟨σ.env,Fw.upd n j σ.objs⟩=GI σ:=funext λm=>propext (A0q m);have y:vw w' O0 ⟨σ.env,Fw.upd n j σ.objs⟩ ρ=vw w' O0 σ ρ:=by
  have E:own O0 ⟨σ.env,Fw.upd n j σ.objs⟩ ρ=own O0 σ ρ:=by
   funext b;simp only[own,f]
  simp only[vw,f,E]
 have C:own O0 σ ρ g:=.inr ⟨n,⟨o,hn⟩,.inl r⟩;have hk:CZ (vw w O0 σ ρ) (vw w' O0 σ ρ):=⟨λ_ _ h=>h,λ_ h=>h,λ_ _=>rfl,λb D B=>c.block b D (λe=>by injection e with e;subst e;exact B C)⟩;refine⟨⟨c.os.trans h.frm.os,c.tape.trans h.frm.tape,c.output.trans h.frm.output,gO h.frm.size c.size,λk t=>?_⟩,h.nt,h.defers,λp F=>by rw[f];exact h.pin p F,?_,?_,?_,?_⟩
 .refine(c.block k (AAu (A k t) h.frm.size) (λe=>?_)).trans (h.frm.block k t);injection e with e
  subst e;exact(h.free n k ⟨o,hn⟩ (.inl r)).1 t
 .intro m x i;rw[y];rw[FZ]at i;split at i
  .grind
  rename_i e;refine(h.objs m x i).keeps hk λb l=>?_;refine c.block b ((h.objs m x i).block_lt l) (λq=>?_);injection q with q
  subst q;exact e (h.dist m n b ⟨x,i⟩ ⟨o,hn⟩ l (.inl r))
 .intro m b d l;rw[f]at d;exact h.free m b d l
 .intro m G b d u h1 z;rw[f]at d u;exact h.dist m G b d u h1 z
 intro s v hs;rw[y];exact(h.env s v hs).keeps hk
theorem IT (n s:Nat):∀l:List (Nat×AV),lk s (FU n l)=(lk s l).map (AV.drp n)
 | []=>rfl
 | (j,v) :: l=>by
  simp only[FU,lk];split
  .rfl
  exact IT n s l
def Obj.drp (n:Nat):Obj->Obj
 | .arr et e xs=>.arr et e xs
 | .box et st fs=>.box et st (AV.drps n fs)
 | .mapo k v l=>.mapo k v l
 | .nest et b k e xs h=>.nest et b k e xs h
 | .frame i fs=>.frame i (FU n fs)
 | .loop L=>.loop L
 | .itr c g d f a=>.itr c g d f a
 | .dfr=>.dfr
 | .sit sb sp=>.sit sb sp
theorem Bc (n s:Nat):∀l:List (Nat×Obj),lk s (BW n l)=(lk s l).map (Obj.drp n)
 | []=>rfl
 | (j,.arr et e xs) :: l=>by
  simp only[BW,lk];split
  .rfl
  exact Bc n s l
 | (j,.box et st fs) :: l=>by
  simp only[BW,lk];split
  .rfl
  exact Bc n s l
 | (j,.mapo k v x) :: l=>by
  simp only[BW,lk];split
  .rfl
  exact Bc n s l
 | (j,.nest et b k e xs h) :: l=>by
  simp only[BW,lk];split
  .rfl
  exact Bc n s l
 | (j,.frame i fs) :: l=>by
  simp only[BW,lk];split
  .rfl
  exact Bc n s l
 | (j,.loop L) :: l=>by
  simp only[BW,lk];split
  .rfl
  exact Bc n s l
 | (j,.itr c g d f a) :: l=>by
  simp only[BW,lk];split
  .rfl
  exact Bc n s l
 | (j,.dfr) :: l=>by
  simp only[BW,lk];split
  .rfl
  exact Bc n s l
 | (j,.sit sb sp) :: l=>by
  simp only[BW,lk];split
  .rfl
  exact Bc n s l
def Vw.but (V:Vw) (n:Nat):Vw:=⟨V.w,V.O,λm=>V.L m/\m≠n,V.ρ⟩
def seat (v:Value):Prop:=(∃a m c,v=.slice a m c)\/∃b,v=.tuple b
theorem Hj {V:Vw} {n:Nat} (hn:seat (V.ρ n)) {v:Value} (h:KR V x v):KR (V.but n) (x.drp n) v:=by
 cases x;case sr m e lo hi =>
  simp only[AV.drp];split
  .trivial
  rename_i g;exact⟨⟨h.1,g⟩,h.2⟩
 case ep m e i p off =>
  simp only[AV.drp];split
  .trivial
  rename_i g;exact⟨⟨h.1,g⟩,h.2⟩
 case nin m e i len =>
  simp only[AV.drp];split
  .trivial
  rename_i g;exact⟨⟨h.1,g⟩,h.2⟩
 case bp m p off =>
  simp only[AV.drp];refine⟨⟨h.1,λe=>?_⟩,h.2⟩;subst e;obtain⟨_,b,d,_⟩:=h;rcases hn with ⟨a,j,c,hs⟩|⟨k,hs⟩<;>(rw[hs]at d;cases d)
 case clo f ns =>
  simp only[AV.drp];refine⟨h.1,λm o=>?_⟩;obtain⟨h1,b,d⟩:=h.2 m o;refine⟨⟨h1,λe=>?_⟩,b,d⟩;subst e;rcases hn with ⟨a,j,c,hs⟩|⟨k,hs⟩<;>(rw[hs]at d;cases d)
 case mp m =>
  simp only[AV.drp];refine⟨⟨h.1,λe=>?_⟩,h.2⟩;subst e;obtain⟨_,b,d,_⟩:=h;rcases hn with ⟨a,j,c,hs⟩|⟨k,hs⟩<;>(rw[hs]at d;cases d)
 case yl m =>
  simp only[AV.drp];refine⟨⟨h.1,λe=>?_⟩,h.2⟩;subst e;obtain⟨_,b,d,_⟩:=h;rcases hn with ⟨a,j,c,hs⟩|⟨k,hs⟩<;>(rw[hs]at d;cases d)
 case ag l=>exact h.elim
 case tup l=>exact h.elim
 all_goals simp only[AV.drp];exact h
theorem sE {V:Vw} {n:Nat} (hn:seat (V.ρ n)) {cs:List Value} (h0:VS x=false) (h:FM V x cs):FM (V.but n) (x.drp n) cs:=by
 cases x;case p t d=>simp only[AV.drp];exact h
 case ag l=>cases h0
 case tup l=>obtain⟨v,_,_,hf⟩:=h;exact hf.elim
 all_goals
  obtain⟨v,rfl,h1,c⟩:=h;have a:=Hj hn c;simp only[AV.drp]at a ⊢;first
   | exact⟨v,rfl,h1,a⟩
   | (split at a<;>rename_i b<;>first|(rw[At b];exact⟨v,rfl,h1,a⟩)|(rw[As b];exact⟨v,rfl,h1,a⟩))
theorem sF {V:Vw} {n:Nat} (hn:seat (V.ρ n)):(∀(x:AV) (cs:List Value),FM V x cs->FM (V.but n) (x.drp n) cs)/\∀(l:List AV) (cs:List Value),AVCs V l cs->AVCs (V.but n) (AV.drps n l) cs :=
 Nf (λ_=>by simp only[AV.drp]) (by simp only[AV.drps]) (λ_ _=>by simp only[AV.drps]) (sE hn)
theorem Sj {V:Vw} {n:Nat} (hn:seat (V.ρ n)) {cs:List Value} (h:AVCs V l cs):AVCs (V.but n) (AV.drps n l) cs:=(sF hn).2 l cs h
theorem A0r {V:Vw} {n:Nat} (hn:seat (V.ρ n)) {v:Value} (a:QO V x v):QO (V.but n) (x.drp n) v:=by
 cases x;case ag l=>obtain⟨cs,h1,b⟩:=a;simp only[AV.drp];exact⟨cs,h1,Sj hn b⟩
 all_goals exact QO.of1 (Hj hn a)
theorem ZO {V:Vw} {n:Nat} (hn:seat (V.ρ n)):∀ {l:List AV} {a:List Value},Gz V l a->Gz (V.but n) (AV.drps n l) a
 | [],a,h=>(h:a=[])
 | x :: r,a,h=>by
  obtain⟨v,c,rfl,h1,b⟩:=h;simp only[AV.drps];exact⟨v,c,rfl,A0r hn h1,ZO hn b⟩
theorem A0s {V:Vw} {v:Value} (h:KR V x v):Bu V x v:=by
 cases x;case ag l=>exact h.elim
 case tup l=>exact h.elim
 all_goals exact h
theorem jL {V:Vw} {n:Nat} (hn:seat (V.ρ n)) {v:Value} (h:Bu V x v):Bu (V.but n) (x.drp n) v:=by
 cases x;case ag l=>obtain⟨cs,h1,a⟩:=h;simp only[AV.drp];exact⟨cs,h1,Sj hn a⟩
 case tup l=>obtain⟨b,h1,a⟩:=h;simp only[AV.drp];exact⟨b,h1,ZO hn a⟩
 all_goals exact A0s (Hj hn h)
theorem QW (n:Nat):∀l:List AV,(AV.drps n l).length=l.length
 | []=>rfl
 | _ :: r=>by simp[AV.drps,QW n r]
theorem A0t {n:Nat} {c:Obj} {env:List (Nat×AV)} (m:Nat):GI ⟨env,upd n c (BW n σ.objs)⟩ m↔GI σ m:=by
 constructor
 .rintro⟨x,a⟩;rw[FZ,Bc,Bc]at a;split at a
  .rename_i e;subst e;simp only[Option.map_map,Is]at a;obtain⟨y,b,_⟩:=a;exact⟨y,b⟩
  simp only[Is]at a;obtain⟨y,b,_⟩:=a;exact⟨y,b⟩
 rintro⟨x,a⟩;by_cases e:m=n
 .subst e;exact⟨c,by simp[FZ,Bc,a]⟩
 exact⟨x.drp n,by simp[FZ,Bc,e,a]⟩
theorem Bx.app (h:Bx w0 K O0 nt ds σ ρ a w) (ae:∀b,K b->b<w0.heap.size) (au:∀b,O0 b->b<w0.heap.size) {n:Nat} (ai:GJ n=false) {et:TypeId} {xs ys:List e.den} (hn:lk n σ.objs=some (.arr et e xs)) {loc:Value} {w':World} {cells:List Value}
  (E:w.grownBy w' (blk (ρ n))) (U:blk loc=blk (ρ n)\/∀b,blk loc=some b->w.heap.size<=b) (I:ys.length<=AO)
  (Q:w'.ownsRow 0 et e.size loc ys.length cells) (ah:DV w (own O0 σ ρ) e cells ys) {d:Nat} (ag:d<nt) {hi:Nat} (aj:hi=ys.length) :
  Bx w0 K O0 nt ds ⟨(d,.sr n e 0 hi) :: FU n σ.env,Fw.upd n (.arr et e ys) (BW n σ.objs)⟩ (EF ρ n loc) (a.put (some d) loc) w':=by
 subst aj;have J:∃a m c,(vw w O0 σ ρ).ρ n=.slice a m c:=by
  obtain⟨_,cells',am,_⟩:=h.objs n _ hn;rcases am.2 with ⟨D,_⟩|⟨g,cap,X,D,_⟩
  .exact⟨_,_,_,D⟩
  exact⟨_,_,_,D⟩
 let σ':St:=⟨(d,.sr n e 0 ys.length) :: FU n σ.env,Fw.upd n (.arr et e ys) (BW n σ.objs)⟩
 have F:∀m,GI σ' m↔GI σ m:=λm=>A0t m;have H:∀b,bk loc b↔blk loc=some b:=λb=>by
  rcases Q.2 with ⟨D,_⟩|⟨g,cap,X,D,_⟩
  .rw[D];exact KQ
  rw[D];exact KQ
 have av:∀b,bk (ρ n) b↔blk (ρ n)=some b:=λb=>by
  obtain⟨aa,aq,c2,u⟩:=J;have u:ρ n=_:=u;rw[u];exact KQ
 have ak:∀b,bk loc b->own O0 σ ρ b\/w.heap.size<=b:=by
  intro b f;replace f:=(H b).1 f;rcases U with h1|h1
  .exact .inl (.inr ⟨n,⟨_,hn⟩,.inl (by rw[<-h1];exact f)⟩)
  exact .inr (h1 b f)
 have hk:CZ ((vw w O0 σ ρ).but n) (vw w' O0 σ' (EF ρ n loc)):=by
  refine⟨?_,λm I=>(F m).2 I.1,λm I=>?_,?_⟩
  .intro b O f C;rcases C with h0|⟨m,i,N⟩
   .exact f (.inl h0)
   by_cases P:m=n
   .subst P;rw[Bh]at N;rcases ak b N with h1|h1
    .exact f h1
    have O:b<w.heap.size:=O;omega
   have:EF ρ n loc m=ρ m:=by simp[EF,P]
   rw[this]at N;exact f (.inr ⟨m,(F m).1 i,N⟩)
  .have:m≠n:=I.2;show EF ρ n loc m=ρ m;simp[EF,this]
  intro b O f;exact E.block b O (λj=>f (.inr ⟨n,⟨_,hn⟩,.inl j.symm⟩))
 refine⟨⟨E.os.trans h.frm.os,E.tape.trans h.frm.tape,E.output.trans h.frm.output,gO h.frm.size E.size,λk S=>?_⟩,by rw[Ng];exact h.nt,by rw[I9];exact h.defers,λp an=>?_,?_,?_,?_,?_⟩
 .refine(E.block k (AAu (ae k S) h.frm.size) (λj=>?_)).trans (h.frm.block k S);exact(h.free n k ⟨_,hn⟩ (.inl j.symm)).1 S
 .obtain⟨h1,G,B⟩:=h.pin p an;have ax:p.1≠n:=by
   intro t;obtain⟨aa,aq,c2,u⟩:=J;have u:ρ n=_:=u;rw[<-t,G]at u;rw[u]at B;rcases B with B|B
   .cases B
   rw[t,ai]at B;cases B
  grind [EF]
 .intro m x A;show A4 (vw w' O0 σ' (EF ρ n loc)) x (EF ρ n loc m);rw[FZ]at A;split at A
  .rename_i j;subst j;rw[Bc,hn]at A;simp only[ABk]at A;cases A;rw[Bh];exact⟨I,cells,Q,ah.keeps (V:=(vw w O0 σ ρ).but m) hk⟩
  rename_i j;rw[Bc]at A;simp only[Is]at A;obtain⟨y,r,rfl⟩:=A;have:EF ρ n loc m=ρ m:=by simp[EF,j]
  rw[this];have f:∀b,bk (ρ m) b->w'.heap[b]?=w.heap[b]?:=λb C=>by
   refine E.block b ((h.objs m y r).block_lt C) (λt=>?_);exact j (h.dist m n b ⟨y,r⟩ ⟨_,hn⟩ C (.inl t.symm))
  have q:=h.objs m y r;cases y with
  | arr Z t bd=>exact A4.keeps (V:=(vw w O0 σ ρ).but n) hk f q
  | box Z st fs =>
   obtain⟨h0,b,cs,i,hh,af⟩:=q;exact A4.keeps (V:=(vw w O0 σ ρ).but n) (o:=.box Z st (AV.drps n fs)) hk f ⟨λao=>by rw[QW];exact h0 ao,b,cs,i,hh,Sj (.inl J) af⟩
  | mapo k v l=>exact A4.keeps (V:=(vw w O0 σ ρ).but n) hk f q
  | nest et ap k e xs i=>exact A4.keeps (V:=(vw w O0 σ ρ).but n) (o:=.nest et ap k e xs i) hk f (Lc (V:=vw w O0 σ ρ) (V':=(vw w O0 σ ρ).but n) rfl rfl q)
  | frame ar fs =>
   obtain⟨h0,h1⟩:=q;refine A4.keeps (V:=(vw w O0 σ ρ).but n) (o:=.frame ar (FU n fs)) hk f ⟨h0,λs z W=>?_⟩;rw[IT]at W;simp only[Is]at W;obtain⟨y,r,rfl⟩:=W;exact jL (.inl J) (h1 s y r)
  | loop L=>exact A4.keeps (V:=(vw w O0 σ ρ).but n) hk f q
  | itr az bc ba bb ay=>exact A4.keeps (V:=(vw w O0 σ ρ).but n) hk f q
  | dfr=>exact A4.keeps (V:=(vw w O0 σ ρ).but n) hk f q
  | sit sb sp=>exact A4.keeps (V:=(vw w O0 σ ρ).but n) hk f q
 .intro m b i f;replace i:=(F m).1 i;by_cases j:m=n
  .subst j;rw[Bh]at f;rcases U with h1|h1
   .exact h.free m b i (.inl (by rw[<-h1];exact(H b).1 f))
   have:=h1 b ((H b).1 f);have:=h.frm.size;grind
  have:EF ρ n loc m=ρ m:=by simp[EF,j]
  rw[this]at f;exact h.free m b i f
 .have key:∀m b,GI σ m->m≠n->bk (ρ m) b->bk loc b->False:=by
   intro m b i P f C;rcases U with h1|h1
   .exact P (h.dist m n b i ⟨_,hn⟩ f (.inl (by rw[<-h1];exact(H b).1 C)))
   have G:=h1 b ((H b).1 C);obtain⟨y,r⟩:=i;have:=(h.objs m y r).block_lt f;have:b<w.heap.size:=this;omega
  intro m M b i T h1 G;replace i:=(F m).1 i;replace T:=(F M).1 T;by_cases Y:m=n<;>by_cases t:M=n
  .rw[Y,t]
  .grind [EF,Bh]
  .grind [EF,Bh]
  have ab:EF ρ n loc m=ρ m:=by simp[EF,Y]
  have ad:EF ρ n loc M=ρ M:=by simp[EF,t]
  rw[ab]at h1;rw[ad]at G;exact h.dist m M b i T h1 G
 intro s v hs;show Bu (vw w' O0 σ' (EF ρ n loc)) v _;rw[Lb a d loc s (by rw[h.nt];exact ag)];simp only[lk]at hs;split at hs
 .rename_i R;cases hs;rw[At R];refine⟨(F n).2 ⟨_,hn⟩,?_⟩;show C6 (plc (EF ρ n loc n)) e.size 0 ys.length loc;rw[Bh,Ga Q];rcases Q.2 with ⟨rfl,al⟩|⟨g,cap,X,rfl,_,_,aw,_⟩
  .exact⟨none,0,0,rfl,by omega,by omega,none,0,by rw[al],by omega,λ_=>⟨rfl,rfl⟩,λh=>by omega⟩
  exact⟨some ⟨g,0,none⟩,ys.length,cap,rfl,by omega,by omega,some ⟨g,0,none⟩,cap,by simp,by omega,λ_=>⟨rfl,rfl⟩,λ_=>by simp[LZ]⟩
 rename_i R;rw[As R];rw[IT]at hs;simp only[Is]at hs;obtain⟨y,r,rfl⟩:=hs;exact(jL (.inl J) (h.env s y r)).keeps hk
end
end
section
open Go Go.RowKit
def Vw.buts (V:Vw) (hs:List Nat):Vw:=⟨V.w,V.O,λm=>V.L m/\AY m hs=false,V.ρ⟩
theorem Xi {V:Vw} {hs:List Nat} (h:KR V x v):KR (V.buts hs) (x.fgt hs) v:=by
 cases x;case clo f ns =>
  simp only[AV.fgt];split
  .trivial
  rename_i a;refine⟨h.1,λn hn=>⟨⟨(h.2 n hn).1,?_⟩,(h.2 n hn).2⟩⟩;grind
 case ag l=>exact h.elim
 case tup l=>exact h.elim
 case p t d=>simp only[AV.fgt];exact h
 case pc e d=>simp only[AV.fgt];exact h
 case raw u=>simp only[AV.fgt];exact h
 case ip t d=>simp only[AV.fgt];exact h
 case fn f=>simp only[AV.fgt];exact h
 case top=>trivial
 all_goals
  simp only[AV.fgt];split
  .trivial
  rename_i a;exact⟨⟨h.1,by simpa using a⟩,h.2⟩
theorem sG {V:Vw} {hs:List Nat} {cs:List Value} (h0:VS x=false) (h:FM V x cs):FM (V.buts hs) (x.fgt hs) cs:=by
 cases x;case p t d=>simp only[AV.fgt];exact h
 case ag l=>cases h0
 case tup l=>obtain⟨v,_,_,hf⟩:=h;exact hf.elim
 all_goals
  obtain⟨v,rfl,h1,c⟩:=h;have a:=Xi (hs:=hs) c;simp only[AV.fgt]at a ⊢;first
   | exact⟨v,rfl,h1,a⟩
   | (split at a<;>rename_i b<;>first|(rw[At b];exact⟨v,rfl,h1,a⟩)|(rw[As b];exact⟨v,rfl,h1,a⟩))
theorem sH {V:Vw} {hs:List Nat}:(∀(x:AV) (cs:List Value),FM V x cs->FM (V.buts hs) (x.fgt hs) cs)/\∀(l:List AV) (cs:List Value),AVCs V l cs->AVCs (V.buts hs) (AV.fgts hs l) cs :=
 Nf (λ_=>by simp only[AV.fgt]) (by simp only[AV.fgts]) (λ_ _=>by simp only[AV.fgts]) sG
theorem Sk {V:Vw} {hs:List Nat} {cs:List Value} (h:AVCs V l cs):AVCs (V.buts hs) (AV.fgts hs l) cs:=sH.2 l cs h
theorem A0u {V:Vw} {hs:List Nat} (a:QO V x v):QO (V.buts hs) (x.fgt hs) v:=by
 cases x;case ag l=>obtain⟨cs,h1,b⟩:=a;simp only[AV.fgt];exact⟨cs,h1,Sk b⟩
 all_goals exact QO.of1 (Xi a)
theorem ZP {V:Vw} {hs:List Nat}:∀ {l:List AV} {a:List Value},Gz V l a->Gz (V.buts hs) (AV.fgts hs l) a
 | [],a,h=>(h:a=[])
 | x :: r,a,h=>by
  obtain⟨v,c,rfl,h1,b⟩:=h;simp only[AV.fgts];exact⟨v,c,rfl,A0u h1,ZP b⟩
theorem Rh {V:Vw} {hs:List Nat} (h:Bu V x v):Bu (V.buts hs) (x.fgt hs) v:=by
 cases x;case ag l=>obtain⟨cs,h1,a⟩:=h;simp only[AV.fgt];exact⟨cs,h1,Sk a⟩
 case tup l=>obtain⟨b,h1,a⟩:=h;simp only[AV.fgt];exact⟨b,h1,ZP a⟩
 all_goals exact A0s (Xi h)
theorem Fd (hs:List Nat) (s:Nat):∀l:List (Nat×AV),lk s (Cg hs l)=(lk s l).map (AV.fgt hs)
 | []=>rfl
 | (j,v) :: l=>by
  simp only[Cg,lk];split
  .rfl
  exact Fd hs s l
theorem QX (hs:List Nat):∀l:List AV,(AV.fgts hs l).length=l.length
 | []=>rfl
 | _ :: r=>by simp[AV.fgts,QX hs r]
theorem CF (a hs:List Nat) (n:Nat):∀l:List (Nat×Obj),lk n (Aw a hs l)=if AY n a=true then none else (lk n l).map (Obj.fgt hs)
 | []=>by simp[Aw,lk]
 | (j,o) :: l=>by
  simp only[Aw];by_cases b:AY j a=true
  .rw[At b,CF a hs n l];grind [lk]
  rw[As b];simp only[lk];by_cases hn:n=j
  .subst hn;simp[b]
  simp[hn,CF a hs n l]
theorem Xj {V V':Vw} {hs:List Nat} (hk:CZ (V.buts hs) V') {o:Obj} {loc:Value} (a:∀b,bk loc b->V'.w.heap[b]?=V.w.heap[b]?) (h:A4 V o loc):A4 V' (o.fgt hs) loc:=by
 cases o with
 | arr et e xs=>exact A4.keeps (V:=V.buts hs) hk a h
 | box et st fs =>
  obtain⟨h0,b,cs,c,hh,f⟩:=h;exact A4.keeps (V:=V.buts hs) (o:=.box et st (AV.fgts hs fs)) hk a ⟨λg=>by rw[QX];exact h0 g,b,cs,c,hh,Sk f⟩
 | mapo k v l=>exact A4.keeps (V:=V.buts hs) hk a h
 | nest et j k e xs c=>exact A4.keeps (V:=V.buts hs) (o:=.nest et j k e xs c) hk a (Lc (V:=V) (V':=V.buts hs) rfl rfl h)
 | frame m fs =>
  obtain⟨h0,h1⟩:=h;refine A4.keeps (V:=V.buts hs) (o:=.frame m (Cg hs fs)) hk a ⟨h0,λs z d=>?_⟩;rw[Fd]at d;simp only[Is]at d;obtain⟨y,i,rfl⟩:=d;exact Rh (h1 s y i)
 | loop L=>exact A4.keeps (V:=V.buts hs) hk a h
 | itr p t q r n=>exact A4.keeps (V:=V.buts hs) hk a h
 | dfr=>exact A4.keeps (V:=V.buts hs) hk a h
 | sit sb sp=>exact A4.keeps (V:=V.buts hs) hk a h
section
variable {w0:World} {K O0:Nat->Prop} {nt:Nat} {ds:Fp} {σ:St} {ρ:Nat->Value} {a:Act} {w:World}
theorem Bx.swap (h:Bx w0 K O0 nt ds σ ρ a w) (H:∀b,K b->b<w0.heap.size) (ad:∀b,O0 b->b<w0.heap.size) {T:Nat->Prop} (hT:∀n,T n->GJ n=false/\∃o,lk n σ.objs=some o/\seat (ρ n))
  {new:List (Nat×Obj)} {σ':St} {ρ':Nat->Value} {w':World} {dst:Option Nat} {u:Value}
  (V:w'.os=w.os) (aa:w'.tape=w.tape) (W:w'.output=w.output) (Y:w.heap.size<=w'.heap.size)
  (M:∀b,b<w.heap.size->(∀n,T n->¬bk (ρ n) b)->w'.heap[b]?=w.heap[b]?)
  (r:∀n o,lk n σ'.objs=some o->lk n new=none->¬T n/\∃d,lk n σ.objs=some d)
  (N:∀n o,lk n σ.objs=some o->¬T n->lk n new=none/\∃d,lk n σ'.objs=some d)
  (l:∀n,lk n new=none->ρ' n=ρ n)
  (D:∀n o b,lk n new=some o->bk (ρ' n) b->(∃m,T m/\bk (ρ m) b)\/w.heap.size<=b)
  (I:∀n m o t b,lk n new=some o->lk m new=some t->bk (ρ' n) b->bk (ρ' m) b->n=m)
  (U:∀n o,lk n σ'.objs=some o->A4 (vw w' O0 σ' ρ') o (ρ' n))
  (J:∀s v,lk s σ'.env=some v->Bu (vw w' O0 σ' ρ') v ((a.put dst u).tmps.getD s undef)) :
  Bx w0 K O0 nt ds σ' ρ' (a.put dst u) w':=by
 have ae:∀m,T m->∀b,bk (ρ m) b->b<w.heap.size:=λm c b i=>by
  obtain⟨_,o,g,_⟩:=hT m c;exact(h.objs m o g).block_lt i
 have A:∀m,T m->∀b,bk (ρ m) b->¬K b/\¬O0 b:=λm c b i=>by
  obtain⟨_,o,g,_⟩:=hT m c;exact h.free m b ⟨o,g⟩ i
 refine⟨⟨V.trans h.frm.os,aa.trans h.frm.tape,W.trans h.frm.output,gO h.frm.size Y,λk hk=>?_⟩,by rw[Ng];exact h.nt,by rw[I9];exact h.defers,λp X=>?_,U,?_,?_,J⟩
 .exact(M k (AAu (H k hk) h.frm.size) λn hn i=>(A n hn k i).1 hk).trans (h.frm.block k hk)
 .obtain⟨⟨o,h1⟩,f,j⟩:=h.pin p X;have P:¬T p.1:=λZ=>by
   obtain⟨hf,_,_,hs⟩:=hT _ Z;rw[f]at hs;rcases j with j|j
   .rcases hs with ⟨_,_,_,z⟩|⟨_,z⟩<;>rw[z]at j<;>cases j
   rw[hf]at j;cases j
  obtain⟨F,G⟩:=N p.1 o h1 P;exact⟨G,(l _ F).trans f,j⟩
 .intro n b y i;obtain⟨o,g⟩:=y;cases hn:lk n new with
  | none =>
   obtain⟨_,d,h1⟩:=r n o g hn;rw[l n hn]at i;exact h.free n b ⟨d,h1⟩ i
  | some e =>
   rcases D n e b hn i with ⟨m,c,x⟩|L
   .exact A m c b x
   have:=h.frm.size;grind
 have key:∀n m o e b,lk n σ'.objs=some o->lk n new=none->lk m new=some e->bk (ρ' n) b->bk (ρ' m) b->False:=by
  intro n m o e b g hn c h1 f;obtain⟨Q,d,q⟩:=r n o g hn;rw[l n hn]at h1;rcases D m e b c f with ⟨E,B,x⟩|L
  .obtain⟨_,ab,S,_⟩:=hT E B;have:=h.dist n E b ⟨d,q⟩ ⟨ab,S⟩ h1 x;exact Q (this▸B)
  have af:b<w.heap.size:=(h.objs n d q).block_lt h1;omega
 intro n m b y O h1 f;obtain⟨o,g⟩:=y;obtain⟨t,C⟩:=O;cases hn:lk n new with
 | none =>
  cases c:lk m new with
  | none =>
   obtain⟨_,d,q⟩:=r n o g hn;obtain⟨_,e,R⟩:=r m t C c;rw[l n hn]at h1;rw[l m c]at f;exact h.dist n m b ⟨d,q⟩ ⟨e,R⟩ h1 f
  | some e=>exact(key n m o e b g hn c h1 f).elim
 | some d =>
  cases c:lk m new with
  | none=>exact(key m n t d b C c hn f h1).elim
  | some e=>exact I n m d e b hn c h1 f
end
end
section
open Go Go.RowKit
structure Np (V V':Vw) (n:Nat) (hs:List Nat):Prop where
 O:∀b,b<V.w.heap.size->¬V.O b->¬V'.O b
 L:∀m,V.L m->AY m hs=false->V'.L m
 ρ:∀m,V.L m->AY m hs=false->m≠n->V'.ρ m=V.ρ m
 tup:∃vs,V.ρ n=.tuple vs
 plc:plc (V'.ρ n)=plc (V.ρ n)
 heap:∀b,b<V.w.heap.size->¬V.O b->V'.w.heap[b]?=V.w.heap[b]?
section
variable {V V':Vw} {n:Nat} {hs:List Nat}
theorem Np.pl (h:Np V V' n hs) {m:Nat} (a:V.L m) (b:AY m hs=false):Fw.plc (V'.ρ m)=Fw.plc (V.ρ m):=by
 by_cases e:m=n
 .subst e;exact h.plc
 rw[h.ρ m a b e]
theorem Np.ptr (h:Np V V' n hs) {m:Nat} (b:V.L m) (c:AY m hs=false) (d:V.ρ m=v) (f:∀a,v≠.tuple a):V'.ρ m=v:=by
 have e:m≠n:=λe=>by
  obtain⟨a,h1⟩:=h.tup;grind
 rw[h.ρ m b c e,d]
theorem Xk (h:Np V V' n hs) (c:KR V x v):KR V' (x.trn n hs) v:=by
 cases x;case ag l=>exact c.elim
 case tup l=>exact c.elim
 case p t d=>simp only[AV.trn];exact BQ.mono h.O h.heap c
 case pc e d=>simp only[AV.trn];exact⟨BQ.mono h.O h.heap c.1,c.2⟩
 case raw u=>simp only[AV.trn];exact c
 case fn f=>simp only[AV.trn];exact c
 case top=>trivial
 case ip t d =>
  simp only[AV.trn];obtain⟨ad,cs,o,q,r,B⟩:=c;have s:ad.block<V.w.heap.size:=by
   have H:=t.size_pos;have F:=B.length;have:=block_lt_of_cell (r 0 (cs[0]'(by omega)) (An O1))
   rwa [Bv]at this
  refine⟨ad,cs,o,h.O _ s q,λj u C=>?_,Bn.mono h.O h.heap B⟩;rw[ABx (w:=V.w) (w':=V'.w)]
  .exact r j u C
  rw[Bv];exact h.heap _ s q
 case sr m e lo hi =>
  simp only[AV.trn];split
  .trivial
  rename_i a;have a:AY m hs=false:=by simpa using a
  exact⟨h.L m c.1 a,by rw[h.pl c.1 a];exact c.2⟩
 case ep m e i E off =>
  simp only[AV.trn];split
  .trivial
  rename_i a;have a:AY m hs=false:=by simpa using a
  exact⟨h.L m c.1 a,by rw[h.pl c.1 a];exact c.2⟩
 case nin m e i len =>
  simp only[AV.trn];split
  .trivial
  rename_i a;have D:m≠n:=λe=>a (.inl e);have y:AY m hs=false:=by grind
  exact⟨h.L m c.1 y,by rw[h.ρ m c.1 y D];exact c.2⟩
 case bp m E off =>
  simp only[AV.trn];split
  .trivial
  rename_i a;have a:AY m hs=false:=by simpa using a
  obtain⟨g,b,k,o⟩:=c;exact⟨h.L m g a,b,h.ptr g a k (λ_ e=>by cases e),o⟩
 case mp m =>
  simp only[AV.trn];split
  .trivial
  rename_i a;have a:AY m hs=false:=by simpa using a
  obtain⟨g,b,k,o⟩:=c;exact⟨h.L m g a,b,h.ptr g a k (λ_ e=>by cases e),o⟩
 case yl m =>
  simp only[AV.trn];split
  .trivial
  rename_i a;have a:AY m hs=false:=by simpa using a
  obtain⟨g,b,k,o⟩:=c;exact⟨h.L m g a,b,h.ptr g a k (λ_ e=>by cases e),o⟩
 case clo f ns =>
  simp only[AV.trn];split
  .trivial
  rename_i G;have z:∀m∈ns,AY m hs=false:=λm a=>by grind
  have A:∀m∈ns,V'.ρ m=V.ρ m:=λm a=>by
   obtain⟨g,b,k⟩:=c.2 m a;rw[h.ptr g (z m a) k (λ_ e=>by cases e),k]
  refine⟨?_,λm a=>⟨h.L m (c.2 m a).1 (z m a),by rw[A m a];exact(c.2 m a).2⟩⟩;rw[c.1]
  congr 1
  exact AAb λm a=>(A m a).symm
theorem sI (h:Np V V' n hs) {cs:List Value} (h0:VS x=false) (b:FM V x cs):FM V' (x.trn n hs) cs:=by
 cases x;case p t d=>simp only[AV.trn];exact(Bn.mono h.O h.heap b:Bn V'.w V'.O t cs d)
 case ag l=>cases h0
 case tup l=>obtain⟨v,_,_,hf⟩:=b;exact hf.elim
 all_goals
  obtain⟨v,rfl,h1,e⟩:=b;have a:=Xk h e;simp only[AV.trn]at a ⊢;first
   | exact⟨v,rfl,h1,a⟩
   | (split at a<;>rename_i c<;>first|(rw[At c];exact⟨v,rfl,h1,a⟩)|(rw[As c];exact⟨v,rfl,h1,a⟩))
theorem sJ (h:Np V V' n hs):(∀(x:AV) (cs:List Value),FM V x cs->FM V' (x.trn n hs) cs)/\∀(l:List AV) (cs:List Value),AVCs V l cs->AVCs V' (AV.trns n hs l) cs :=
 Nf (λ_=>by simp only[AV.trn]) (by simp only[AV.trns]) (λ_ _=>by simp only[AV.trns]) (sI h)
theorem Sl (h:Np V V' n hs) {l:List AV} {cs:List Value} (a:AVCs V l cs):AVCs V' (AV.trns n hs l) cs:=(sJ h).2 l cs a
theorem A0v (h:Np V V' n hs) (a:QO V x v):QO V' (x.trn n hs) v:=by
 cases x;case ag l=>obtain⟨cs,h1,b⟩:=a;simp only[AV.trn];exact⟨cs,h1,Sl h b⟩
 all_goals exact QO.of1 (Xk h a)
theorem ZQ (h:Np V V' n hs):∀ {l:List AV} {a:List Value},Gz V l a->Gz V' (AV.trns n hs l) a
 | [],a,b=>(b:a=[])
 | x :: r,a,b=>by
  obtain⟨v,d,rfl,h1,c⟩:=b;simp only[AV.trns];exact⟨v,d,rfl,A0v h h1,ZQ h c⟩
theorem Xl (h:Np V V' n hs) (b:Bu V x v):Bu V' (x.trn n hs) v:=by
 cases x;case ag l=>obtain⟨cs,h1,a⟩:=b;simp only[AV.trn];exact⟨cs,h1,Sl h a⟩
 case tup l=>obtain⟨c,h1,a⟩:=b;simp only[AV.trn];exact⟨c,h1,ZQ h a⟩
 all_goals exact A0s (Xk h b)
theorem Ew (n:Nat) (hs:List Nat) (s:Nat):∀l:List (Nat×AV),lk s (D1 n hs l)=(lk s l).map (AV.trn n hs)
 | []=>rfl
 | (j,v) :: l=>by
  simp only[D1,lk];split
  .rfl
  exact Ew n hs s l
theorem QY (n:Nat) (hs:List Nat):∀l:List AV,(AV.trns n hs l).length=l.length
 | []=>rfl
 | _ :: r=>by simp[AV.trns,QY n hs r]
theorem C7 (n:Nat) (hs:List Nat) (m:Nat):∀l:List (Nat×Obj),lk m (Cm n hs l)=if AY m (n :: hs)=true then none else (lk m l).map (Obj.trn n hs)
 | []=>by simp[Cm,lk]
 | (j,o) :: l=>by
  simp only[Cm];by_cases a:AY j (n :: hs)=true
  .rw[At a,C7 n hs m l];grind [lk]
  rw[As a];simp only[lk];by_cases b:m=j
  .subst b;simp[a]
  simp[b,C7 n hs m l]
theorem jM (h:Np V V' n hs) {o:Obj} {loc:Value} (c:∀b,bk loc b->V'.w.heap[b]?=V.w.heap[b]?) (a:A4 V o loc):A4 V' (o.trn n hs) loc:=by
 have hk:CZ ⟨V.w,V.O,λ_=>False,V.ρ⟩ V':=⟨h.O,λ_ h=>h.elim,λ_ h=>h.elim,h.heap⟩;cases o with
 | arr et e xs=>exact A4.keeps (V:=⟨V.w,V.O,λ_=>False,V.ρ⟩) (o:=.arr et e xs) hk c a
 | box et st fs =>
  obtain⟨h0,b,cs,rfl,h1,f⟩:=a;exact⟨λi=>by rw[QY];exact h0 i,b,cs,rfl,(c b (.inl rfl)).trans h1,Sl h f⟩
 | mapo k v l=>exact A4.keeps (V:=⟨V.w,V.O,λ_=>False,V.ρ⟩) (o:=.mapo k v l) hk c a
 | nest et p k e xs g=>exact A4.keeps (V:=⟨V.w,V.O,λ_=>False,V.ρ⟩) (o:=.nest et p k e xs g) hk c (Lc (V:=V) (V':=⟨V.w,V.O,λ_=>False,V.ρ⟩) rfl rfl a)
 | frame x fs =>
  obtain⟨h0,h1⟩:=a;refine⟨h0,λs z d=>?_⟩;rw[Ew]at d;simp only[Is]at d;obtain⟨y,j,rfl⟩:=d;exact Xl h (h1 s y j)
 | loop L=>exact A4.keeps (V:=⟨V.w,V.O,λ_=>False,V.ρ⟩) (o:=.loop L) hk c a
 | itr q u r t m=>exact A4.keeps (V:=⟨V.w,V.O,λ_=>False,V.ρ⟩) (o:=.itr q u r t m) hk c a
 | dfr=>exact A4.keeps (V:=⟨V.w,V.O,λ_=>False,V.ρ⟩) (o:=.dfr) hk c a
 | sit sb sp=>exact A4.keeps (V:=⟨V.w,V.O,λ_=>False,V.ρ⟩) (o:=.sit sb sp) hk c a
end
end
section
open Go Go.RowKit
theorem dL {t:Ty} (h:t.cell1=true):t.size=1:=by cases t<;>simp[Ty.cell1]at h<;>rfl
theorem Vq {V:Vw} {ty:Ty} (c:FM V x a) (hf:NX ty x=true):a.length=ty.size:=by
 by_cases b:x=.top
 .subst b;obtain⟨v,rfl,_⟩:=c;grind [NX,dL]
 have hf:CE ty x=true:=by cases x<;>first|exact hf|exact absurd rfl b
 exact(dH c hf).1
theorem Vr {V:Vw} {ty:Ty} {u v:AV} {j:List Value} (hu:NX ty u=true) (M:CE ty v=true)
  (H:∀l,v=.ag l->AVCs V l j) (n:(∀l,v≠.ag l)->FM V v j) (K:j.length=ty.size):∀ {E:List Nat} {st:Bool} {fs m:List AV} {off:Nat} {cs:List Value},AVCs V fs cs->(st=false->fs.length=1) ->
  FY st fs v E=some m->IM fs E=some off->EZ st fs E=some u->off+j.length<=cs.length/\AVCs V m (Ay cs off j)/\(st=false->m.length=1)
 | [],st,fs,m,off,cs,c,C,h,f,b=>by
  simp only[IM]at f;cases f;cases st with
  | true =>
   simp only[FY,EZ,AAB]at h b;cases b;have R:cs.length=ty.size:=by
    have:=c.length;cases ty<;>simp only[NX,CE]at hu<;>try(cases hu;done)
    grind [Ty.size]
   rw[DY O1];split at h
   .cases h;exact⟨by omega,r7 _ _ _ _ (n sc),by simp⟩
   .cases h;exact⟨by omega,H _ rfl,by simp⟩
   cases h
  | false =>
   simp only[FY,EZ,AAM,AAR]at h b;split at h
   .rename_i i;have i:∀l,v≠.ag l:=λl e=>by subst e;simp[QJ]at i
    cases h;obtain⟨x,rfl⟩:=AAF.1 (C rfl);simp at b;subst b;obtain⟨c1,c2,rfl,h1,a⟩:=c;have a:c2=[]:=a;subst a;have I:=Vq h1 hu;rw[AAk,DY O1];exact⟨by omega,⟨j,[],by simp,n i,rfl⟩,by simp⟩
   cases h
 | [k],st,fs,m,off,cs,c,C,h,f,b=>by
  simp only[FY]at h;split at h
  .rename_i F;simp only[AT]at F;obtain⟨rfl,i⟩:=F;have i:∀l,v≠.ag l:=λl e=>by subst e;simp[QJ]at i
   cases h;simp only[EZ,AAB]at b;obtain⟨h1,a⟩:=c.get b;have I:=Vq a hu;have Q:=a.length;have L:off=CD fs k:=by grind [IM,L4]
   subst L;have z:=n i;have g:=z.length;exact⟨by omega,c.set b z O1,by simp⟩
  cases h
 | k :: S :: r,st,fs,m,off,cs,c,C,h,f,b=>by
  cases st with
  | false=>simp[FY]at h
  | true =>
   simp only[FY,AAB]at h;split at h
   .rename_i t d P x hk;simp only[Is]at h;obtain⟨y,D,rfl⟩:=h;simp only[IM,hk,Is]at f;obtain⟨N,B,rfl⟩:=f;obtain⟨h1,a⟩:=c.get hk;have A:Bn V.w V.O t _ d:=a;have z:Bn V.w V.O P j x:=n sc;obtain⟨g,q⟩:=Sa D B A z;have s:=a.length;simp only[AV.cells]at h1 s q g;have o:=c.set (y:=.p t y) hk (g:Bn V.w V.O t _ y) rfl;rw[H4 _ _ _ _ _ O1 h1]at o;exact⟨by omega,o,by simp⟩
   .rename_i l hk;simp only[Is]at h;obtain⟨l',D,rfl⟩:=h;simp only[IM,hk,Is]at f;obtain⟨N,B,rfl⟩:=f;simp only[EZ,AAB,hk]at b;obtain⟨h1,a⟩:=c.get hk;have A:AVCs V l _:=a;have s:=a.length;obtain⟨g,q,_⟩:=Vr hu M H n K A sc D (by simpa only[IM] using B) b;have J:(AV.ag l').cells=(AV.ag l).cells:=by
     have G:=FM.length (V:=V) (x:=.ag l') q;rw[Dm g]at G;rw[<-G,s]
    have o:=c.set (y:=.ag l') hk (show FM V (.ag l') _ from q) J;rw[s]at g;rw[H4 _ _ _ _ _ g h1]at o;exact⟨by omega,o,by simp⟩
   cases h
section
variable {P:Program} {tb:Tb} {w0:World} {K O0:Nat->Prop} {nt:Nat} {ds:Fp} {σ σ':St} {ρ:Nat->Value} {a:Act} {w:World} {vc:Prop}
theorem QZ {n:Nat} {o:Obj} (hn:lk n σ.objs=some o) {g:Nat} (c:blk (ρ n)=some g) {w':World} (d:w.grownBy w' (some g)):CZ (vw w O0 σ ρ) (vw w' O0 σ ρ) :=
 ⟨λ_ _ h=>h,λ_ h=>h,λ_ _=>rfl,λb f a=>d.block b f (λe=>by injection e with e;subst e;exact a (.inr ⟨n,⟨o,hn⟩,.inl c⟩))⟩
theorem E9 (w:World) (g:Nat) (cs:Array Value):w.grownBy (w.setRow g cs) (some g) :=
 ⟨rfl,rfl,rfl,by simp,λk _ hk=>setRow_other w g k cs (λe=>hk (by rw[e]))⟩
theorem KW (hT:Dh P tb t Y) {g off:Nat} {cs:List Value} {et:TypeId} {xv:Value} (hh:w.heap[g]?=some (.cells cs.toArray et (0,0))) (hs:xv.cells.size=Y.ty.size)
  (b:off+xv.cells.toList.length<=cs.length) (h1:∀u∈xv.cells.toList,u.oneCell'=true) :
  (Instr.storeAt t (.pointer (some ⟨g,off,none⟩)) xv).run P w=.ok () (w.setRow g (Ay cs off xv.cells.toList).toArray):=by
 have a:=run_storeCells_at P g off et xv.cells.toList 0 cs.toArray w hh (by simpa using b) h1;simp only[Nat.add_zero]at a;have c:¬xv.cells.size≠Y.ty.size:=by omega
 simp only[Instr.storeAt,Instr.sureAddr,storeVar,AAv,AAV,AA8,G1 w hT,As c,a];rfl
theorem jN {w':World} {next:Act->World->Prop} {Q:Exit->Act->World->Prop} {r:Option Nat} (h:(execOp a.eval o).run P w=.ok .skip w') (hn:next (a.put o.dst undef) w') (b:∀c,o.op≠.defer c:=by intro c e;cases e):o.wpIn (FR r) 0 P a w next Q:=by
 refine⟨λ_ _=>trivial,?_⟩;rw[D6 _ _ _ b,h];exact hn
theorem nE (hs:Bx w0 K O0 nt ds σ ρ a w) (al:∀b,K b->b<w0.heap.size) (hT:Cs P tb) {x:Operand} (bu:∀n e i s off,Ab σ x=some (.ep n e i s off)->Cq (lk n σ.objs)=false) (h:H2 σ (lk t tb.ty) (Ab σ x) (Ab σ y)=some (vc,σ')) (cz:vc) :
  ∃w',(Instr.storeAt t (a.eval x) (a.eval y)).run P w=.ok () w'/\Bx w0 K O0 nt ds σ' ρ a w':=by
 have G:D5 (vw w O0 σ ρ) σ a.eval:=CN hs.env;unfold H2 at h;split at h
 .rename_i ti n s off v ab Q ah;have af:=G x _ Q;have D:=G y _ ah;cases hn:lk n σ.objs with
  | none=>rw[hn]at h;simp[DF]at h
  | some o =>
   rw[hn]at h;cases o with
   | arr et e xs=>simp[DF]at h
   | mapo k v l=>simp[DF]at h
   | frame cn fs=>simp[DF]at h
   | loop L=>simp[DF]at h
   | itr ci cl cj ck cg=>simp[DF]at h
   | dfr=>simp[DF]at h
   | sit sb sp=>simp[DF]at h
   | nest et ch k e xs bq=>simp[DF]at h
   | box et st fs =>
    simp only[DF]at h;cases I:EZ st fs s with
    | none=>rw[I]at h;simp[E5]at h
    | some u =>
     cases Z:FY st fs v s with
     | none=>rw[I,Z]at h;simp[E5]at h
     | some cr =>
      rw[I,Z]at h;simp only[E5]at h;split at h
      .rename_i ay;obtain⟨hu,ad,bv,_⟩:=ay;cases h;obtain⟨cb,b,cs,W,C,bi⟩:=hs.objs n _ hn;obtain⟨bg,cp,f,ae⟩:=af;have f:ρ n=_:=f;rw[W]at f;injection f with f
       injection f with f
       injection f with f
       subst f;have H:=rR D ad (MG D ad);have am:∀l,v=.ag l->AVCs (vw w O0 σ ρ) l (a.eval y).cells.toList:=by
        intro l e;subst e;obtain⟨cq,A,bj⟩:=D;rw[A];simpa[Value.cells] using bj
       obtain⟨h1,R,bd⟩:=Vr hu ad am (λJ=>H.2 J) (by simpa using H.1) bi cb Z bv I;have bx:∀z∈(a.eval y).cells.toList,z.oneCell'=true:=by
        by_cases J:∃l,v=.ag l
        .obtain⟨l,e⟩:=J;exact(am l e).one
        exact(H.2 (λl e=>J ⟨l,e⟩)).one
       have Y:=KW (hT _ _ ab) C H.1 h1 bx;rw[ae];refine⟨_,Y,?_⟩;have id:blk (ρ n)=some b:=by rw[W];rfl
       refine hs.upd al hn id (E9 w b _) ⟨bd,b,_,W,setRow_heap w b _ _ et _ C,?_⟩;exact R.keeps (QZ hn id (E9 w b _))
      cases h
 .rename_i ti n e i s off v ab Q ah;have af:=G x _ Q;have D:=G y _ ah;cases hn:lk n σ.objs with
  | none=>rw[hn]at h;simp[DG]at h
  | some o =>
   rw[hn]at h;cases o with
   | box et st fs=>simp[DG]at h
   | mapo k v l=>simp[DG]at h
   | frame cn fs=>simp[DG]at h
   | loop L=>simp[DG]at h
   | itr ci cl cj ck cg=>simp[DG]at h
   | dfr=>simp[DG]at h
   | sit sb sp=>simp[DG]at h
   | nest et ch k e xs bq=>have:=bu _ _ _ _ _ Q;rw[hn]at this;cases this
   | arr et d xs =>
    simp only[DG]at h;cases T:BR (.slice e) ⟨.slice d,xs⟩ with
    | none=>rw[T]at h;simp[Ec]at h
    | some ys =>
     obtain⟨rfl,R⟩:=Bk T;cases R;rw[T]at h;cases S:Hz false σ ti.ty v with
     | none=>rw[S]at h;simp[Ec]at h
     | some co =>
      rw[S]at h;simp only[Ec]at h;cases aa:VO s d (xs.getD i d.dflt) ⟨ti.ty,co⟩ with
      | none=>rw[aa]at h;simp[F2]at h
      | some z =>
       rw[aa]at h;simp only[F2]at h;split at h
       .rename_i bw;cases h;obtain⟨bs,cells,M,F⟩:=hs.objs n _ hn;obtain⟨bg,g,m,c,f,X,ae⟩:=af;have f:plc (ρ n)=_:=f;have M:w.ownsRow 0 et d.size (ρ n) xs.length cells:=M;rw[Ga M]at f;have F:DV w (own O0 σ ρ) d cells xs:=F;have ce:=Eu (V:=vw w O0 σ ρ) (O':=own O0 σ ρ) (λ_ h=>h) (λh=>by cases h) hs.objs S D;obtain⟨ax,aw⟩:=Vk ce;obtain⟨av,bz⟩:=M;rcases bz with ⟨A,_⟩|⟨ct,cap,r,A,cv,C,ao,bh,U,cc⟩
        .grind
        rw[f]at A;injection A with B bk bl
        injection B with B
        injection B with B
        subst B;subst bk;have cf:xs[i]?=some (xs.getD i d.dflt):=by
         rw[An X,AS,An X];rfl
        obtain⟨ak,bn,aq,bm⟩:=F i _ cf;obtain⟨be,bf⟩:=Sa aa bw bm aw;have cu:cells.length=xs.length*d.size:=av;have bp:(i+1)*d.size<=xs.length*d.size:=AA1 _ X;have cw:xs.length*d.size<=cap*d.size:=AA1 _ ao;rw[AAQ]at bp;have an:i*d.size+off+(a.eval y).cells.toList.length<=r.toList.length:=by
         have br:r.toList.length=cap*d.size:=by rw[<-U];simp
         have cy:(a.eval y).cells.toList.length=ti.ty.size:=by rw[<-ax];simp
         omega
        have bo:w.heap[g]?=some (.cells r.toList.toArray et (0,0)):=by simpa using C
        have Y:=KW (hT _ _ ab) bo ax an aw.one;rw[ae];refine⟨_,Y,?_⟩;have id:blk (ρ n)=some g:=by rw[f];rfl
        have ca:(Ay r.toList (i*d.size+off) (a.eval y).cells.toList).length=r.size:=by rw[Dm an];simp
        have cd:(Ay r.toList (i*d.size+off) (a.eval y).cells.toList).take (xs.length*d.size)=Ay cells (i*d.size+off) (a.eval y).cells.toList:=by
         rw[<-cc];apply ABT;intro j;simp only[Ay,AA5,AA7,AAx,On,AAz,ACk];have ai:min (i*d.size+off) r.toList.length=i*d.size+off:=by omega
         have E:min (i*d.size+off) (xs.length*d.size)=i*d.size+off:=by omega
         have cm:min (xs.length*d.size) r.toList.length=xs.length*d.size:=by
          have br:r.toList.length=cap*d.size:=by rw[<-U];simp
          omega
         simp only[ai,E,cm];by_cases c1:j<i*d.size+off
         .simp[c1,show j<xs.length*d.size by omega]
         by_cases c2:j-(i*d.size+off)<(a.eval y).cells.toList.length
         .simp only[c1,c2,AAR,AAB,show j<xs.length*d.size by omega]
         simp only[c1,c2,AAR];by_cases aj:j<xs.length*d.size
         .rw[At aj,At O1]
         rw[As aj,As O1]
        refine hs.upd al hn id (E9 w g _) ⟨by simpa using bs,Ay cells (i*d.size+off) (a.eval y).cells.toList,⟨?_,.inr ⟨g,cap,_,by rw[f,bl];simp,Do _,setRow_heap w g _ _ et _ C,by simpa using ao,bh,by simp[ca,U],?_⟩⟩,?_⟩
        .rw[Dm O1];simpa using av
        .simpa using cd
        have hk:=QZ (O0:=O0) hn id (E9 w g (Ay r.toList (i*d.size+off) (a.eval y).cells.toList).toArray);have bt:DV (vw w O0 σ ρ).w (vw w O0 σ ρ).O d (Ay cells (i*d.size+off) (a.eval y).cells.toList) (xs.set i z):=by
         intro k q N;rw[AAE]at N;split at N
         .rename_i ar;subst ar;cases N;refine⟨Ay ak off (a.eval y).cells.toList,by rw[Dm bf];exact bn,λj u p=>?_,be⟩;simp only[Ay,AA5,AAx,On,AA7,AAz]at p ⊢;have ai:min off ak.length=off:=by omega
          have E:min (i*d.size+off) cells.length=i*d.size+off:=by omega
          simp only[ai]at p;simp only[E];by_cases c1:j<off
          .simp only[c1,AAB]at p;simp only[show i*d.size+j<i*d.size+off by omega,AAB];exact aq _ _ p
          simp only[c1,AAR]at p;simp only[show ¬i*d.size+j<i*d.size+off by omega,AAR];rw[show i*d.size+j-(i*d.size+off)=j-off by omega];by_cases c2:j-off<(a.eval y).cells.toList.length
          .simp only[c2,AAB]at p ⊢;exact p
          simp only[c2,AAR]at p ⊢;have:=aq _ _ p;rw[<-this]
          congr 1
          omega
         rename_i ar;obtain⟨az,ba,bb,bc⟩:=F k q N;refine⟨az,ba,λj u p=>?_,bc⟩;have cx:=(Of.1 p).1;have ap:=bb j u p;simp only[Ay,AA5,AAx,On,AA7,AAz];have E:min (i*d.size+off) cells.length=i*d.size+off:=by omega
         simp only[E];rcases Nat.lt_or_ge k i with au|au
         .have:(k+1)*d.size<=i*d.size:=AA1 _ au;rw[AAQ]at this;simp only[show k*d.size+j<i*d.size+off by omega,AAB];exact ap
         have:(i+1)*d.size<=k*d.size:=AA1 _ O1;rw[AAQ]at this;simp only[show ¬k*d.size+j<i*d.size+off by omega,AAR,show ¬k*d.size+j-(i*d.size+off)<(a.eval y).cells.toList.length by omega];rw[<-ap]
         congr 1
         omega
        exact bt.keeps hk
       cases h
 cases h
theorem nF (hs:Bx w0 K O0 nt ds σ ρ a w) (B:∀b,K b->b<w0.heap.size) (s:Cs P tb) {m x y:Operand} (h:KM tb σ (lk t tb.ty) (Ab σ m) (Ab σ x) (Ab σ y)=some (vc,σ')) :
  ∃w',(Instr.mapUpdate t (a.eval m) (a.eval x) (a.eval y)).run P w=.ok () w'/\Bx w0 K O0 nt ds σ' ρ a w':=by
 have g:D5 (vw w O0 σ ρ) σ a.eval:=CN hs.env;unfold KM at h;split at h
 .rename_i k e _ _ n xv W N J O R;have Q:=g x _ O;have S:=g y _ R;obtain⟨Y,b,d,L⟩:=g m _ J;have d:ρ n=_:=d;cases hn:lk n σ.objs with
  | none=>rw[hn]at h;simp[Ft]at h
  | some o =>
   rw[hn]at h;cases o with
   | mapo Z U l =>
    cases j:lk k tb.ty with
    | none=>simp[Ft,j]at h
    | some T =>
     simp only[Ft,j,ABk,AAK]at h;split at h
     .rename_i E;obtain⟨rfl,F⟩:=E;cases f:Hz false σ T.ty xv with
      | none=>rw[f]at h;simp[GZ]at h
      | some kd =>
       cases p:Hz false σ U W with
       | none=>rw[f,p]at h;simp[GZ]at h
       | some ab =>
        rw[f,p]at h;simp only[GZ]at h;split at h
        .rename_i H;cases h;have h1:=Eu (V:=vw w O0 σ ρ) (O':=own O0 σ ρ) (λ_ h=>h) (λh=>by cases h) hs.objs f Q;have A:=Eu (V:=vw w O0 σ ρ) (O':=own O0 σ ρ) (λ_ h=>h) (λh=>by cases h) hs.objs p S;obtain⟨X,r,q,c,M,⟨aa,z⟩,G,D⟩:=A3F (w:=w) (V:=vw w O0 σ ρ) s (s _ _ N) (n:=n) rfl rfl j rfl (hs.objs n _ hn) F H h1 A;have c:ρ n=_:=c;rw[d]at c;injection c with c
         injection c with c
         subst c;rw[L];refine⟨_,M,?_⟩;have u:blk (ρ n)=some b:=by rw[d];rfl
         have v:w.grownBy { w with heap:=w.heap.setIfInBounds b (.map r q) } (some b) :=
          ⟨rfl,rfl,rfl,by simp,λi _ hi=>(MapKept.heap_set z).2 i (λe=>hi (by rw[e]))⟩
         refine hs.upd B hn u v ⟨b,r,q,d,(MapKept.heap_set z).1,?_⟩;refine⟨?_,D⟩;exact G.mono (λ_ _ h=>h) (λb2 I C=>v.block b2 I (λe=>by injection e with e;subst e;exact C (.inr ⟨n,⟨_,hn⟩,.inl u⟩)))
        cases h
     cases h
   | _=>simp[Ft]at h
 cases h
end
end
section
open Go Go.RowKit
section
variable {P:Program} {tb:Tb} {w0:World} {K O0:Nat->Prop} {nt:Nat} {ds:Fp} {σ σ':St} {ρ:Nat->Value} {a:Act} {w:World} {vc:Prop} {id:TypeId}
theorem Ri {w:World} {base:Nat} {et:TypeId} {sz n:Nat} {s:Value} {xs:List Value} (h:w.ownsRow base et sz s n xs):s.ownBlock=blk s:=by
 rcases h.2 with ⟨rfl,_⟩|⟨g,cap,a,rfl,_⟩<;>rfl
theorem Gb (v:Cs P tb) {el:TypeId} (hu:P.underlying id=some (.slice el)) {te:TI} (A:lk el tb.ty=some te) (J:te.ty=e) {base ty:Nat} {s xv:Value} {n:Nat} {xs C:List Value}
  (q:w.ownsRow base el e.size s n xs) {O:Nat->Prop} {ys:List e.den} (T:Src w O e xv ys C) (U:(n+ys.length)*te.bytes<=AO) {f:Value} {w':World}
  (h:(Builtin.append_ #[id,id] ty #[s,xv]).run P w=.ok f w'):blk f=blk s\/∀b,blk f=some b->w.heap.size<=b:=by
 subst J;obtain⟨⟨⟨_,H,_⟩,i,z,hi,o,x,B,ai⟩,_⟩:=v _ _ A;have R:n+ys.length<=AO:=by
  have:(n+ys.length)*1<=(n+ys.length)*te.bytes:=AB8 _ H;omega
 have ae:AO=140737488355328:=rfl;obtain⟨⟨a,c,rfl,F⟩,M,Z,ag,ab⟩:=T;have hs:(sizeOf el).run P w=.ok te.ty.size w:=G1 w (v _ _ A);have aj:∀ {l D:Nat} {W:World},Result.ok (Value.slice (some ⟨w.heap.size,0,none⟩) l D) W=Result.ok f w'->blk f=blk s\/∀b,blk f=some b->w.heap.size<=b:=by grind [blk]
 have V:∀(ad:Addr) (m:Nat) (d:List Value),d.length=m*te.ty.size->(∀(j:Nat) (u:Value),d[j]?=some u->w.cell? (ad.add j)=some u)->(∀u∈d,u.oneCell'=true)->n+m<=AO->(n+m)*te.bytes<=AO ->
   (Builtin.append_ #[id,id] ty #[s,.slice (some ad) m c]).run P w=.ok f w'->blk f=blk s\/∀b,blk f=some b->w.heap.size<=b:=by
  intro ad m d k p h1 aa G h;rcases q.2 with ⟨rfl,rfl⟩|⟨g,cap,t,rfl,X,L,af,Y,I,ah⟩
  .by_cases N:m=0
   .subst N;have:d=[]:=AA0 (by simpa using k);simp[Builtin.append_,aS hu,hs,Builtin.lenOf,Builtin.firstCells,loadCells,loadCellsFrom]at h;grind
   have:=run_append_nil (P:=P) w id ty el i z hu hi B ad m c d (by rw[o];exact k) p O1 O1 (by rw[x];simp at G;omega);grind
  by_cases y:n+m<=cap
  .have K:n*i.size+d.length<=t.size:=by
    rw[k,o,I,<-ABR];exact AA1 _ y
   have:=run_append_room (P:=P) w id ty el i hu hi g n cap t L ad m c d (by rw[o];exact k) p h1 y K;rw[this]at h;injection h with r E
   subst r;exact .inl rfl
  have S:∀j u,xs[j]?=some u->w.cell? ((⟨g,0,none⟩:Addr).add j)=some u:=q.cells (g:=g) rfl;have:=run_append_grow (P:=P) w id ty el i z hu hi B ⟨g,0,none⟩ n cap xs (by rw[o];exact q.1) S ad m c d (by rw[o];exact k) p O1 O1 (by rw[x];exact growslice_fits O1 O1);grind
 rcases F with rfl|⟨ad,rfl,p⟩
 .have Q:C=[]:=AA0 (by simpa using M);subst Q;cases a with
  | none =>
   have:=QR (P:=P) (ty:=ty) hu hs q c;rw[show ([]:List te.ty.den).length=0 from rfl,this]at h;injection h with r E
   subst r;exact .inl rfl
  | some ad=>exact V ad 0 [] sc sc sc (by simpa using R) (by simpa using U) h
 grind
theorem dM {w:World} {O:Nat->Prop} {c:List Value} {xs:List e.den} (h:DV w O e c xs) (n:Nat):DV w O e (c.take (n*e.size)) (xs.take n):=by
 intro i x hi;rw[AA7]at hi;split at hi
 .rename_i g;obtain⟨a,b,k,d⟩:=h i x hi;refine⟨a,b,λj u f=>?_,d⟩;have l:=(Of.1 f).1;have:(i+1)*e.size<=n*e.size:=AA1 _ g;grind
 cases hi
theorem dN (hs:Bx w0 K O0 nt ds σ ρ a w) (af:∀b,K b->b<w0.heap.size) (ag:∀b,O0 b->b<w0.heap.size) (hT:Cs P tb) {d:Option Nat} (ai:∀k,d=some k->k<nt) {t u ty:TypeId} {x:Operand}
  (h:DH tb σ d t u (Ab σ x) (Ab σ y)=some (vc,σ')) (ar:vc) (ah:∃n e hi,Ab σ x=some (.sr n e 0 hi)/\Cq (lk n σ.objs)=false) :
  ∃z w' ρ',(Builtin.append_ #[t,u] ty #[a.eval x,a.eval y]).run P w=.ok z w'/\Bx w0 K O0 nt ds σ' ρ' (a.put d z) w':=by
 have O:D5 (vw w O0 σ ρ) σ a.eval:=CN hs.env;obtain⟨n0,ad,am,Y,S⟩:=ah;unfold DH at h;split at h
 .rename_i n e hi v X au;obtain⟨rfl,rfl,rfl⟩:n=n0/\e=ad/\hi=am:=by rw[X]at Y;cases Y;exact⟨rfl,rfl,rfl⟩
  split at h
  .rename_i d;split at h
   .rename_i I;obtain⟨I,al⟩:=I;subst I;cases H:lk t tb.ty with
    | none=>rw[H]at h;simp[Ed]at h
    | some ti =>
     rw[H]at h;unfold Ed at h;split at h
     .rename_i p offs el b i;cases i;split at h
      .rename_i aj;subst aj;obtain⟨hu,bi,te,G,U⟩:=CM (hT _ _ H) hT;rw[G]at h;cases hn:lk n σ.objs with
       | none=>rw[hn]at h;cases f:NW σ p v<;>rw[f]at h<;>simp[CP]at h
       | some o =>
        rw[hn]at h;cases o with
        | box et st fs=>cases f:NW σ p v<;>rw[f]at h<;>simp[CP]at h
        | mapo av v1 l=>cases f:NW σ p v<;>rw[f]at h<;>simp[CP]at h
        | frame br fs=>cases f:NW σ p v<;>rw[f]at h<;>simp[CP]at h
        | loop L=>cases f:NW σ p v<;>rw[f]at h<;>simp[CP]at h
        | itr bl bo bm bn bj=>cases f:NW σ p v<;>rw[f]at h<;>simp[CP]at h
        | nest et bk av s xs be=>rw[hn]at S;cases S
        | dfr=>cases f:NW σ p v<;>rw[f]at h<;>simp[CP]at h
        | sit sb sp=>cases f:NW σ p v<;>rw[f]at h<;>simp[CP]at h
        | arr et j xs =>
         simp only[CP]at h;split at h
         .rename_i ak;subst ak;cases B:BR (.slice p) ⟨.slice j,xs⟩ with
          | none=>rw[B]at h;simp[E6]at h
          | some bs =>
           obtain⟨rfl,ae⟩:=Bk B;cases ae;rw[B]at h;cases f:NW σ j v with
           | none=>rw[f]at h;simp[E6]at h
           | some ys =>
            rw[f]at h;simp only[E6]at h;cases h;obtain⟨bp,F⟩:=Rg hs.objs f (O y _ au);obtain⟨bh,cells,r,C⟩:=hs.objs n _ hn;have r:w.ownsRow 0 et j.size (ρ n) xs.length cells:=r;have C:DV w (own O0 σ ρ) j cells xs:=C;obtain⟨bb,aa,m,c,q,bg,bd,Z,ab,J,bc,h0,h1⟩:=O x _ X;have q:plc (ρ n)=.slice aa m c:=q;rw[Ga r]at q;obtain⟨rfl,rfl⟩:=h0 rfl;simp only[Nat.sub_zero]at J;have bf:=r.1;have R:hi<=xs.length:=by
             rcases r.2 with ⟨i,ap⟩|⟨g,cap,M,i,_⟩
             .rw[q]at i;injection i;omega
             rw[q]at i;injection i;omega
            have ao:hi*j.size<=xs.length*j.size:=AA1 _ R;have E:w.ownsRow 0 et j.size (a.eval x) hi (cells.take (hi*j.size)):=by
             rw[J];refine⟨by rw[On];omega,?_⟩;rcases r.2 with ⟨i,ap⟩|⟨g,cap,M,i,aw,ax,bq,ay,az,ba⟩
             .rw[q]at i;injection i with s j A
              subst s;subst A;have:hi=0:=by omega
              subst this;exact .inl ⟨rfl,rfl⟩
             rw[q]at i;injection i with s j A
             subst s;subst A;refine .inr ⟨g,ab,M,rfl,aw,ax,by omega,ay,az,?_⟩;rw[<-ba,ACk,AC5 ao]
            have V:(hi+ys.length)*te.bytes<=AO:=ar;obtain⟨z,w',T,aq,Q,an⟩:=Fc (ty:=ty) hT hu G U E F V (Do _);have W:=Gb (ty:=ty) hT hu G U E F V T;have N:blk (a.eval x)=blk (ρ n):=by
             rw[J,q];cases Z<;>rfl
            rw[N]at W;rw[Ri E,N]at Q;refine⟨z,w',EF ρ n z,T,?_⟩;have D:(xs.take hi++ys).length=hi+ys.length:=by simp;omega
            exact hs.app af ag al hn Q W (by rw[D];exact an) (by rw[D];exact aq) (JD (dM C hi) F.elems (by rw[On,On];rw[AC5 R];omega)) (ai d rfl) D.symm
         cases h
      cases h
     cases h
   cases h
  cases h
 .grind
 .grind
 cases h
theorem Lf (n:Nat) (e:Ty) (xs:List e.den) (s:Nat):∀l:List (Nat×AV),lk s (DJ n e xs l)=(lk s l).map (AV.frz n e xs)
 | []=>rfl
 | (j,v) :: l=>by
  simp only[DJ,lk];split
  .rfl
  exact Lf n e xs s l
def Obj.frz (n:Nat) (e:Ty) (xs:List e.den):Obj->Obj
 | .arr et a ys=>.arr et a ys
 | .box et st fs=>.box et st (AV.frzs n e xs fs)
 | .mapo k v l=>.mapo k v l
 | .nest et c k e ys h=>.nest et c k e ys h
 | .frame j fs=>.frame j (DJ n e xs fs)
 | .loop L=>.loop L
 | .itr d i f g b=>.itr d i f g b
 | .dfr=>.dfr
 | .sit sb sp=>.sit sb sp
theorem B8 (n:Nat) (e:Ty) (xs:List e.den) (s:Nat):∀l:List (Nat×Obj),lk s (A6 n e xs l)=(lk s l).map (Obj.frz n e xs)
 | []=>rfl
 | (j,.arr et a ys) :: l=>by
  simp only[A6,lk];split
  .rfl
  exact B8 n e xs s l
 | (j,.box et st fs) :: l=>by
  simp only[A6,lk];split
  .rfl
  exact B8 n e xs s l
 | (j,.mapo k v x) :: l=>by
  simp only[A6,lk];split
  .rfl
  exact B8 n e xs s l
 | (j,.nest _ _ _ _ _ _) :: l=>by
  simp only[A6,lk];split
  .rfl
  exact B8 n e xs s l
 | (j,.frame h fs) :: l=>by
  simp only[A6,lk];split
  .rfl
  exact B8 n e xs s l
 | (j,.loop L) :: l=>by
  simp only[A6,lk];split
  .rfl
  exact B8 n e xs s l
 | (j,.itr c g d f b) :: l=>by
  simp only[A6,lk];split
  .rfl
  exact B8 n e xs s l
 | (j,.dfr) :: l=>by
  simp only[A6,lk];split
  .rfl
  exact B8 n e xs s l
 | (j,.sit sb sp) :: l=>by
  simp only[A6,lk];split
  .rfl
  exact B8 n e xs s l
theorem Qa (n:Nat) (e:Ty) (xs:List e.den):∀l:List AV,(AV.frzs n e xs l).length=l.length
 | []=>rfl
 | _ :: r=>by simp[AV.frzs,Qa n e xs r]
section
variable {V V':Vw} {n:Nat} {et:TypeId} {e:Ty} {xs:List e.den}
structure dP (V V':Vw) (n:Nat):Prop where
 w:V'.w=V.w
 ρ:V'.ρ=V.ρ
 L:∀m,V.L m->m≠n->V'.L m
 O:∀b,¬V.O b->¬V'.O b
 n:∀b,bk (V.ρ n) b->¬V'.O b
theorem dP.keeps (h:dP V V' n):CZ (V.but n) V':=⟨λb _ c=>h.O b c,λm a=>h.L m a.1 a.2,λm _=>by rw[h.ρ];rfl,λb _ _=>by rw[h.w];rfl⟩
structure MH (V V':Vw) (n:Nat) (e:Ty) (xs:List e.den):Prop where
 seat:seat (V.ρ n)
 read:∀lo hi v,C6 (plc (V.ρ n)) e.size lo hi v->Bn V'.w V'.O (.slice e) [v] (sub xs lo hi)
theorem ZR {V:Vw} {et:TypeId} {e:Ty} {xs:List e.den} {loc:Value} (b:A4 V (.arr et e xs) loc):seat loc:=by
 obtain⟨_,cells',c,_⟩:=b;rcases c.2 with ⟨a,_⟩|⟨g,cap,d,a,_⟩
 .exact .inl ⟨_,_,_,a⟩
 exact .inl ⟨_,_,_,a⟩
theorem dP.arr (h:dP V V' n) (a:A4 V (.arr et e xs) (V.ρ n)):MH V V' n e xs:=⟨ZR a,λlo hi v f=>by
 have d:=XY (V:=V) (O':=V'.O) h.O (λb c=>h.n b (.inl c)) a f
 rwa [<-h.w]at d⟩
theorem dP.nest (h:dP V V' n) {f:TypeId} {k e:Ty} {xs:List (k.den×List e.den)} (a:A4 V (.nest et f k e xs none) (V.ρ n)):MH V V' n (.agg (.prod k (.slice e))) xs:=⟨by
 obtain⟨o,ins,cells,b,_⟩:=a;exact b.elim (λh=>.inr ⟨_,h⟩) (λh=>.inl ⟨_,_,_,h.1⟩),λlo hi v d=>by
 have c:=Y9 (V:=V) (O':=V'.O) h.O h.n a d
 rwa [<-h.w]at c⟩
theorem Xm (h:dP V V' n) (g:MH V V' n e xs) {v:Value} (b:KR V x v):KR V' (x.frz n e xs) v/\((∀t d,x≠.p t d)->∀t d,x.frz n e xs=.p t d->t.wrap [v]=v/\Bn V'.w V'.O t [v] d):=by
 have hk:=h.keeps;have c:=g.seat;cases x;case sr m f lo hi =>
  simp only[AV.frz];split
  .rename_i a;subst a;split
   .rename_i q;subst q;obtain⟨y,k⟩:=b;have j:=g.read lo hi v k;obtain⟨_,_,_,_,_,_,s,u,l,_⟩:=k;refine⟨⟨[v],j,by rw[l];rfl⟩,λ_ t d h=>?_⟩;injection h with h1 o
    subst h1;cases o;exact⟨by rw[l];rfl,j⟩
   exact⟨trivial,λ_ t d h=>by cases h⟩
  rename_i a;have:=Hj c b;simp only[AV.drp,As a]at this;exact⟨this.keeps hk,λ_ t d h=>by cases h⟩
 case ep m f i z off =>
  have:=Hj c b;simp only[AV.drp]at this;simp only[AV.frz];split
  .exact⟨trivial,λ_ t d h=>by cases h⟩
  rename_i a;rw[As a]at this;exact⟨this.keeps hk,λ_ t d h=>by cases h⟩
 case nin m f i len =>
  have:=Hj c b;simp only[AV.drp]at this;simp only[AV.frz];split
  .exact⟨trivial,λ_ t d h=>by cases h⟩
  rename_i a;rw[As a]at this;exact⟨this.keeps hk,λ_ t d h=>by cases h⟩
 case p t d=>exact⟨(Hj c b).keeps hk,λr=>absurd rfl (r t d)⟩
 all_goals
  have:=Hj c b;simp only[AV.drp]at this;simp only[AV.frz];exact⟨this.keeps hk,λ_ t d h=>by cases h⟩
theorem sK (h:dP V V' n) (k:MH V V' n e xs) {cs:List Value} (h0:VS x=false) (c:FM V x cs):FM V' (x.frz n e xs) cs:=by
 by_cases g:∃t d,x=.p t d
 .obtain⟨t,d,rfl⟩:=g;simp only[AV.frz];have c:Bn V.w V.O t cs d:=c;have:Bn V'.w V'.O t cs d:=c.mono (λb _ j=>h.O b j) (λb _ _=>by rw[h.w]);exact this
 have m:∃v,cs=[v]/\v.oneCell'=true/\KR V x v:=by
  cases x;case p t d=>exact absurd ⟨t,d,rfl⟩ g
  case ag l=>cases h0
  all_goals exact c
 obtain⟨v,rfl,h1,i⟩:=m;obtain⟨f,a⟩:=Xm h k i;have a:=a (λt d e=>g ⟨t,d,e⟩);generalize o:x.frz n e xs=y at f a;cases y;case p t d=>exact(a t d rfl).2
 case ag l=>exact f.elim
 all_goals exact⟨v,rfl,h1,f⟩
theorem sL (h:dP V V' n) (a:MH V V' n e xs):(∀(x:AV) (cs:List Value),FM V x cs->FM V' (x.frz n e xs) cs)/\∀(l:List AV) (cs:List Value),AVCs V l cs->AVCs V' (AV.frzs n e xs l) cs :=
 Nf (λ_=>by simp only[AV.frz]) (by simp only[AV.frzs]) (λ_ _=>by simp only[AV.frzs]) (sK h a)
theorem Sm (h:dP V V' n) (a:MH V V' n e xs) {l:List AV} {cs:List Value} (b:AVCs V l cs):AVCs V' (AV.frzs n e xs l) cs:=(sL h a).2 l cs b
theorem A0w (h:dP V V' n) (b:MH V V' n e xs) {v:Value} (a:QO V x v):QO V' (x.frz n e xs) v:=by
 cases x;case ag l=>obtain⟨cs,h1,c⟩:=a;simp only[AV.frz];exact⟨cs,h1,Sm h b c⟩
 all_goals
  simp only[QO]at a;exact QO.of1 (Xm h b a).1
theorem ZS (h:dP V V' n) (c:MH V V' n e xs):∀ {l:List AV} {a:List Value},Gz V l a->Gz V' (AV.frzs n e xs l) a
 | [],a,b=>(b:a=[])
 | x :: r,a,b=>by
  obtain⟨v,f,rfl,h1,d⟩:=b;simp only[AV.frzs];exact⟨v,f,rfl,A0w h c h1,ZS h c d⟩
theorem jO (h:dP V V' n) (c:MH V V' n e xs) {v:Value} (a:Bu V x v):Bu V' (x.frz n e xs) v:=by
 cases x;case ag l=>obtain⟨cs,h1,b⟩:=a;simp only[AV.frz];exact⟨cs,h1,Sm h c b⟩
 case tup l=>obtain⟨d,h1,b⟩:=a;simp only[AV.frz];exact⟨d,h1,ZS h c b⟩
 all_goals
  simp only[Bu]at a;exact A0s (Xm h c a).1
end
theorem ZT (hs:Bx w0 K O0 nt ds σ ρ a w) (n:Nat) (N:¬GJ n=true) {W:Obj} (hn:lk n σ.objs=some W) {xs:List e.den}
  (R:dP (vw w O0 σ ρ) (vw w O0 ⟨DJ n e xs σ.env,A6 n e xs (del n σ.objs)⟩ ρ) n->MH (vw w O0 σ ρ) (vw w O0 ⟨DJ n e xs σ.env,A6 n e xs (del n σ.objs)⟩ ρ) n e xs) :
  Bx w0 K O0 nt ds ⟨DJ n e xs σ.env,A6 n e xs (del n σ.objs)⟩ ρ a w:=by
 have F:∀m x,lk m (A6 n e xs (del n σ.objs))=some x->m≠n/\∃y,lk m σ.objs=some y/\x=y.frz n e xs:=by
  intro m x d;rw[B8,PN]at d;split at d
  .simp at d
  rename_i B;simp only[Is]at d;grind
 have i:∀m,GI ⟨DJ n e xs σ.env,A6 n e xs (del n σ.objs)⟩ m↔(GI σ m/\m≠n):=by
  intro m;constructor
  .rintro⟨x,C⟩;obtain⟨h1,y,h,_⟩:=F m x C;exact⟨⟨y,h⟩,h1⟩
  rintro⟨⟨x,C⟩,B⟩;exact⟨x.frz n e xs,by simp[B8,PN,B,C]⟩
 have hF:dP (vw w O0 σ ρ) (vw w O0 ⟨DJ n e xs σ.env,A6 n e xs (del n σ.objs)⟩ ρ) n:=by
  refine⟨rfl,rfl,λm h1 h=>(i m).2 ⟨h1,h⟩,λb f A=>?_,λb f A=>?_⟩
  .rcases A with h0|⟨m,c,d⟩
   .exact f (.inl h0)
   exact f (.inr ⟨m,((i m).1 c).1,d⟩)
  have f:bk (ρ n) b:=f;rcases A with h0|⟨m,c,d⟩
  .exact(hs.free n b ⟨_,hn⟩ f).2 h0
  exact((i m).1 c).2 (hs.dist m n b ((i m).1 c).1 ⟨_,hn⟩ d f)
 have t:=R hF;have Q:∀p∈ds.pin,GI ⟨DJ n e xs σ.env,A6 n e xs (del n σ.objs)⟩ p.1/\ρ p.1=p.2/\(A3u p.2=true\/GJ p.1=true):=by
  intro p P;obtain⟨h1,h,q⟩:=hs.pin p P;refine⟨(i p.1).2 ⟨h1,λj=>?_⟩,h,q⟩;have q:A3u p.2=true:=q.resolve_right (by rw[j];exact N);have D:seat (ρ n):=t.seat;rw[<-j,h]at D;rcases D with ⟨_,_,_,E⟩|⟨_,E⟩<;>rw[E]at q<;>cases q
 refine⟨hs.frm,hs.nt,hs.defers,Q,?_,?_,?_,?_⟩
 .intro m x d;obtain⟨B,y,r,rfl⟩:=F m x d;have g:=hs.objs m y r;cases y with
  | arr u j J=>exact A4.keeps (V:=(vw w O0 σ ρ).but n) hF.keeps (λ_ _=>rfl) g
  | box u st fs =>
   obtain⟨h0,b,cs,c,hh,M⟩:=g;exact⟨λS=>by rw[Qa];exact h0 S,b,cs,c,hh,Sm hF t M⟩
  | nest u T U j J c=>exact A4.keeps (V:=(vw w O0 σ ρ).but n) (o:=.nest u T U j J c) hF.keeps (λ_ _=>rfl) (Lc (V:=vw w O0 σ ρ) (V':=(vw w O0 σ ρ).but n) rfl rfl g)
  | mapo k v l=>exact A4.keeps (V:=(vw w O0 σ ρ).but n) hF.keeps (λ_ _=>rfl) g
  | frame ad fs =>
   obtain⟨h0,h1⟩:=g;refine⟨h0,λs z H=>?_⟩;simp only[Lf,Is]at H;obtain⟨y,r,rfl⟩:=H;exact jO hF t (h1 s y r)
  | loop L=>exact A4.keeps (V:=(vw w O0 σ ρ).but n) hF.keeps (λ_ _=>rfl) g
  | itr Y ab Z aa X=>exact A4.keeps (V:=(vw w O0 σ ρ).but n) hF.keeps (λ_ _=>rfl) g
  | dfr=>exact A4.keeps (V:=(vw w O0 σ ρ).but n) hF.keeps (λ_ _=>rfl) g
  | sit sb sp=>exact A4.keeps (V:=(vw w O0 σ ρ).but n) hF.keeps (λ_ _=>rfl) g
 .intro m b c f;exact hs.free m b ((i m).1 c).1 f
 .intro m I b c O h1 h;exact hs.dist m I b ((i m).1 c).1 ((i I).1 O).1 h1 h
 intro s v G;simp only[Lf,Is]at G;obtain⟨y,r,rfl⟩:=G;exact jO hF t (hs.env s y r)
theorem A0x (hs:Bx w0 K O0 nt ds σ ρ a w) (n:Nat):Bx w0 K O0 nt ds (frz n σ) ρ a w:=by
 unfold frz;split
 .exact hs
 rename_i b;cases hn:lk n σ.objs with
 | none=>exact hs
 | some d =>
 cases d with
 | box et st fs=>exact hs
 | mapo k v l=>exact hs
 | frame q fs=>exact hs
 | loop L=>exact hs
 | itr j p m o f=>exact hs
 | dfr=>exact hs
 | sit sb sp=>exact hs
 | arr et e xs=>exact ZT hs n b hn λh=>h.arr (hs.objs n _ hn)
 | nest et g k e xs c =>
  cases c with
  | some i=>exact hs
  | none=>exact ZT hs n b hn λh=>h.nest (hs.objs n _ hn)
theorem JE:∀ {l:List Nat} {σ:St},Bx w0 K O0 nt ds σ ρ a w->Bx w0 K O0 nt ds (Ci l σ) ρ a w
 | [],_,h=>h
 | n :: r,σ,h=>JE (l:=r) (σ:=frz n σ) (A0x h n)
end
end
section
open Go Go.RowKit
section
variable {P:Program} {tb:Tb} {w0:World} {K O0:Nat->Prop} {nt:Nat} {ds:Fp} {σ σ':St} {ρ:Nat->Value} {a:Act} {w:World} {vc:Prop}
theorem A0y (hs:Bx w0 K O0 nt ds σ ρ a w) (bt:∀b,K b->b<w0.heap.size) (bu:∀b,O0 b->b<w0.heap.size) (hT:Cs P tb) {d:Nat} (bz:d<nt) {ty:TypeId} {x:Operand} {n i len:Nat} {v:AV}
  (cn:Ab σ x=some (.nin n e i len)) (co:Ab σ y=some v) {et:TypeId} {xs:List (k.den×List e.den)} (hn:lk n σ.objs=some (.nest et R k e xs none)) (cb:GJ n=false)
  (hu:P.underlying t=some (.slice R)) {te:TI} (ao:lk R tb.ty=some te) (ap:te.ty=e) (h:MF σ d n et R k e xs i te.bytes (NW σ e v)=some (vc,σ')) (ab:vc) :
  ∃z w' ρ',(Builtin.append_ #[t,t] ty #[a.eval x,a.eval y]).run P w=.ok z w'/\Bx w0 K O0 nt ds σ' ρ' (a.put (some d) z) w':=by
 have aw:D5 (vw w O0 σ ρ) σ a.eval:=CN hs.env;cases aq:NW σ e v with
 | none=>rw[aq]at h;simp[MF]at h
 | some ys =>
  rw[aq]at h;simp only[MF]at h;split at h
  .rename_i ax;have am:lk d σ.objs=none:=by simpa using ax.1
   cases h;obtain⟨ct,W⟩:=Rg hs.objs aq (aw y _ co);obtain⟨cx,cu,ad,c,U,J,E,cd,dd⟩:=aw x _ cn;have J:ρ n=.tuple cu:=J;have bf:=hs.objs n _ hn;have ay:=Xa (z:=(k.dflt,[])) bf J E;obtain⟨o,ins,cells,cl,C⟩:=bf;obtain rfl:=cl.tup J;have E:ins[i]?=some U:=by simpa using E
   obtain⟨c1,de,bx,ck,s⟩:=C.row i _ _ ay E;rcases s with ⟨s,_⟩|⟨_,cz,p,bh,N,ca⟩
   .cases s
   generalize dc:xs.getD i (k.dflt,[])=row at *;obtain⟨z,w',Q,D,B,an,bg⟩:∃z w',(Builtin.append_ #[t,t] ty #[a.eval x,a.eval y]).run P w=.ok z w'/\w'.ownsRow 0 R e.size z (row.2.length+ys.length) (bh++ct)/\w.grownBy w' (blk U)/\row.2.length+ys.length<=AO/\(blk z=blk U\/∀b,blk z=some b->w.heap.size<=b):=by
    rcases cd with G|⟨G,ar,cm⟩
    .rw[G];obtain⟨z,w',Q,D,B,an⟩:=Fc (ty:=ty) hT hu ao ap N W ab (Do _);have bg:=Gb (ty:=ty) hT hu ao ap N W ab Q;rw[Ri N]at B;exact⟨z,w',Q,D,B,an,bg⟩
    subst G;have bd:=JA N;have cj:row.2=[]:=AA0 bd.symm;have cc:bh=[]:=AA0 (by rw[N.1,<-bd,ACv]);subst cc;have cp:0<ys.length:=by
     cases ys with
     | nil=>simp at ax
     | cons _ _=>simp
    rw[cm];rw[cj]at ab ⊢;obtain⟨z,w',Q,D,B⟩:=QT (ty:=ty) hT hu ao ap (xs:=([]:List e.den)) (a:=ar) (Rf w (own O0 σ ρ) e ar 0) W cp ab;refine⟨z,w',Q,⟨D.1,D.2.imp (λh=>h) λ⟨g,cap,ah,e,_,r⟩=>⟨g,cap,ah,e,Do _,r⟩⟩,B,by simpa using W.max,.inr λb f=>?_⟩;rcases D.2 with ⟨h1,_⟩|⟨g,cap,ah,h1,q,_⟩
    .rw[h1]at f;simp[blk]at f
    rw[h1]at f;simp[blk]at f;omega
   have Y:∀b,bk (ρ n) b↔blk o=some b\/∃(j:Nat) (u:Value),ins[j]?=some u/\blk u=some b:=λb=>by rw[J];exact A9
   have da:i<ins.length:=(Of.1 E).1;have be:n≠d:=λl=>by rw[l,am]at hn;cases hn
   generalize ba:(Value.tuple (o :: ins.set i (.slice none 0 0)).toArray)=loc;have af:EF (EF ρ n loc) d z n=loc:=by simp[EF,be]
   have ae:EF (EF ρ n loc) d z d=z:=Bh _ _ _;have ag:∀m,m≠n->m≠d->EF (EF ρ n loc) d z m=ρ m:=λm h1 q=>by simp[EF,h1,q]
   generalize EF (EF ρ n loc) d z=ρ' at af ae ag;have aa:∀(j:Nat) (u:Value),(ins.set i (.slice none 0 0))[j]?=some u->(j=i/\u=.slice none 0 0)\/(j≠i/\ins[j]?=some u):=by grind
   have av:∀b,bk loc b->blk o=some b\/∃(j:Nat) (u:Value),j≠i/\ins[j]?=some u/\blk u=some b:=by grind [A9,blk]
   have bw:∀b,bk loc b->bk (ρ n) b:=λb f=>(Y b).2 ((av b f).imp id λ⟨j,u,_,h1,q⟩=>⟨j,u,h1,q⟩);have Z:∀b,blk U=some b->bk (ρ n) b:=λb f=>(Y b).2 (.inr ⟨i,_,E,f⟩);have cy:∀b,bk z b->blk z=some b:=λb f=>by
    rcases D.2 with ⟨G,_⟩|⟨g,cap,ah,G,_⟩<;>rw[G]at f ⊢<;>exact KQ.1 f
   have cs:∀b,bk z b->blk U=some b\/w.heap.size<=b:=λb f=>by grind
   have bb:∀b,bk (ρ n) b->b<w.heap.size:=λb f=>(hs.objs n _ hn).block_lt f;have db:∀b,bk loc b->blk U≠some b:=by
    intro b f G;rcases av b f with h1|⟨j,u,h1,q,s⟩
    .exact C.out i b _ E G h1
    exact h1 (C.dist j i b u _ q E s G)
   have az:(row.2++ys).length=row.2.length+ys.length:=by simp
   let S:St:=⟨(d,.sr d e 0 (row.2.length+ys.length)) :: D1 n [] σ.env,(d,.arr R e (row.2++ys)) :: (n,.nest et R k e xs (some i)) :: Cm n [] σ.objs⟩
   have au:∀m H,lk m S.objs=some H->(m=d/\H=.arr R e (row.2++ys))\/(m=n/\m≠d/\H=.nest et R k e xs (some i))\/(m≠d/\m≠n/\∃A,lk m σ.objs=some A/\H=A.trn n []):=by
    intro m H p;simp only[S,lk]at p;split at p
    .rename_i l;cases p;exact .inl ⟨l,rfl⟩
    rename_i l;split at p
    .rename_i ai;cases p;exact .inr (.inl ⟨ai,l,rfl⟩)
    rename_i ai;rw[C7]at p;split at p
    .cases p
    simp only[Is]at p;obtain⟨A,h1,rfl⟩:=p;exact .inr (.inr ⟨l,ai,A,h1,rfl⟩)
   have bv:∀m,m≠d->m≠n->∀A,lk m σ.objs=some A->lk m S.objs=some (A.trn n []):=by grind [lk,C7,AY]
   have ch:∀b,b<w.heap.size->¬own O0 σ ρ b->¬own O0 S ρ' b:=by
    intro b f I cr;rcases cr with h0|⟨m,⟨H,cg⟩,L⟩
    .exact I (.inl h0)
    rcases au m H cg with ⟨rfl,_⟩|⟨rfl,_,_⟩|⟨h1,q,A,s,_⟩
    .rw[ae]at L;rcases cs b L with F|F
     .exact I (.inr ⟨n,⟨_,hn⟩,Z b F⟩)
     omega
    .rw[af]at L;exact I (.inr ⟨_,⟨_,hn⟩,bw b L⟩)
    rw[ag m q h1]at L;exact I (.inr ⟨m,⟨A,s⟩,L⟩)
   have ci:plc loc=o:=by rw[<-ba];rfl
   have X:Np (vw w O0 σ ρ) (vw w' O0 S ρ') n []:=by
    refine⟨ch,λm p _=>?_,λm p _ cf=>?_,⟨_,J⟩,?_,λb f I=>B.block b f λl=>I (.inr ⟨n,⟨_,hn⟩,Z b l.symm⟩)⟩
    .obtain⟨A,h1⟩:=p;by_cases bc:m=n
     .subst bc;exact⟨.nest et R k e xs (some i),by simp[S,lk,be]⟩
     have ce:m≠d:=λl=>by rw[l,am]at h1;cases h1
     exact⟨_,bv m ce bc A h1⟩
    .obtain⟨A,h1⟩:=p;exact ag m cf (λl=>by rw[l,am]at h1;cases h1)
    show plc (ρ' n)=plc (ρ n);rw[af,ci,J];rfl
   have M:CZ ⟨w,own O0 σ ρ,λ_=>False,ρ⟩ (vw w' O0 S ρ'):=⟨X.O,λ_ h=>h.elim,λ_ h=>h.elim,X.heap⟩;refine⟨z,w',ρ',Q,hs.swap bt bu (T:=λm=>m=n) (λm p=>by obtain rfl:m=n:=p;exact⟨cb,_,hn,by rw[J];exact .inr ⟨_,rfl⟩⟩) (new:=[(d,.arr R e (row.2++ys)),(n,.nest et R k e xs (some i))]) B.os B.tape B.output B.size ?_ ?_ ?_ ?_ ?_ ?_ ?_ ?_⟩
   .exact λb f I=>B.block b f λl=>I n rfl (Z b l.symm)
   .grind [lk]
   .grind [lk]
   .grind [lk]
   .grind [lk]
   .grind [bk,lk]
   .intro m H p;rcases au m H p with ⟨rfl,rfl⟩|⟨rfl,_,rfl⟩|⟨h1,q,A,s,rfl⟩
    .rw[ae];refine⟨by rw[az];exact an,_,by rw[az];exact D,?_⟩;exact DV.keeps M (JD ca W.elems N.1)
    .rw[af];refine⟨o,ins.set i (.slice none 0 0),cells,.inl ba.symm,C.max,by rw[AAc];exact C.len,H3 (λb f=>B.block b (bb b ((Y b).2 (.inl f))) λl=>C.out i b _ E l.symm f) C.own,λj cv u h1 q=>?_,?_,?_⟩
     .rcases aa j u q with ⟨rfl,rfl⟩|⟨s,F⟩
      .rw[ay]at h1;cases h1;exact⟨c1,_,bx,Bn.mono M.O M.heap ck,.inl ⟨by simp,rfl⟩⟩
      obtain⟨c2,bn,bo,bp,ak⟩:=C.row j cv u h1 F;rcases ak with ⟨ak,_⟩|⟨_,bq,br⟩
      .cases ak
      refine⟨c2,bn,bo,Bn.mono M.O M.heap bp,.inr ⟨AAP.2 (λl=>s (by injection l with l;exact l.symm)),bq,?_⟩⟩;exact PM.keeps (V:=⟨w,own O0 σ ρ,λ_=>False,ρ⟩) M (λb f=>B.block b (bb b ((Y b).2 (.inr ⟨j,u,F,f⟩))) λl=>s (C.dist j i b u _ F E f l.symm)) br
     .intro bi bj b bl bm h1 q s F;rcases aa bi bl h1 with ⟨_,rfl⟩|⟨_,al⟩
      .simp[blk]at s
      rcases aa bj bm q with ⟨_,rfl⟩|⟨_,bs⟩
      .simp[blk]at F
      exact C.dist bi bj b bl bm al bs s F
     intro j b u h1 q;rcases aa j u h1 with ⟨_,rfl⟩|⟨_,al⟩
     .simp[blk]at q
     exact C.out j b u al q
    rw[ag m q h1];refine jM X (λb f=>B.block b ((hs.objs m A s).block_lt f) λl=>q (hs.dist m n b ⟨_,s⟩ ⟨_,hn⟩ f (Z b l.symm))) (hs.objs m A s)
   intro s2 bn el;rw[Lb a d z s2 (by rw[hs.nt];exact bz)];simp only[S,lk]at el;split at el
   .rename_i aj;cases el;rw[At aj];refine⟨⟨.arr R e (row.2++ys),by simp[S,lk]⟩,?_⟩;show C6 (plc (ρ' d)) e.size 0 _ z;rw[ae,Ga D];exact Fa D
   rename_i aj;rw[As aj];rw[Ew]at el;simp only[Is]at el;obtain⟨cw,cq,rfl⟩:=el;exact Xl X (hs.env s2 cw cq)
  cases h
end
end
section
open Go Go.RowKit
theorem Xn {et:TypeId} {sz len g m c:Nat} {cells:List Value} (h:w.ownsRow 0 et sz (.slice (some ⟨g,0,none⟩) m c) len cells) {p:Nat} (C:p<len*sz) (v:Value) :
  ∃a:List Value,w.heap[g]?=some (.cells a.toArray et (0,0))/\p+1<=a.length/\(w.setRow g (Ay a p [v]).toArray).ownsRow 0 et sz (.slice (some ⟨g,0,none⟩) m c) len (cells.set p v):=by
 obtain⟨t,l⟩:=h;rcases l with ⟨d,_⟩|⟨y,cap,a,d,z,i,e,o,f,u⟩
 .cases d
 injection d with b q r
 injection b with b
 injection b with b
 subst b;have A:len*sz<=cap*sz:=AA1 _ e;have B:a.toList.length=cap*sz:=by rw[<-f];simp
 have n:p + [v].length<=a.toList.length:=by simp only[nO];omega
 have s:w.heap[g]?=some (.cells a.toList.toArray et (0,0)):=by simpa using i
 have k:Ay a.toList p [v]=a.toList.set p v:=by
  apply ABT;intro j;simp only[Ay,AA5,AAx,On,AA7,AAz,nO,AAE];have x:min p a.toList.length=p:=by omega
  simp only[x];by_cases c1:j<p
  .grind
  grind
 refine⟨a.toList,s,by simpa using n,?_,.inr ⟨g,cap,_,by rw[q,r],Do _,setRow_heap w g _ _ et _ i,e,o,?_,?_⟩⟩
 .rw[AAc];exact t
 .rw[k];simp[f]
 rw[k,<-u];simp[List.take_set]
section
variable {P:Program} {tb:Tb} {w0:World} {K O0:Nat->Prop} {nt:Nat} {ds:Fp} {σ σ':St} {ρ:Nat->Value} {a:Act} {w:World} {vc:Prop}
theorem sM (hs:Bx w0 K O0 nt ds σ ρ a w) (bm:∀b,K b->b<w0.heap.size) (bn:∀b,O0 b->b<w0.heap.size) (hT:Cs P tb) (ch:lk t tb.ty=some Y) {x:Operand} {n m i hi:Nat} {k e:Ty} (ci:Y.ty=.slice e) {cs:List Nat}
  (cj:Ab σ x=some (.ep n (.agg (.prod k (.slice e))) i cs k.size)) (cn:Ab σ y=some (.sr m e 0 hi)) {et:TypeId} {xs:List (k.den×List e.den)} {ys:List e.den} (hn:lk n σ.objs=some (.nest et B k e xs (some i))) (G:lk m σ.objs=some (.arr B e ys))
  (bu:GJ n=false) (cz:GJ m=false) (dd:hi=ys.length) :
  ∃w' ρ',(Instr.storeAt t (a.eval x) (a.eval y)).run P w=.ok () w'/\Bx w0 K O0 nt ds ⟨D1 n [m] σ.env,(n,.nest et B k e (xs.set i ((xs.getD i (k.dflt,[])).1,ys)) none) :: Cm n [m] σ.objs⟩ ρ' a w':=by
 have ar:D5 (vw w O0 σ ρ) σ a.eval:=CN hs.env;have cc:m≠n:=λd=>by rw[d,hn]at G;cases G
 obtain⟨cx,g,be,c,al,bz,cl⟩:=ar x _ cj;obtain⟨cy,bh,cr,bi,N,_,db,cu,cv,de,_,h0,_⟩:=ar y _ cn;obtain⟨o,ins,cells,ba,ti⟩:=hs.objs n _ hn;have ao:PM (vw w O0 σ ρ) B e ys (ρ m):=hs.objs m _ G;have aw:=hs.objs m _ G;have N:plc (ρ m)=.slice bh cr bi:=N;rw[Rd aw]at N;have cq:a.eval y=ρ m:=by
  obtain⟨rfl,rfl⟩:=h0 rfl;obtain⟨_,df,dc,_⟩:=ao;grind [JA]
 have al:plc (ρ n)=.slice (some ⟨g,0,none⟩) be c:=al;have cd:o=.slice (some ⟨g,0,none⟩) be c:=by rw[<-ba.plc];exact al
 subst cd;have cb:=JA ti.own;subst cb;have M:i<xs.length:=bz;have aj:i<ins.length:=by rw[ti.len];exact M
 have aa:ρ n=.tuple ((.slice (some ⟨g,0,none⟩) xs.length c) :: ins).toArray:=ba.resolve_right λh=>by rw[h.2.2]at aj;simp at aj
 have ax:i*(k.size+1)+k.size<xs.length*(k.size+1):=by
  have:(i+1)*(k.size+1)<=xs.length*(k.size+1):=AA1 _ M;rw[AAQ]at this;omega
 obtain⟨Q,bv,br,id⟩:=Xn ti.own ax (ρ m);have cf:(ρ m).oneCell'=true:=by rw[N];rfl
 have W:(a.eval y).cells=#[ρ m]:=by rw[cq,N];rfl
 have az:=KW (P:=P) (xv:=a.eval y) (hT _ _ ch) bv (off:=i*(k.size+1)+k.size) (by rw[W,ci];rfl) (by rw[W];simpa using br) (by rw[W];intro u hu;simp at hu;subst hu;exact cf);rw[W]at az;refine⟨_,EF ρ n (.tuple ((.slice (some ⟨g,0,none⟩) xs.length c) :: ins.set i (ρ m)).toArray),by rw[cl];exact az,?_⟩;have E:=E9 w g (Ay Q (i*(k.size+1)+k.size) [ρ m]).toArray;change Bx w0 K O0 nt ds _ _ a (w.setRow g (Ay Q (i*(k.size+1)+k.size) [ρ m]).toArray);have id:(w.setRow g (Ay Q (i*(k.size+1)+k.size) [ρ m]).toArray).ownsRow 0 et (k.size+1) (.slice (some ⟨g,0,none⟩) xs.length c) xs.length (cells.set (i*(k.size+1)+k.size) (ρ m)):=id;generalize w.setRow g (Ay Q (i*(k.size+1)+k.size) [ρ m]).toArray=w' at E id;generalize av:(Value.tuple ((.slice (some ⟨g,0,none⟩) xs.length c) :: ins.set i (ρ m)).toArray)=loc;have ab:EF ρ n loc n=loc:=Bh _ _ _;have ad:∀j,j≠n->EF ρ n loc j=ρ j:=λj h1=>by simp[EF,h1]
 generalize EF ρ n loc=ρ' at ab ad;have aq:∀b,bk (ρ n) b↔blk (.slice (some ⟨g,0,none⟩) xs.length c)=some b\/∃(j:Nat) (u:Value),ins[j]?=some u/\blk u=some b:=λb=>by rw[aa];exact A9
 have Z:∀(j:Nat) (u:Value),(ins.set i (ρ m))[j]?=some u->(j=i/\u=ρ m)\/(j≠i/\ins[j]?=some u):=by grind
 have ag:∀b,blk (ρ m)=some b->bk (ρ m) b:=λb f=>.inl f;have bp:∀b,bk loc b->bk (ρ n) b\/blk (ρ m)=some b:=by grind [A9]
 have bs:∀b,bk (ρ n) b->blk (ρ m)=some b->False:=λb h1 s=>cc (hs.dist m n b ⟨_,G⟩ ⟨_,hn⟩ (ag b s) h1);have ah:bk (ρ n) g:=(aq g).2 (.inl rfl);have bx:∀b,bk (ρ n) b->b<w.heap.size:=λb f=>(hs.objs n _ hn).block_lt f;have ca:∀b,blk (ρ m)=some b->b<w.heap.size:=λb f=>aw.block_lt (ag b f)
 let S:St:=⟨D1 n [m] σ.env,(n,.nest et B k e (xs.set i ((xs.getD i (k.dflt,[])).1,ys)) none) :: Cm n [m] σ.objs⟩
 have ap:∀j C,lk j S.objs=some C->(j=n/\C=.nest et B k e (xs.set i ((xs.getD i (k.dflt,[])).1,ys)) none)\/(j≠n/\j≠m/\∃r,lk j σ.objs=some r/\C=r.trn n [m]):=by
  intro j C p;simp only[S,lk]at p;split at p
  .grind
  rename_i d;rw[C7]at p;split at p
  .cases p
  rename_i cw;simp only[Is]at p;grind [AY]
 have bo:∀j,j≠n->j≠m->∀r,lk j σ.objs=some r->lk j S.objs=some (r.trn n [m]):=by grind [lk,C7,AY]
 have cg:∀b,b<w.heap.size->¬own O0 σ ρ b->¬own O0 S ρ' b:=by
  intro b f H cp;rcases cp with h0|⟨j,⟨C,ce⟩,U⟩
  .exact H (.inl h0)
  rcases ap j C ce with ⟨rfl,_⟩|⟨h1,s,r,l,_⟩
  .rw[ab]at U;rcases bp b U with v|v
   .exact H (.inr ⟨_,⟨_,hn⟩,v⟩)
   exact H (.inr ⟨m,⟨_,G⟩,ag b v⟩)
  rw[ad j h1]at U;exact H (.inr ⟨j,⟨r,l⟩,U⟩)
 have R:Np (vw w O0 σ ρ) (vw w' O0 S ρ') n [m]:=by
  refine⟨cg,λj p bw=>?_,λj _ _ ak=>ad j ak,⟨_,aa⟩,?_,λb f H=>E.block b f λd=>?_⟩
  .obtain⟨r,h1⟩:=p;by_cases au:j=n
   .exact⟨.nest et B k e (xs.set i ((xs.getD i (k.dflt,[])).1,ys)) none,by simp[S,lk,au]⟩
   exact⟨_,bo j au (λd=>by simp[AY,d]at bw) r h1⟩
  .show plc (ρ' n)=plc (ρ n);rw[ab,<-av,aa];rfl
  injection d with d
  subst d;exact H (.inr ⟨n,⟨_,hn⟩,ah⟩)
 have F:CZ ⟨w,own O0 σ ρ,λ_=>False,ρ⟩ (vw w' O0 S ρ'):=⟨R.O,λ_ h=>h.elim,λ_ h=>h.elim,R.heap⟩;have ai:∀b,b<w.heap.size->b≠g->w'.heap[b]?=w.heap[b]?:=λb h1 s=>E.block b h1 λd=>s (by injection d);refine hs.swap bm bn (T:=λj=>j=n\/j=m) (dst:=none) (u:=undef) (λj p=>?_) (new:=[(n,.nest et B k e (xs.set i ((xs.getD i (k.dflt,[])).1,ys)) none)]) E.os E.tape E.output E.size ?_ ?_ ?_ ?_ ?_ ?_ ?_ ?_
 .rcases p with rfl|rfl
  .exact⟨bu,_,hn,by rw[aa];exact .inr ⟨_,rfl⟩⟩
  grind [ZR]
 .grind
 .grind [lk]
 .grind [lk]
 .grind [lk]
 .grind [lk]
 .grind [lk]
 .intro j C p;rcases ap j C p with ⟨rfl,rfl⟩|⟨h1,s,r,l,rfl⟩
  .rw[ab];have bq:cells.length=xs.length*(k.size+1):=ti.own.1;refine⟨_,ins.set i (ρ m),cells.set (i*(k.size+1)+k.size) (ρ m),.inl av.symm,by rw[AAc];exact ti.max,by rw[AAc,AAc];exact ti.len,by rw[AAc];exact id,λj an u h1 s=>?_,?_,?_⟩
   .have bt:∀(c2:List Value) (D:Value),j≠i->c2.length=k.size->(∀(q:Nat) (z:Value),(c2++[D])[q]?=some z->cells[j*(k.size+1)+q]?=some z)->∀(q:Nat) (z:Value),(c2++[D])[q]?=some z->(cells.set (i*(k.size+1)+k.size) (ρ m))[j*(k.size+1)+q]?=some z:=by
     intro c2 D da X I q z A;have am:=(Of.1 A).1;simp only[If,nO,X]at am;have ak:i*(k.size+1)+k.size≠j*(k.size+1)+q:=by
      intro d;rcases Nat.lt_or_ge i j with l|l
      .have:(i+1)*(k.size+1)<=j*(k.size+1):=AA1 _ l;rw[AAQ]at this;omega
      have:(j+1)*(k.size+1)<=i*(k.size+1):=AA1 _ O1;rw[AAQ]at this;omega
     rw[AAE,As ak];exact I q z A
    rcases Z j u s with ⟨rfl,rfl⟩|⟨l,v⟩
    .have cm:xs[j]?=some (xs.getD j (k.dflt,[])):=by
      rw[An M,AS,An M];rfl
     obtain⟨c2,D,I,J,_⟩:=ti.row j _ ins[j] cm (An aj);have ck:an=((xs.getD j (k.dflt,[])).1,ys):=by
      rw[List.getElem?_set_self M]at h1;exact(Option.some.inj h1).symm
     subst ck;have X:c2.length=k.size:=J.length;refine⟨c2,ρ m,λq z A=>?_,Bn.mono F.O F.heap J,.inr ⟨rfl,.inl rfl,?_⟩⟩
     .have am:=(Of.1 A).1;simp only[If,nO,X]at am;rw[AAE];by_cases ay:q=k.size
      .rw[ay,At rfl,At (by rw[bq];exact ax)];rw[ay,<-X,AA4 (OS _),AAY]at A;exact A
      rw[As O1];refine I q z ?_;rw[AA9 O1]at A ⊢;exact A
     exact PM.keeps (V:=⟨w,own O0 σ ρ,λ_=>False,ρ⟩) F (λb f=>ai b (ca b f) λd=>bs b (by rw[d];exact ah) f) ao
    have h1:xs[j]?=some an:=by
     rw[AAE,As (λd=>l d.symm)]at h1;exact h1
    obtain⟨c2,D,I,J,ae⟩:=ti.row j an u h1 v;rcases ae with ⟨ae,_⟩|⟨_,bj,bl⟩
    .exact absurd (by simpa using ae) (λd:i=j=>l d.symm)
    refine⟨c2,D,bt c2 D l J.length I,Bn.mono F.O F.heap J,.inr ⟨rfl,bj,?_⟩⟩;exact PM.keeps (V:=⟨w,own O0 σ ρ,λ_=>False,ρ⟩) F (λb f=>ai b (bx b ((aq b).2 (.inr ⟨j,u,v,f⟩))) λd=>ti.out j b u v f (by rw[d];rfl)) bl
   .intro bc bd b bf bg h1 s l v;rcases Z bc bf h1 with ⟨L,rfl⟩|⟨_,L⟩<;>rcases Z bd bg s with ⟨af,rfl⟩|⟨_,af⟩
    .rw[L,af]
    .grind
    .grind
    exact ti.dist bc bd b bf bg L af l v
   intro j b u h1 s l;rcases Z j u h1 with ⟨_,rfl⟩|⟨_,L⟩
   .grind
   exact ti.out j b u L s l
  rw[ad j h1];refine jM R (λb f=>ai b ((hs.objs j r l).block_lt f) λd=>h1 (hs.dist j n b ⟨_,l⟩ ⟨_,hn⟩ f (by rw[d];exact ah))) (hs.objs j r l)
 intro s2 D bb;simp only[Ew,Is]at bb;obtain⟨ct,co,rfl⟩:=bb;exact Xl R (hs.env s2 ct co)
end
end
section
open Go Go.RowKit
section
variable {P:Program} {tb:Tb} {w0:World} {K O0:Nat->Prop} {nt:Nat} {ds:Fp} {σ σ':St} {ρ:Nat->Value} {a:Act} {w:World} {vc:Prop}
theorem Bx.swap1 (h:Bx w0 K O0 nt ds σ ρ a w) (I:∀b,K b->b<w0.heap.size) (J:∀b,O0 b->b<w0.heap.size) {tl:List Nat} (hT:∀n,n∈tl->GJ n=false/\∃o,lk n σ.objs=some o/\seat (ρ n))
  {e:Nat} (af:e∈tl\/lk e σ.objs=none) {j:Obj} {loc:Value} {w':World}
  (V:w'.os=w.os) (Z:w'.tape=w.tape) (W:w'.output=w.output) (X:w.heap.size<=w'.heap.size)
  (C:∀b,b<w.heap.size->(∀n,n∈tl->¬bk (ρ n) b)->w'.heap[b]?=w.heap[b]?)
  (Q:∀b,bk loc b->(∃m,m∈tl/\bk (ρ m) b)\/w.heap.size<=b)
  (U:∀V':Vw,V'.w=w'->CZ ⟨w,own O0 σ ρ,λ_=>False,ρ⟩ V'->A4 V' j loc)
  {d:Nat} (O:d<nt) {v:AV} {u:Value} (N:∀V':Vw,V'.L e->V'.ρ e=loc->Bu V' v u) :
  Bx w0 K O0 nt ds ⟨(d,v) :: Cg tl σ.env,(e,j) :: Aw tl tl σ.objs⟩ (EF ρ e loc) (a.put (some d) u) w':=by
 let S:St:=⟨(d,v) :: Cg tl σ.env,(e,j) :: Aw tl tl σ.objs⟩
 have E:∀m o,lk m S.objs=some o->(m=e/\o=j)\/(m≠e/\m∉tl/\∃c,lk m σ.objs=some c/\o=c.fgt tl):=by
  intro m o f;simp only[S,lk]at f;split at f
  .grind
  rename_i ad;rw[CF]at f;split at f
  .cases f
  rename_i ae;simp only[Is]at f;grind [Af]
 have M:∀m,m≠e->m∉tl->∀c,lk m σ.objs=some c->lk m S.objs=some (c.fgt tl):=by grind [lk,CF,Af]
 have G:∀m,m∉tl->(∃o,lk m σ.objs=some o)->m≠e:=by grind
 have r:EF ρ e loc e=loc:=Bh _ _ _;have z:∀m,m≠e->EF ρ e loc m=ρ m:=λm h1=>by simp[EF,h1]
 generalize EF ρ e loc=ρ' at r z;have H:∀b,b<w.heap.size->¬own O0 σ ρ b->¬own O0 S ρ' b:=by
  intro b l p ab;rcases ab with h0|⟨m,⟨o,R⟩,q⟩
  .exact p (.inl h0)
  rcases E m o R with ⟨rfl,_⟩|⟨h1,i,c,g,_⟩
  .rw[r]at q;rcases Q b q with ⟨t,Y,D⟩|D
   .obtain⟨_,c,k,_⟩:=hT t Y;exact p (.inr ⟨t,⟨c,k⟩,D⟩)
   omega
  rw[z m h1]at q;exact p (.inr ⟨m,⟨c,g⟩,q⟩)
 have F:∀b,b<w.heap.size->¬own O0 σ ρ b->w'.heap[b]?=w.heap[b]?:=λb l p=>C b l λn hn B=>by
  obtain⟨_,c,k,_⟩:=hT n hn;exact p (.inr ⟨n,⟨c,k⟩,B⟩)
 have P:CZ ⟨w,own O0 σ ρ,λ_=>False,ρ⟩ (vw w' O0 S ρ'):=⟨H,λ_ h=>h.elim,λ_ h=>h.elim,F⟩;have hk:CZ ((vw w O0 σ ρ).buts tl) (vw w' O0 S ρ'):=by
  refine⟨H,λm f=>?_,λm f=>?_,F⟩
  .obtain⟨⟨c,h1⟩,i⟩:=f;have g:m∉tl:=λh=>by rw[(Af _ _).2 h]at i;cases i
   exact⟨_,M m (G m g ⟨c,h1⟩) g c h1⟩
  obtain⟨⟨c,h1⟩,i⟩:=f;have g:m∉tl:=λh=>by rw[(Af _ _).2 h]at i;cases i
  exact z m (G m g ⟨c,h1⟩)
 refine h.swap I J (T:=λm=>m∈tl) hT (new:=[(e,j)]) V Z W X C ?_ ?_ ?_ ?_ ?_ ?_ ?_
 .grind [lk]
 .grind [lk]
 .grind [lk]
 .grind [lk]
 .grind [lk]
 .intro m o f;rcases E m o f with ⟨rfl,rfl⟩|⟨h1,i,c,g,rfl⟩
  .rw[r];exact U _ rfl P
  rw[z m h1];refine Xj hk (λb l=>C b ((h.objs m c g).block_lt l) λn hn B=>?_) (h.objs m c g);obtain⟨_,ag,k,_⟩:=hT n hn;exact i ((h.dist m n b ⟨_,g⟩ ⟨_,k⟩ l B)▸hn)
 intro s x hs;rw[Lb a d u s (by rw[h.nt];exact O)];simp only[S,lk]at hs;split at hs
 .rename_i A;cases hs;rw[At A];exact N _ ⟨j,by simp[S,lk]⟩ r
 rename_i A;rw[As A];rw[Fd]at hs;simp only[Is]at hs;obtain⟨y,aa,rfl⟩:=hs;exact(Rh (h.env s y aa)).keeps hk
theorem XV.move {V:Vw} {a:TypeId} {k e:Ty} {hole:Bool} {cells cells':List Value} {i i':Nat} {x:k.den×List e.den} {u:Value} (h:XV V a k e hole cells i x u)
  (c:∀(j:Nat) (z:Value),cells[i*(k.size+1)+j]?=some z->cells'[i'*(k.size+1)+j]?=some z):XV V a k e hole cells' i' x u :=
 let ⟨c1,v,h1,b⟩:=h
 ⟨c1,v,λj z d=>c j z (h1 j z d),b⟩
theorem Vs {V V':Vw} {et A:TypeId} {k e:Ty} {xs ys:List (k.den×List e.den)} {o D z:Value} {ins f cells m:List Value} (h1:Jr V et A k e xs none o ins cells) (p:Jr V E A k e ys none D f m)
  (r:∀b,bk (.tuple (o :: ins).toArray) b->bk (.tuple (D :: f).toArray) b->False)
  (K:V'.w.ownsRow 0 et (k.size+1) z (xs.length+ys.length) (cells++m)) (L:blk z=blk o\/∀b,blk z=some b->V.w.heap.size<=b)
  (B:∀b,b<V.w.heap.size->blk o≠some b->V'.w.heap[b]?=V.w.heap[b]?) (hk:CZ ⟨V.w,V.O,λ_=>False,V.ρ⟩ V') (I:xs.length+ys.length<=AO) :
  Jr V' et A k e (xs++ys) none z (ins++f) (cells++m):=by
 have F:cells.length=xs.length*(k.size+1):=h1.own.1;have G:∀(i b:Nat) (u:Value),ins[i]?=some u->blk u=some b->b<V.w.heap.size:=λi b u hi c=>h1.block_lt (A9.2 (.inr ⟨i,u,hi,c⟩));have H:∀(i b:Nat) (u:Value),f[i]?=some u->blk u=some b->b<V.w.heap.size:=λi b u hi c=>p.block_lt (A9.2 (.inr ⟨i,u,hi,c⟩));have C:∀(i b:Nat) (u:Value),f[i]?=some u->blk u=some b->blk o≠some b:=λi b u hi c J=>r b (A9.2 (.inl J)) (A9.2 (.inr ⟨i,u,hi,c⟩));have y:∀(i:Nat) (u:Value),(ins++f)[i]?=some u->(i<xs.length/\ins[i]?=some u)\/(xs.length<=i/\f[i-xs.length]?=some u):=by
  intro i u hi;rw[AAx]at hi;split at hi
  .rename_i h;rw[h1.len]at h;exact .inl ⟨h,hi⟩
  rename_i h;rw[h1.len]at h hi;exact .inr ⟨by omega,hi⟩
 have M:∀b,blk z=some b->(∃(i:Nat) (u:Value),ins[i]?=some u/\blk u=some b)\/(∃(i:Nat) (u:Value),f[i]?=some u/\blk u=some b)->False:=by
  intro b c hi;rcases L with d|d
  .rw[d]at c;rcases hi with ⟨i,u,a,g⟩|⟨i,u,a,g⟩
   .exact h1.out i b u a g c
   exact C i b u a g c
  grind
 refine⟨by rw[If];exact I,by rw[If,If,h1.len,p.len],by rw[If];exact K,λi x u l hu=>?_,λi j b u v hi s hu q=>?_,λi b u hi c N=>?_⟩
 .rcases y i u hu with ⟨d,a⟩|⟨d,a⟩
  .have l:xs[i]?=some x:=by rwa [AA9 d]at l
   have t:=(h1.row i x u l a).move (cells':=cells++m) (i':=i) λj z s=>by grind
   exact XV.keeps (V:=⟨V.w,V.O,λ_=>False,V.ρ⟩) hk (λb c=>B b (G i b u a c) (h1.out i b u a c)) t
  have l:ys[i-xs.length]?=some x:=by rwa [AA4 d]at l
  have t:=(p.row _ x u l a).move (cells':=cells++m) (i':=i) λj z s=>by
   have g:i*(k.size+1)=cells.length+(i-xs.length)*(k.size+1):=by
    rw[F,<-ABR];congr 1;omega
   grind
  exact XV.keeps (V:=⟨V.w,V.O,λ_=>False,V.ρ⟩) hk (λb c=>B b (H _ b u a c) (C _ b u a c)) t
 .rcases y i u hi with ⟨d,a⟩|⟨d,a⟩<;>rcases y j v s with ⟨g,n⟩|⟨g,n⟩
  .exact h1.dist i j b u v a n hu q
  .exact(r b (A9.2 (.inr ⟨i,u,a,hu⟩)) (A9.2 (.inr ⟨_,v,n,q⟩))).elim
  .exact(r b (A9.2 (.inr ⟨j,v,n,q⟩)) (A9.2 (.inr ⟨_,u,a,hu⟩))).elim
  have:=p.dist _ _ b u v a n hu q;omega
 grind
theorem sN (V:Vw) (et a:TypeId) (k e:Ty):Jr V et a k e [] none (.slice none 0 0) [] [] :=
 ⟨by simp[AO],rfl,ABl V.w 0 et _,λi x u h=>by simp at h,λi j b u v h=>by simp at h,λi b u h=>by simp at h⟩
theorem KX {w:World} {base:Nat} {et:TypeId} {sz b n:Nat} {loc v:Value} {cells:List Value} (f:w.ownsRow base et sz loc n cells) (h:C6 loc b 0 n v):v=loc:=by
 obtain⟨a,m,c,rfl,_,_,d,e,rfl,_,h0,_⟩:=h;grind [JA]
theorem A0z {w:World} {O:Nat->Prop} {et:TypeId} {xs:List e.den} {loc:Value} {cells:List Value} (d:xs.length<=AO) (a:w.ownsRow 0 et e.size loc xs.length cells) (c:DV w O e cells xs):Src w O e loc xs cells:=by
 refine⟨?_,a.1,c,Vm (V:=⟨w,O,λ_=>False,λ_=>undef⟩) a c,d⟩;rcases a.2 with ⟨b,hn⟩|⟨g,cap,f,b,_⟩
 .grind
 subst b;exact⟨some ⟨g,0,none⟩,cap,rfl,.inr ⟨_,rfl,a.cells (g:=g) rfl⟩⟩
theorem Nq {V:Vw} {et a:TypeId} {k e:Ty} {xs:List (k.den×List e.den)} {o:Value} {ins cells:List Value} (h:Jr V et a k e xs none o ins cells):Src V.w (λ_=>False) (.agg (.prod k (.slice e))) o xs cells :=
 A0z (e:=.agg (.prod k (.slice e))) (xs:=xs) h.max h.own (Mk (λ_ _ h=>h) h λ_ _ _ _ _ h=>h)
theorem PQ {V:Vw} {et c:TypeId} {k e:Ty} {xs:List (k.den×List e.den)} {a:Option Nat} {loc:Value} (b:A4 V (.nest et c k e xs a) loc):seat loc:=by
 obtain⟨o,ins,cells,a,_⟩:=b;exact a.elim (λh=>.inr ⟨_,h⟩) (λh=>.inl ⟨_,_,_,h.1⟩)
theorem sO (hs:Bx w0 K O0 nt ds σ ρ a w) (T:∀b,K b->b<w0.heap.size) (V:∀b,O0 b->b<w0.heap.size) (hT:Cs P tb) {d:Nat} (W:d<nt) {ty:TypeId} {x:Operand} {n m hi C:Nat} {E A:Ty} {k e:Ty}
  (f:Ab σ x=some (.sr n E 0 hi)) (g:Ab σ y=some (.sr m A 0 C)) {et v:TypeId} {xs ys:List (k.den×List e.den)} (hn:lk n σ.objs=some (.nest et v k e xs none)) (D:lk m σ.objs=some (.nest R v k e ys none)) (Z:n≠m)
  (ah:GJ n=false) (ag:GJ m=false) (hu:P.underlying t=some (.slice et)) {te:TI} (J:lk et tb.ty=some te) (L:te.ty=.agg (.prod k (.slice e))) (ab:hi=xs.length) (ad:C=ys.length) (M:(xs.length+ys.length)*te.bytes<=AO) :
  ∃z w' ρ',(Builtin.append_ #[t,t] ty #[a.eval x,a.eval y]).run P w=.ok z w' /\
   Bx w0 K O0 nt ds ⟨(d,.sr n (.agg (.prod k (.slice e))) 0 (xs.length+ys.length)) :: Cg [n,m] σ.env,(n,.nest et v k e (xs++ys) none) :: Aw [n,m] [n,m] σ.objs⟩ ρ' (a.put (some d) z) w':=by
 subst ab ad;have B:D5 (vw w O0 σ ρ) σ a.eval:=CN hs.env;have F:=hs.objs n _ hn;have G:=hs.objs m _ D;have aj:=PQ F;have ak:=PQ G;obtain⟨o,ins,cells,p,l⟩:=F;obtain⟨al,O,Q,s,q⟩:=G;obtain⟨_,f⟩:=B x _ f;obtain⟨_,g⟩:=B y _ g;have f:C6 (plc (ρ n)) E.size 0 xs.length (a.eval x):=f;have g:C6 (plc (ρ m)) A.size 0 ys.length (a.eval y):=g;rw[p.plc]at f;rw[s.plc]at g;have f:=KX l.own f;have g:=KX q.own g;rw[f,g];obtain⟨z,w',I,H,h,X⟩:=Fc (ty:=ty) hT hu J L l.own (Nq q) M (Do _);have N:=Gb (ty:=ty) hT hu J L l.own (Nq q) M I;rw[Ri l.own]at h;refine⟨z,w',_,I,hs.swap1 (loc:=.tuple (z :: (ins++O)).toArray) T V (tl:=[n,m]) (λj ai=>?_) (.inl sc) h.os h.tape h.output h.size ?_ ?_ ?_ W ?_⟩
 .grind
 .exact λb c aa=>h.block b c λr=>aa n sc (p.bk.2 (A9.2 (.inl r.symm)))
 .intro b c;rcases A9.1 c with c|⟨i,u,hi,c⟩
  .rcases N with h1|h1
   .exact .inl ⟨n,by simp,p.bk.2 (A9.2 (.inl (by rw[<-h1];exact c)))⟩
   exact .inr (h1 b c)
  rw[AAx]at hi;split at hi
  .exact .inl ⟨n,by simp,p.bk.2 (A9.2 (.inr ⟨_,u,hi,c⟩))⟩
  exact .inl ⟨m,by simp,s.bk.2 (A9.2 (.inr ⟨_,u,hi,c⟩))⟩
 .intro V' ae hk;subst ae;refine⟨z,ins++O,cells++Q,.inl rfl,Vs l q (λb h1 S=>?_) H N (λb c Y=>h.block b c λr=>Y r.symm) hk X⟩;exact Z (hs.dist n m b ⟨_,hn⟩ ⟨_,D⟩ (p.bk.2 h1) (s.bk.2 S))
 intro V' U af;refine⟨U,?_⟩;show C6 (plc (V'.ρ n)) _ 0 _ z;rw[af];exact Fa H
theorem A0A (hs:Bx w0 K O0 nt ds σ ρ a w) (M:∀b,K b->b<w0.heap.size) (O:∀b,O0 b->b<w0.heap.size) (hT:Cs P tb) {d:Nat} (Q:d<nt) {ty:TypeId} {x:Operand} {m v:Nat} {q:Ty} {e:Ty}
  (o:Ab σ x=some (.raw (.slice none 0 0))) (f:Ab σ y=some (.sr m q 0 v)) {et L:TypeId} {ys:List (k.den×List e.den)} (S:lk m σ.objs=some (.nest L p k e ys none)) (R:lk d σ.objs=none)
  (Z:GJ m=false) (hu:P.underlying t=some (.slice et)) {te:TI} (E:lk et tb.ty=some te) (F:te.ty=.agg (.prod k (.slice e))) (V:v=ys.length) (G:ys.length*te.bytes<=AO) :
  ∃z w' ρ',(Builtin.append_ #[t,t] ty #[a.eval x,a.eval y]).run P w=.ok z w' /\
   Bx w0 K O0 nt ds ⟨(d,.sr d (.agg (.prod k (.slice e))) 0 ys.length) :: Cg [m] σ.env,(d,.nest et p k e ys none) :: Aw [m] [m] σ.objs⟩ ρ' (a.put (some d) z) w':=by
 subst V;have s:D5 (vw w O0 σ ρ) σ a.eval:=CN hs.env;have A:=hs.objs m _ S;have ad:=PQ A;obtain⟨ae,I,J,D,l⟩:=A;have o:a.eval x=.slice none 0 0:=s x _ o;obtain⟨_,f⟩:=s y _ f;have f:C6 (plc (ρ m)) q.size 0 ys.length (a.eval y):=f;rw[D.plc]at f;have f:=KX l.own f;rw[o,f];have h:=sN (vw w O0 σ ρ) et p k e;obtain⟨z,w',C,B,g,T⟩:=Fc (ty:=ty) hT hu E F h.own (Nq l) (by simpa using G) (Do _);have H:=Gb (ty:=ty) hT hu E F h.own (Nq l) (by simpa using G) C;rw[Ri h.own]at g;refine⟨z,w',_,C,hs.swap1 (loc:=.tuple (z :: ([]++I)).toArray) M O (tl:=[m]) (λj aa=>?_) (.inr R) g.os g.tape g.output g.size ?_ ?_ ?_ Q ?_⟩
 .grind
 .exact λb c ab=>g.block b c λn=>by simp[blk]at n
 .intro b c;rcases A9.1 c with c|⟨i,u,hi,c⟩
  .rcases H with h1|h1
   .grind [blk]
   exact .inr (h1 b c)
  exact .inl ⟨m,by simp,D.bk.2 (A9.2 (.inr ⟨_,u,by simpa using hi,c⟩))⟩
 .intro V' W hk;subst W;refine⟨z,[]++I,[]++J,.inl rfl,?_⟩;have:=Vs h l (λb h1 Y=>?_) B H (λb c U=>g.block b c λn=>U n.symm) hk T
  .simpa using this
  grind [A9,blk]
 intro V' N X;refine⟨N,?_⟩;show C6 (plc (V'.ρ d)) _ 0 _ z;rw[X];have r:=Fa B;simp only[AAd,AAG]at r;exact r
theorem dQ (hs:Bx w0 K O0 nt ds σ ρ a w) (s:∀b,K b->b<w0.heap.size) (A:∀b,O0 b->b<w0.heap.size) (hT:Cs P tb) {d:Option Nat} (B:∀k,d=some k->k<nt) {u ty:TypeId} {x:Operand}
  (h:DH tb σ d t u (Ab σ x) (Ab σ y)=some (vc,σ')) (q:vc) :
  ∃z w' ρ',(Builtin.append_ #[t,u] ty #[a.eval x,a.eval y]).run P w=.ok z w'/\Bx w0 K O0 nt ds σ' ρ' (a.put d z) w':=by
 by_cases M:∃n e hi,Ab σ x=some (.sr n e 0 hi)/\Cq (lk n σ.objs)=false
 .exact dN hs s A hT B h q M
 unfold DH at h;split at h
 .rename_i n e hi v j r;split at h
  .rename_i d;split at h
   .rename_i p;obtain⟨rfl,I⟩:=p;cases f:lk t tb.ty with
    | none=>rw[f]at h;simp[Ed]at h
    | some ti =>
     rw[f]at h;unfold Ed at h;split at h
     .rename_i Q offs el b F;cases F;split at h
      .rename_i G;subst G;obtain⟨hu,N,te,g,o⟩:=CM (hT _ _ f) hT;rw[g]at h;unfold CP at h;split at h
       .rename_i ti et L xs h1 hn;exact absurd ⟨n,_,hi,j,by rw[hn];rfl⟩ M
       .rename_i ti et O k L xs h1 hn;cases h1;split at h
        .rename_i c;obtain⟨rfl,rfl⟩:=c;unfold SV at h;split at h
         .rename_i m E V;unfold Mf at h;split at h
          .rename_i S ad aa R ys J;split at h
           .rename_i c;obtain⟨rfl,W,H⟩:=c;cases D:BR (.slice (.agg (.prod k (.slice L)))) ⟨.slice (.agg (.prod aa (.slice R))),ys⟩ with
            | none=>rw[D]at h;simp[KL]at h
            | some af =>
             obtain⟨l,T⟩:=Bk D;injection l with l
             injection l with l C
             injection C with C
             subst l C;cases T;rw[D]at h;simp only[KL]at h;cases h;obtain⟨X,Y,Z⟩:=q;exact sO hs s A hT (B _ rfl) j r hn J W I H hu g o X Y Z
           cases h
          cases h
         cases h
        cases h
       cases h
      cases h
     cases h
   cases h
  cases h
 .rename_i n e i len v j r;split at h
  .rename_i d;split at h
   .rename_i p;subst p;cases f:lk t tb.ty with
    | none=>rw[f]at h;simp[Na]at h
    | some ti =>
     rw[f]at h;unfold Na at h;split at h
     .rename_i Q offs el b F;cases F;split at h
      .rename_i G;subst G;obtain⟨hu,N,te,g,o⟩:=CM (hT _ _ f) hT;rw[g]at h;unfold QK at h;split at h
       .rename_i ti et O k ab xs h1 hn;cases h1;split at h
        .rename_i c;obtain⟨rfl,rfl,I⟩:=c;exact A0y hs s A hT (B _ rfl) j r hn I hu g o h q
        cases h
       cases h
      cases h
     cases h
   cases h
  cases h
 .rename_i v j r;split at h
  .rename_i d;split at h
   .rename_i p;subst p;unfold Y7 at h;split at h
    .rename_i m E V ae offs el b f;obtain⟨hu,N,te,g,o⟩:=CM (hT _ _ f) hT;rw[g]at h;unfold QM at h;split at h
     .rename_i ti S O k e ys h1 J;cases h1;split at h
      .rename_i c;subst c;unfold QL at h;split at h
       .rename_i c;obtain⟨U,H⟩:=c;cases h;exact A0A hs s A hT (B _ rfl) j r J (by simpa using U) H hu g o q.1 q.2
       cases h
      cases h
     cases h
    cases h
   cases h
  cases h
 cases h
theorem dR (hs:Bx w0 K O0 nt ds σ ρ a w) (t:∀b,K b->b<w0.heap.size) (u:∀b,O0 b->b<w0.heap.size) (hT:Cs P tb) {id:TypeId} {x:Operand} (h:H2 σ (lk id tb.ty) (Ab σ x) (Ab σ y)=some (vc,σ')) (G:vc) :
  ∃w' ρ',(Instr.storeAt id (a.eval x) (a.eval y)).run P w=.ok () w'/\Bx w0 K O0 nt ds σ' ρ' a w':=by
 by_cases C:∃n e i o off,Ab σ x=some (.ep n e i o off)/\Cq (lk n σ.objs)=true
 .obtain⟨n,e,i,o,off,g,f⟩:=C;unfold H2 at h;split at h
  .grind
  .rename_i ti N I i' Q O v D l H;rw[g]at l;cases l;unfold DG at h;split at h
   .rename_i hn;rw[hn]at f;cases f
   .rename_i et L k J xs j hn;split at h
    .rename_i m E hi;split at h
     .rename_i c;obtain⟨rfl,rfl,s⟩:=c;subst s;unfold Mg at h;split at h
      .rename_i c;obtain⟨F,rfl,rfl⟩:=c;unfold Me at h;split at h
       .rename_i M p ys B;split at h
        .rename_i c;obtain⟨rfl,z,A⟩:=c;cases d:BR (.slice E) ⟨.slice p,ys⟩ with
         | none=>rw[d]at h;simp[KK]at h
         | some R =>
          obtain⟨q,r⟩:=Bk d;subst q;cases r;rw[d]at h;simp only[KK]at h;cases h;exact sM hs t u hT D F g H hn B A z G
        cases h
       cases h
      cases h
     cases h
    cases h
   cases h
  cases h
 grind [nE,Cq,lk]
end
end
end Go.Proofs.YtglkoagnnnpimaaGreatDoor.Fw
