/- Calls by contract; stores; appends. -/
import Derived.Test.YtdapahgnpbehbaaGreatIZC
import Derived.CallsIn
import Derived.TacticsIn
import Derived.OrdersIn
import Derived.RangeFuncCalls
set_option linter.unusedVariables false
set_option linter.unusedSimpArgs false
namespace Go.Proofs.YtdapahgnpbehbaaGreat.Fw
section
open Go Go.RowKit
abbrev AC0:=@Go.MapKept.heap_set
abbrev ACm:=@Go.Oper.uponIn_enter
def Pp (w:World) (O:Nat→Prop):(ts:List Ty)→List Value→JG ts→Prop
 | [],a,_=>a=[]
 | t :: ts,a,ds=>∃(v:Value) (r:List Value),a=v :: r∧BM w O t v ds.1∧Pp w O ts r ds.2
def FR (r:Option Nat):Fence:={ fn:=fun _=>True,depth:=none,alive:=false,round:=r }
theorem JX {r:Option Nat} {n:Nat} {P:Program} {f:FuncId} {args:Array Value} {w:World} {R:Ending→World→Prop} (h:Calls P f args w R):CallsIn (FR r) n P f args w R:=by
 cases r with
 | none=>exact callsIn_wide.2 h
 | some l=>exact((callsIn_wide.2 h:CallsIn Fence.wide n P f args w R).inRound l:CallsIn _ n P f args w R)
theorem Er (r:Option Nat) (ρ:Operand→Value) (o:Oper) (h:∀c,o.op≠.defer c):o.semAt r ρ=execOp ρ o:=by
 cases r with
 | none=>exact Oper.semAt_none ρ o
 | some l=>exact Oper.semAt_some l ρ o h
def oL (w:World) (O:Nat→Prop) (a:List RV) (u:Value) (w':World):Prop :=
 ∀nm:Nat,∃ρ',QS w O ⟨[],[]⟩ (fun _=>undef) (IX nm a) (Ce nm a) u ρ' w'
def A0k (P:Program) (f:FuncId) (a:Ad):Prop :=
 ∀(w:World) (O:Nat→Prop) (c:List Value) (ds:JG a.ins),(∀b,O b→b<w.heap.size)→Pp w O a.ins c ds→a.pre ds →
  Calls P f c.toArray w fun e w'=>∃u,e=.returned u∧oL w O (a.out ds) u w'
def Aj (P:Program) (f:FuncId) (a:Ad):Prop :=
 (∃ fn : Func, P.funcs[f]? = some fn ∧ (fn.name == "runtime.NumGoroutine") = false ∧ fn.body.isNone = false) ∧ A0k P f a
def Hl (P:Program) (tb:Tb):Prop:=∀f a,lk f tb.fns=some a→Aj P f a
theorem Ig {w w':World} {O O':Nat→Prop}:∀ {t:Ty} {cs:List Value} {d:t.den},t.flat=true→Be w O t cs d→Be w' O' t cs d
 | .int _,_,_,_,h=>h
 | .bool,_,_,_,h=>h
 | .str,_,_,_,h=>h
 | .ref _,_,_,_,h=>h
 | .slice _,_,_,hf,_=>by simp[Ty.flat]at hf
 | .prod a b,_,_,hf,h=>by
  simp only[Ty.flat,An]at hf;obtain⟨c1,c2,rfl,h1,c⟩:=h;exact⟨c1,c2,rfl,Ig hf.1 h1,Ig hf.2 c⟩
 | .agg t,cs,d,hf,h=>by
  simp only[Ty.flat]at hf;have h:Be w O t cs d:=h;exact(Ig hf h:Be w' O' t cs d)
theorem Tw {w w':World} {O O':Nat→Prop} {t:Ty} {v:Value} {d:t.den} (hf:t.flat=true) (h:BM w O t v d):BM w' O' t v d :=
 let ⟨cs,h1,a⟩:=h
 ⟨cs,Ig hf h1,a⟩
theorem Pq:∀ {l:List RV} (nm:Nat),l.all RV.flat=true→Ce nm l=[]
 | [],_,_=>rfl
 | .p t d :: l,nm,h=>by
  simp only[AAU,An]at h;simp[Ce,Pe,Pq (nm+10000) h.2]
 | .own _ _ _ :: l,nm,h=>by simp[RV.flat]at h
theorem oM {r:RV} (h:r.flat=true) (nm:Nat):∃t d,Wq nm r=.p t d∧t.flat=true:=by
 cases r with
 | p t d=>exact⟨t,d,rfl,h⟩
 | own _ _ _=>simp[RV.flat]at h
theorem oO {V V':Vw}:∀ {l:List RV} {nm:Nat} {a:List Value},l.all RV.flat=true→Ib V (Lv nm l) a→Ib V' (Lv nm l) a
 | [],_,_,_,h=>h
 | r :: l,nm,a,hf,h=>by
  simp only[AAU,An]at hf;obtain⟨v,f,rfl,h1,b⟩:=h;obtain⟨t,d,e,c⟩:=oM hf.1 nm;refine⟨v,f,rfl,?_,oO hf.2 b⟩;rw[e]at h1 ⊢;exact Tw c h1
theorem oP {V V':Vw} {l:List RV} {nm:Nat} {u:Value} (hf:l.all RV.flat=true) (h:Bm V (IX nm l) u):Bm V' (IX nm l) u:=by
 match l,hf,h with
 | [],_,h=>exact h
 | [r],hf,h =>
  simp only[AAU,List.all_nil,Bool.and_true]at hf;obtain⟨t,d,e,a⟩:=oM hf nm;simp only[IX]at h ⊢;rw[e]at h ⊢;exact Tw a h
 | c :: f :: l,hf,h =>
  obtain⟨b,rfl,h1⟩:=h;exact⟨b,rfl,oO hf h1⟩
section
variable {P:Program} {tb:Tb} {w:World} {O0:Nat→Prop} {σ:St} {ρ:Nat→Value} {vc:Prop} {v:AV} {obs:List (Nat×Obj)}
theorem QS.call {c:List RV} {nm:Nat} {u:Value} {ρ':Nat→Value} {w':World} (hf:BQ (Ce nm c) σ=true)
  (h:QS w (own O0 σ ρ) ⟨[],[]⟩ (fun _=>undef) (IX nm c) (Ce nm c) u ρ' w') :
  QS w O0 σ ρ (IX nm c) (Ce nm c) u (fun n=>if (lk n (Ce nm c)).isSome then ρ' n else ρ n) w':=by
 have f:∀n,Fl (Dq ⟨[],[]⟩ (Ce nm c)) n↔∃o,lk n (Ce nm c)=some o:=fun n=>by simp[Fl,Dq]
 have hk:B7 (vw w' (own O0 σ ρ) (Dq ⟨[],[]⟩ (Ce nm c)) ρ') (vw w' O0 (Dq σ (Ce nm c)) (fun n=>if (lk n (Ce nm c)).isSome then ρ' n else ρ n)):=by
  refine⟨?_,?_,?_,fun _ _ _=>rfl⟩
  ·intro b _ d e;rcases e with h0|⟨n,i,hn⟩
   ·exact d (.inl (.inl h0))
   ·rcases KW i with ⟨o,a⟩|⟨k,j⟩
    ·refine d (.inr ⟨n,(f n).2 ⟨o,a⟩,?_⟩);simpa[a] using hn
    ·refine d (.inl (.inr ⟨n,j,?_⟩));simpa[k] using hn
  ·intro n hn;obtain⟨o,a⟩:=(f n).1 hn;exact⟨o,by simp[Dq,Av,a]⟩
  ·intro n hn;obtain⟨o,a⟩:=(f n).1 hn;simp[vw,a]
 refine⟨h.below,fun n hn=>by simp[hn],h.av.keeps hk,fun n o a=>?_,fun n o b a d=>?_,fun n m o l b a g d e=>?_⟩
 ·simp only[a,AC7,AAv];exact(h.obj n o a).keeps hk (fun _ _=>rfl)
 ·simp only[a,AC7,AAv]at d;exact h.new n o b a d
 ·simp only[a,g,AC7,AAv]at d e;exact h.dist n m o l b a g d e
theorem Vj {V:Vw} {O':Nat→Prop} {l:Bool} (c:∀b,¬V.O b→¬O' b) (f:l=true→∀b,¬O' b) (e:∀n o,lk n σ.objs=some o→Aw V o (V.ρ n)) {ev:Operand→Value} (d:FK V σ ev) :
  ∀ {ts:List Ty} {xs:List Operand} {ds:JG ts},FL l σ ts xs=some ds→Pp V.w O' ts (xs.map ev) ds
 | [],[],ds,h=>rfl
 | [],_ :: _,ds,h=>by simp[FL]at h
 | _ :: _,[],ds,h=>by simp[FL]at h
 | t :: ts,x :: xs,ds,h=>by
  simp only[FL]at h;cases a:AZ σ x with
  | none=>rw[a]at h;cases h
  | some av =>
   rw[a]at h;simp only at h;split at h
   ·rename_i y ys g i;cases h;exact⟨ev x,xs.map ev,rfl,Ie c f e g (d x av a),Vj c f e d i⟩
   ·cases h
theorem A0l (J:Hl P tb) (B:∀n o,lk n σ.objs=some o→Aw (vw w O0 σ ρ) o (ρ n)) (O:∀b,own O0 σ ρ b→b<w.heap.size) {a:Act} (p:FK (vw w O0 σ ρ) σ a.eval) {d:Nat} {xs:List Operand} {g:Operand}
  {o:Oper} {ts:Array TypeId} (A:o.op=.call { callee:=.value g,args:=xs.toArray,argTypes:=ts })
  (h:KP tb σ d xs (AZ σ g)=some (vc,v,obs)) (D:vc) (hf:BQ obs σ=true) {next:Act→World→Prop} {Q:Exit→Act→World→Prop} {r:Option Nat}
  (hn:∀u ρ' w',QS w O0 σ ρ v obs u ρ' w'→next (a.put o.dst u) w'):o.wpIn (FR r) 0 P a w next Q:=by
 cases q:AZ σ g with
 | none=>rw[q]at h;simp[KP]at h
 | some E =>
  rw[q]at h;have L:=p g E q;unfold KP at h;split at h
  ·rename_i f H;cases H;have K:a.eval g=.func (.func f) #[] #[]:=L;cases y:lk f tb.fns with
   | none=>rw[y]at h;simp[IA]at h
   | some k =>
    rw[y]at h;simp only[IA]at h;cases i:FL k.lend σ k.ins xs with
    | none=>rw[i]at h;simp[JM]at h
    | some ds =>
     rw[i]at h;simp only[JM]at h;split at h
     ·rename_i j;cases h;obtain⟨⟨fn,I,N,G⟩,C⟩:=J f k y;have R:(execOp a.eval o).run P w=.ok (.enter f (xs.map a.eval).toArray) w:=by
       have h1 : ¬ fn.name = "runtime.NumGoroutine" := by simpa using N
       have F:¬fn.body=none:=by intro e;simp[e]at G
       simp[execOp,A,resolve,Deferred.ofValue,K,invoke,callFunc,I,h1,F]
      refine⟨fun _ _=>trivial,?_⟩;rw[Er _ _ _ (fun c e=>by rw[A]at e;cases e),R,ACm];refine⟨fun h=>(by simp[FR]at h),JX ?_⟩;by_cases t:k.lend=true
      ·rw[t]at i;have z:(k.out ds).all RV.flat=true:=by
        rcases j with j|j
        ·rw[t]at j;cases j
        ·exact j
       have m:=Vj (V:=vw w O0 σ ρ) (O':=fun _=>False) (fun _ _ h=>h) (fun _ _ h=>h) B p i;refine(C w (fun _=>False) _ ds (fun _ h=>h.elim) m D).mono fun e w' s=>?_;obtain⟨u,rfl,x⟩:=s;obtain⟨ρ',l⟩:=x d;refine hn u ρ w' ?_;rw[Pq d z]at l ⊢;exact⟨l.below,fun _ _=>rfl,oP z l.av,(fun _ _ h=>by cases h),(fun _ _ _ h=>by cases h),(fun _ _ _ _ _ h=>by cases h)⟩
      ·have M:k.lend=false:=by simpa using t
       rw[M]at i;have m:=Vj (V:=vw w O0 σ ρ) (O':=own O0 σ ρ) (fun _ h=>h) (fun h=>by cases h) B p i;refine(C w (own O0 σ ρ) _ ds O m D).mono fun e w' s=>?_;obtain⟨u,rfl,x⟩:=s;obtain⟨ρ',l⟩:=x d;exact hn u _ w' (QS.call hf l)
     ·cases h
  ·cases h
end
end
section
open Go Go.RowKit
section
variable {P:Program} {tb:Tb} {w:World} {O0:Nat→Prop} {σ:St} {ρ:Nat→Value} {vc:Prop} {v:AV} {obs:List (Nat×Obj)}
theorem Ag {o:Oper} {a:Act} {u:Value} {w':World} {next:Act→World→Prop} {Q:Exit→Act→World→Prop} {r:Option Nat} (h:(execOp a.eval o).run P w=.ok (.value u) w') (hn:next (a.put o.dst u) w') (b:∀c,o.op≠.defer c:=by intro c e;cases e):o.wpIn (FR r) 0 P a w next Q:=by
 refine⟨fun _ _=>trivial,?_⟩;rw[Er _ _ _ b,h];exact hn
theorem oQ {V:Vw} (x:Value):Bm V (GS x) x:=by
 unfold GS;split
 ·rename_i k n;split
  ·rename_i h;exact BF h
  ·exact(rfl:(Value.int k n)=_)
 ·exact BT _
 ·rename_i s;split
  ·rename_i h;exact RR h
  ·exact(rfl:(Value.string s)=_)
 ·exact(rfl:x=x)
theorem DU {V:Vw} {a:Act} (h:∀s v,lk s σ.env=some v→Bm V v (a.tmps.getD s undef)):FK V σ a.eval:=by
 intro x v b;cases x with
 | tmp t=>exact h t v b
 | const c=>simp only[AZ]at b;cases b;exact oQ c
 | global g=>simp[AZ]at b
 | func f=>simp only[AZ]at b;cases b;rfl
structure A1d (P:Program) (tb:Tb) (w:World) (O0:Nat→Prop) (σ:St) (ρ:Nat→Value) (a:Act):Prop where
 hT:Cg P tb
 hF:Hl P tb
 obj:∀n o,lk n σ.objs=some o→Aw (vw w O0 σ ρ) o (ρ n)
 own:∀b,own O0 σ ρ b→b<w.heap.size
 ev:FK (vw w O0 σ ρ) σ a.eval
theorem QS.toP {d n:Nat} {el:TypeId} {e:Ty} {xs:List e.den} {u:Value} {ρ':Nat→Value} {w':World} (hown:∀b,own O0 σ ρ b→b<w.heap.size) (hf:BQ [(d,.arr el e xs)] σ=true)
  (hq:QS w O0 σ ρ (.sr d e 0 n) [(d,.arr el e xs)] u ρ' w') (hn:n=xs.length):QS w O0 σ ρ (.p (.slice e) xs) [] u ρ w' where
 below:=hq.below
 rho:=fun _ _=>rfl
 av:=by
  have hO:∀b,¬own O0 (Dq σ [(d,.arr el e xs)]) ρ' b→¬own O0 (Dq σ []) ρ b:=by
   intro b hb hb';rcases hb' with h0|⟨m,⟨o,hm⟩,hmb⟩
   ·exact hb (.inl h0)
   ·have hm:lk m σ.objs=some o:=hm;have hne:lk m [(d,Obj.arr el e xs)]=none:=by
     cases h':lk m [(d,Obj.arr el e xs)] with
     | none=>rfl
     | some o'=>have:=MB hf h';rw[this]at hm;cases hm
    refine hb (.inr ⟨m,⟨o,by simp only[Dq,Av,hne];simpa using hm⟩,?_⟩);rw[hq.rho m hne];exact hmb
  have hd:lk d [(d,Obj.arr el e xs)]=some (.arr el e xs):=by simp[lk]
  have hb:∀b,bk (ρ' d) b→¬own O0 (Dq σ []) ρ b:=fun b hb hb'=>by
   have h1:=hq.new d _ b hd hb;have h2:=hown b hb';omega
  have hr:=Vd (V:=vw w' O0 (Dq σ [(d,.arr el e xs)]) ρ') hO (fun b hb'=>hb b (.inl hb')) (hq.obj d _ hd) hq.av.2;rw[hn,Hc]at hr;obtain⟨_,_,_,_,_,_,a',c',hve,_⟩:=hq.av.2;exact⟨[u],hr,by rw[hve];rfl⟩
 obj:=fun _ _ h=>by cases h
 new:=fun _ _ _ h=>by cases h
 dist:=fun _ _ _ _ _ h=>by cases h
theorem Tc {id:TypeId} {ti:TI} (hT:Dd P tb id ti) (g:Cg P tb) (r:∀n o,lk n σ.objs=some o→Aw (vw w O0 σ ρ) o (ρ n)) (A:∀b,own O0 σ ρ b→b<w.heap.size) {ev:Operand→Value} (i:FK (vw w O0 σ ρ) σ ev) {s:Bool} {d n:Nat} {parts:List (Nat×Operand)}
  (h:BP s σ d n parts (some ti)=some (vc,v,obs)) (f:vc) (hf:BQ obs σ=true) :
  ∃u ρ' w',(Instr.buildSlice id n (parts.map fun p=>(p.1,ev p.2)).toArray).run P w=.ok u w'∧QS w O0 σ ρ v obs u ρ' w':=by
 cases s with
 | false=>exact Mw hT g r i h f hf
 | true =>
  unfold BP at h;split at h
  ·rename_i e offs el b z;cases hp:EP σ e 0 parts with
   | none=>rw[hp]at h;simp[BW]at h
   | some xs =>
    rw[hp]at h;simp only[BW,AAv]at h;cases h;obtain⟨a,y⟩:∃a,lk a σ.objs=none:=by
     have:∀l:List (Nat×Obj),∃m,∀k,m≤k→lk k l=none:=by
      intro l;induction l with
      | nil=>exact⟨0,fun _ _=>rfl⟩
      | cons x l C =>
       obtain⟨m,c⟩:=C;refine⟨max m (x.1+1),fun k hk=>?_⟩;have:¬k=x.1:=by omega
       obtain⟨j,o⟩:=x;simp only[lk,this,AAN];exact c k (by omega)
     obtain⟨m,c⟩:=this σ.objs;exact⟨m,c m (If m)⟩
    have q:BQ [(a,.arr el e xs)] σ=true:=by simp[BQ,y]
    have B:BP false σ a n parts (some ti)=some (xs.length=n∧n*e.size≤16777216,.sr a e 0 n,[(a,.arr el e xs)]):=by
     unfold BP;rw[z];simp only;rw[hp];simp[BW]
    obtain⟨u,ρ',w',h1,t⟩:=Mw hT g r i B f q;exact⟨u,ρ,w',h1,t.toP A q f.1.symm⟩
  ·cases h
theorem cF {a:Act} (F:A1d P tb w O0 σ ρ a) {o:Oper} (h:aq tb σ (o.dst.getD 0) o.op=some (vc,v,obs)) (C:vc) (hf:BQ obs σ=true)
  {next:Act→World→Prop} {Q:Exit→Act→World→Prop} {r:Option Nat} (hn:∀u ρ' w',QS w O0 σ ρ v obs u ρ' w'→next (a.put o.dst u) w'):o.wpIn (FR r) 0 P a w next Q:=by
 obtain⟨hT,hF,E,X,q⟩:=F;have S:∀n,(vw w O0 σ ρ).L n→∃o,Aw (vw w O0 σ ρ) o ((vw w O0 σ ρ).ρ n):=fun n ⟨o,ae⟩=>⟨o,E n o ae⟩;obtain⟨dst,op,type,pos,after,guard⟩:=o;simp only at h hn;cases op<;>simp only[aq]at h<;>try(cases h;done)
 case move x =>
  cases d:AZ σ x with
  | none=>rw[d]at h;cases h
  | some xv =>
   rw[d]at h;simp only[Fy]at h;cases h;exact Ag (u:=a.eval x) (by simp[execOp]) (hn _ _ _ (QS.still (q x _ d)))
 case assign x =>
  cases d:AZ σ x with
  | none=>rw[d]at h;cases h
  | some xv =>
   rw[d]at h;simp only[Fy]at h;cases h;exact Ag (u:=a.eval x) (by simp[execOp]) (hn _ _ _ (QS.still (q x _ d)))
 case pick c x y =>
  cases F:AZ σ c with
  | none=>rw[F]at h;simp[J1]at h
  | some R =>
   rw[F]at h;have U:=q c R F;unfold J1 at h;split at h
   ·rename_i G;cases G;have D:=Dk U;cases d:AZ σ x with
    | none=>rw[d]at h;simp[Fy]at h
    | some xv =>
     rw[d]at h;simp only[Fy]at h;cases h;exact Ag (u:=a.eval x) (by simp[execOp,D,asBool]) (hn _ _ _ (QS.still (q x _ d)))
   ·rename_i G;cases G;have D:=Dk U;cases A:AZ σ y with
    | none=>rw[A]at h;simp[Fy]at h
    | some H =>
     rw[A]at h;simp only[Fy]at h;cases h;exact Ag (u:=a.eval y) (by simp[execOp,D,asBool]) (hn _ _ _ (QS.still (q y _ A)))
   ·cases h
 case alloc t =>
  cases j:lk t tb.ty with
  | none=>rw[j]at h;simp[JI]at h
  | some ti =>
   rw[j]at h;obtain⟨u,ρ',w',h1,k⟩:=uO (w:=w) (O0:=O0) (ρ:=ρ) (hT _ _ j) h hf;exact Ag (u:=u) (w':=w') (by simp[execOp,h1]) (hn _ _ _ k)
 case box t x =>
  cases j:lk t tb.ty with
  | none=>rw[j]at h;simp[QW]at h
  | some ti =>
   cases d:AZ σ x with
   | none=>rw[j,d]at h;simp[QW]at h
   | some xv =>
    rw[j,d]at h;obtain⟨u,ρ',w',h1,k⟩:=A1b (hT _ _ j) h (q x _ d) hf;exact Ag (u:=u) (w':=w') (by simp[execOp,h1]) (hn _ _ _ k)
 case build t parts =>
  cases j:lk t tb.ty with
  | none=>rw[j]at h;simp[H6]at h
  | some ti =>
   rw[j]at h;obtain⟨rfl,u,h1,k⟩:=uQ (hT _ _ j) E q h;have h1:(Instr.build t (parts.map fun p=>(p.1,a.eval p.2))).run P w=.ok u w:=by
    rw[←h1]
    congr 2
    apply ACD;simp
   exact Ag (u:=u) (w':=w) (by simp[execOp,h1]) (hn _ _ _ (QS.still k))
 case buildSlice t n parts =>
  cases W:lk (dst.getD 0) tb.nests with
  | some ak =>
   rw[W]at h;simp only[Fj]at h;cases j:lk t tb.ty with
   | none=>rw[j]at h;simp[H8]at h
   | some ti =>
    rw[j]at h;obtain⟨u,ρ',w',h1,k⟩:=A0f (hT _ _ j) hT E q h C hf;have h1:(Instr.buildSlice t n (parts.map fun p=>(p.1,a.eval p.2))).run P w=.ok u w':=by
     rw[←h1]
     congr 2
     apply ACD;simp
    exact Ag (u:=u) (w':=w') (by simp[execOp,h1]) (hn _ _ _ k)
  | none =>
  rw[W]at h;simp only[Fj]at h;cases j:lk t tb.ty with
  | none=>rw[j]at h;simp[BP]at h
  | some ti =>
   rw[j]at h;obtain⟨u,ρ',w',h1,k⟩:=Tc (hT _ _ j) hT E X q h C hf;have h1:(Instr.buildSlice t n (parts.map fun p=>(p.1,a.eval p.2))).run P w=.ok u w':=by
    rw[←h1]
    congr 2
    apply ACD;simp
   exact Ag (u:=u) (w':=w') (by simp[execOp,h1]) (hn _ _ _ k)
 case load t x =>
  cases j:lk t tb.ty with
  | none=>rw[j]at h;simp[IY]at h
  | some ti =>
   cases d:AZ σ x with
   | none=>rw[j,d]at h;simp[IY]at h
   | some xv =>
    rw[j,d]at h;obtain⟨rfl,u,h1,k⟩:=oB (hT _ _ j) E h (q x _ d);exact Ag (u:=u) (w':=w) (by simp[execOp,h1]) (hn _ _ _ (QS.still k))
 case nilCheck x =>
  cases d:AZ σ x with
  | none=>rw[d]at h;simp[RL]at h
  | some xv =>
   rw[d]at h;obtain⟨rfl,⟨ad,G⟩,k⟩:=A1a h (q x _ d);exact Ag (u:=a.eval x) (w':=w) (by simp[execOp,G]) (hn _ _ _ (QS.still k))
 case binOp op t x y ap =>
  cases d:AZ σ x with
  | none=>rw[d]at h;simp[OQ]at h
  | some xv =>
   cases A:AZ σ y with
   | none=>rw[d,A]at h;cases xv<;>simp[OQ]at h
   | some H =>
    rw[d,A]at h;obtain⟨rfl,h1,u,k,B⟩:=A16 (P:=P) (t:=t) (fun D=>by
     cases j:lk t tb.ty with
     | none=>rw[j]at D;cases D
     | some ti =>
      have h0:=(hT _ _ j).2;rw[j]at D;unfold Pf at D;split at D
      ·rename_i e;cases e;exact h0
      ·cases D) w h C (q x _ d) (q y _ A)
    exact Ag (u:=u) (w':=w) (by simp[execOp,h1,k]) (hn _ _ _ (QS.still B))
 case unOp op t x =>
  cases d:AZ σ x with
  | none=>rw[d]at h;cases op<;>simp[nY]at h
  | some xv =>
   rw[d]at h;obtain⟨rfl,u,k,B⟩:=A3G (P:=P) w h C (q x _ d);exact Ag (u:=u) (w':=w) (by simp[execOp,k]) (hn _ _ _ (QS.still B))
 case convert s t x =>
  cases hs:lk s tb.ty with
  | none=>rw[hs]at h;simp[IZ]at h
  | some ao =>
   cases j:lk t tb.ty with
   | none=>rw[hs,j]at h;simp[IZ]at h
   | some ti =>
    cases d:AZ σ x with
    | none=>rw[hs,j,d]at h;simp[IZ]at h
    | some xv =>
     rw[hs,j,d]at h;obtain⟨rfl,u,k,B⟩:=A0b (P:=P) hT rfl (hT _ _ hs) (hT _ _ j) h C (q x _ d);have k:(convert s t (a.eval x)).run P w=.ok u w:=k;exact Ag (u:=u) (w':=w) (by simp[execOp,k]) (hn _ _ _ (QS.still B))
 case makeSlice t l c =>
  cases j:lk t tb.ty with
  | none=>rw[j]at h;simp[Hi]at h
  | some ti =>
   cases d:AZ σ l with
   | none=>rw[j,d]at h;simp[Hi]at h
   | some am =>
    cases A:AZ σ c with
    | none=>rw[j,d,A]at h;simp[Hi]at h
    | some R =>
     rw[j,d,A]at h;obtain⟨u,ρ',w',h1,k⟩:=A0g (hT _ _ j) hT h C (q l _ d) (q c _ A) hf;exact Ag (u:=u) (w':=w') (by simp[execOp,h1]) (hn _ _ _ k)
 case slice t x lo hi ag =>
  cases ag with
  | some m =>
   cases lo with
   | some _=>cases hi<;>simp[aq]at h
   | none =>
    cases hi with
    | none=>simp[aq]at h
    | some h1 =>
     simp only[aq]at h;cases j:lk t tb.ty with
     | none=>rw[j]at h;simp[DR]at h
     | some ti =>
      cases d:AZ σ x with
      | none=>rw[j,d]at h;simp[DR]at h
      | some xv =>
       cases I:AZ σ h1 with
       | none=>rw[j,d,I]at h;simp[DR]at h
       | some aj =>
        cases M:AZ σ m with
        | none=>rw[j,d,I,M]at h;simp[DR]at h
        | some an =>
         rw[j,d,I,M]at h;obtain⟨rfl,u,k,B⟩:=oH (P:=P) (V:=vw w O0 σ ρ) (hT _ _ j) hT h C (q x _ d) (q h1 _ I) (q m _ M);have k:(Instr.sliceAt t (a.eval x) none (some (a.eval h1)) (some (a.eval m))).run P w=.ok u w:=k;exact Ag (u:=u) (w':=w) (by simp[execOp,k]) (hn _ _ _ (QS.still B))
  | none =>
   simp only[aq]at h;cases j:lk t tb.ty with
   | none=>rw[j]at h;simp[Eh]at h
   | some ti =>
    cases d:AZ σ x with
    | none=>rw[j,d]at h;simp[Eh]at h
    | some xv =>
     have T:∀ {y:Option Operand} {O:Option AV},Fx σ y=some O→Wx (V:=vw w O0 σ ρ) O (y.map a.eval):=by
      intro y O A;cases y with
      | none=>simp only[Fx]at A;cases A;trivial
      | some z =>
       simp only[Fx,IN]at A;obtain⟨aa,af,rfl⟩:=A;exact q z aa af
     cases J:Fx σ lo with
     | none=>rw[j,d,J]at h;simp[Eh]at h
     | some al =>
      cases K:Fx σ hi with
      | none=>rw[j,d,J,K]at h;simp[Eh]at h
      | some ai =>
       rw[j,d,J,K]at h;obtain⟨rfl,u,k,B⟩:=uN (P:=P) (V:=vw w O0 σ ρ) (hT _ _ j) hT h C (q x _ d) (T J) (T K);have k:(Instr.sliceAt t (a.eval x) (lo.map a.eval) (hi.map a.eval) none).run P w=.ok u w:=k;exact Ag (u:=u) (w':=w) (by simp[execOp,k]) (hn _ _ _ (QS.still B))
 case fieldAddr s x f =>
  cases hs:lk s tb.ty with
  | none=>rw[hs]at h;simp[GG]at h
  | some ti =>
   cases d:AZ σ x with
   | none=>rw[hs,d]at h;simp[GG]at h
   | some xv =>
    rw[hs,d]at h;obtain⟨rfl,u,k,B⟩:=uJ (P:=P) (hT _ _ hs) w h (q x _ d);exact Ag (u:=u) (w':=w) (by simp[execOp,k]) (hn _ _ _ (QS.still B))
 case indexAddr t x i =>
  cases j:lk t tb.ty with
  | none=>rw[j]at h;simp[E5]at h
  | some ti =>
   cases d:AZ σ x with
   | none=>rw[j,d]at h;simp[E5]at h
   | some xv =>
    cases hi:AZ σ i with
    | none=>rw[j,d,hi]at h;simp[E5]at h
    | some Y =>
     rw[j,d,hi]at h;obtain⟨rfl,u,k,B⟩:=uK (P:=P) (V:=vw w O0 σ ρ) (hT _ _ j) hT h C (q x _ d) (q i _ hi) S;have k:(Instr.indexAt t (a.eval x) (a.eval i)).run P w=.ok u w:=k;exact Ag (u:=u) (w':=w) (by simp[execOp,k]) (hn _ _ _ (QS.still B))
 case index t x i =>
  cases j:lk t tb.ty with
  | none=>rw[j]at h;simp[Du]at h
  | some ti =>
   cases d:AZ σ x with
   | none=>rw[j,d]at h;simp[Du]at h
   | some xv =>
    cases hi:AZ σ i with
    | none=>rw[j,d,hi]at h;simp[Du]at h
    | some Y =>
     rw[j,d,hi]at h;obtain⟨rfl,u,k,B⟩:=oD (P:=P) (hT _ _ j) w h C (q x _ d) (q i _ hi);exact Ag (u:=u) (w':=w) (by simp[execOp,k]) (hn _ _ _ (QS.still B))
 case extract x i =>
  cases d:AZ σ x with
  | none=>rw[d]at h;simp[D5]at h
  | some xv =>
   rw[d]at h;obtain⟨rfl,u,k,B⟩:=kF (P:=P) w h (q x _ d);exact Ag (u:=u) (w':=w) (by simp[execOp,k]) (hn _ _ _ (QS.still B))
 case makeFunc fn first ab =>
  obtain⟨rfl,u,k,B⟩:=A1c (P:=P) q h;have k:(Instr.makeFunc fn (first.map a.eval) (ab.map a.eval)).run P w=.ok u w:=by
   rw[←k]
   congr 2<;>(apply ACD;simp)
  exact Ag (u:=u) (w':=w) (by simp[execOp,k]) (hn _ _ _ (QS.still B))
 case makeMap t res =>
  cases res with
  | some z=>simp[aq]at h
  | none =>
   simp only[aq]at h;cases j:lk t tb.ty with
   | none=>rw[j]at h;simp[E6]at h
   | some ti =>
    rw[j]at h;obtain⟨u,ρ',w',h1,k⟩:=kK (w:=w) (O0:=O0) (ρ:=ρ) (hT _ _ j) h hf;exact Ag (u:=u) (w':=w') (by simp[execOp,h1]) (hn _ _ _ k)
 case lookup t x i ok =>
  cases j:lk t tb.ty with
  | none=>rw[j]at h;simp[Hk]at h
  | some ti =>
   cases d:AZ σ x with
   | none=>rw[j,d]at h;simp[Hk]at h
   | some xv =>
    cases hi:AZ σ i with
    | none=>rw[j,d,hi]at h;simp[Hk]at h
    | some Y =>
     rw[j,d,hi]at h;obtain⟨rfl,u,k,B⟩:=A0j (P:=P) (hT _ _ j) hT E h (q x _ d) (q i _ hi);exact Ag (u:=u) (w':=w) (by simp[execOp,k]) (hn _ _ _ (QS.still B))
 case call c =>
  obtain⟨callee,args,argTypes⟩:=c;cases callee with
  | invoke r m=>simp[CY]at h
  | value g =>
   simp only[CY]at h;exact A0l hF E X q (xs:=args.toList) (ts:=argTypes) (o:=⟨dst,.call ⟨.value g,args,argTypes⟩,type,pos,after,guard⟩) (by simp) h C hf hn
  | builtin b =>
   simp only[CY]at h;obtain⟨args⟩:=args;obtain⟨argTypes⟩:=argTypes;simp only at h;unfold Cn at h;split at h
   ·rename_i x t;cases j:lk t tb.ty with
    | none=>rw[j]at h;simp[QX]at h
    | some ti =>
     cases d:AZ σ x with
     | none=>rw[j,d]at h;simp[QX]at h
     | some xv =>
      rw[j,d]at h;obtain⟨rfl,u,k,B⟩:=A17 (P:=P) (ty:=type) (V:=vw w O0 σ ρ) S (hT _ _ j) w h (q x _ d);exact Ag (u:=u) (w':=w) (by simp[execOp,resolve,invoke,builtin,k]) (hn _ _ _ (QS.still B))
   ·rename_i x y t u;cases d:AZ σ x with
    | none=>rw[d]at h;simp[CK]at h
    | some xv =>
     cases A:AZ σ y with
     | none=>rw[d,A]at h;simp[CK]at h
     | some H =>
      rw[d,A]at h;obtain⟨z,ρ',w',h1,k⟩:=oK (ty:=type) hT E h C (q x _ d) (q y _ A) hf;exact Ag (u:=z) (w':=w') (by simp[execOp,resolve,invoke,builtin,h1]) (hn _ _ _ k)
   ·rename_i x y t u;cases d:AZ σ x with
    | none=>rw[d]at h;simp[OT]at h
    | some xv =>
     cases A:AZ σ y with
     | none=>rw[d,A]at h;simp[OT]at h
     | some H =>
      rw[d,A]at h;obtain⟨rfl,z,h1,k⟩:=A18 (P:=P) (ts:=#[t,u]) (ty:=type) w h (q x _ d) (q y _ A);exact Ag (u:=z) (w':=w) (by simp[execOp,resolve,invoke,builtin,h1]) (hn _ _ _ (QS.still k))
   ·rename_i x y t u;cases d:AZ σ x with
    | none=>rw[d]at h;simp[OU]at h
    | some xv =>
     cases A:AZ σ y with
     | none=>rw[d,A]at h;simp[OU]at h
     | some H =>
      rw[d,A]at h;obtain⟨rfl,z,h1,k⟩:=A19 (P:=P) (ts:=#[t,u]) (ty:=type) w h (q x _ d) (q y _ A);exact Ag (u:=z) (w':=w) (by simp[execOp,resolve,invoke,builtin,h1]) (hn _ _ _ (QS.still k))
   ·rename_i x y Z t u ah;cases d:AZ σ x with
    | none=>rw[d]at h;simp[Hj]at h
    | some xv =>
     cases A:AZ σ y with
     | none=>rw[d,A]at h;simp[Hj]at h
     | some H =>
      cases N:AZ σ Z with
      | none=>rw[d,A,N]at h;simp[Hj]at h
      | some aa =>
       rw[d,A,N]at h;obtain⟨rfl,z,h1,k⟩:=A0c (P:=P) (ts:=#[t,u,ah]) (ty:=type) w h (q x _ d) (q y _ A) (q Z _ N);exact Ag (u:=z) (w':=w) (by simp[execOp,resolve,invoke,builtin,h1]) (hn _ _ _ (QS.still k))
   ·cases h
end
end
section
open Go Go.RowKit
section
variable {w0:World} {K O0:Nat→Prop} {nt:Nat} {ds:Fp} {σ:St} {ρ:Nat→Value} {a:Act} {w:World}
theorem uS {n:Nat} {o:Obj} {env:List (Nat×AV)} (m:Nat):Fl ⟨env,upd n o σ.objs⟩ m↔Fl σ m:=by
 constructor
 ·rintro⟨x,a⟩;rw[FW]at a;split at a
  ·rename_i e;subst e;simp only[IN]at a;obtain⟨y,b,_⟩:=a;exact⟨y,b⟩
  ·exact⟨x,a⟩
 ·rintro⟨x,a⟩;by_cases e:m=n
  ·subst e;exact⟨o,by simp[FW,a]⟩
  ·exact⟨x,by simp[FW,e,a]⟩
theorem Bb.upd (h:Bb w0 K O0 nt ds σ ρ a w) (A:∀b,K b→b<w0.heap.size) {n:Nat} {o j:Obj} (hn:lk n σ.objs=some o) {g:Nat} (r:blk (ρ n)=some g) {w':World} (d:w.grownBy w' (some g))
  (E:Aw (vw w' O0 σ ρ) j (ρ n)):Bb w0 K O0 nt ds ⟨σ.env,Fw.upd n j σ.objs⟩ ρ a w':=by
 have i:Fl ⟨σ.env,Fw.upd n j σ.objs⟩=Fl σ:=funext fun m=>propext (uS m);have y:vw w' O0 ⟨σ.env,Fw.upd n j σ.objs⟩ ρ=vw w' O0 σ ρ:=by
  have F:own O0 ⟨σ.env,Fw.upd n j σ.objs⟩ ρ=own O0 σ ρ:=by
   funext b;simp only[own,i]
  simp only[vw,i,F]
 have C:own O0 σ ρ g:=.inr ⟨n,⟨o,hn⟩,.inl r⟩;have hk:B7 (vw w O0 σ ρ) (vw w' O0 σ ρ):=⟨fun _ _ h=>h,fun _ h=>h,fun _ _=>rfl,fun b D B=>d.block b D (fun e=>by injection e with e;subst e;exact B C)⟩;refine⟨⟨d.os.trans h.frm.os,d.tape.trans h.frm.tape,d.output.trans h.frm.output,f4 h.frm.size d.size,fun k t=>?_⟩,h.nt,h.defers,fun p hp=>by rw[i];exact h.pin p hp,?_,?_,?_,?_⟩
 ·refine(d.block k (AAq (A k t) h.frm.size) (fun e=>?_)).trans (h.frm.block k t);injection e with e
  subst e;exact(h.free n k ⟨o,hn⟩ (.inl r)).1 t
 ·intro m x c;rw[y];rw[FW]at c;split at c
  ·rename_i e;subst e;rw[hn]at c;simp only[AAY]at c;cases c;exact E
  ·rename_i e;refine(h.objs m x c).keeps hk fun b l=>?_;refine d.block b ((h.objs m x c).block_lt l) (fun q=>?_);injection q with q
   subst q;exact e (h.dist m n b ⟨x,c⟩ ⟨o,hn⟩ l (.inl r))
 ·intro m b f l;rw[i]at f;exact h.free m b f l
 ·intro m G b f u h1 z;rw[i]at f u;exact h.dist m G b f u h1 z
 ·intro s v hs;rw[y];exact(h.env s v hs).keeps hk
theorem Ih (n s:Nat):∀l:List (Nat×AV),lk s (E3 n l)=(lk s l).map (AV.drp n)
 | []=>rfl
 | (j,v) :: l=>by
  simp only[E3,lk];split
  ·rfl
  ·exact Ih n s l
def Obj.drp (n:Nat):Obj→Obj
 | .arr et e xs=>.arr et e xs
 | .box et i fs=>.box et i (AV.drps n fs)
 | .mapo k v l=>.mapo k v l
 | .nest et b k e xs h=>.nest et b k e xs h
 | .frame j fs=>.frame j (E3 n fs)
 | .loop L=>.loop L
 | .itr c g d f a=>.itr c g d f a
 | .dfr=>.dfr
theorem Bc (n s:Nat):∀l:List (Nat×Obj),lk s (BO n l)=(lk s l).map (Obj.drp n)
 | []=>rfl
 | (j,.arr et e xs) :: l=>by
  simp only[BO,lk];split
  ·rfl
  ·exact Bc n s l
 | (j,.box et i fs) :: l=>by
  simp only[BO,lk];split
  ·rfl
  ·exact Bc n s l
 | (j,.mapo k v x) :: l=>by
  simp only[BO,lk];split
  ·rfl
  ·exact Bc n s l
 | (j,.nest et b k e xs h) :: l=>by
  simp only[BO,lk];split
  ·rfl
  ·exact Bc n s l
 | (j,.frame m fs) :: l=>by
  simp only[BO,lk];split
  ·rfl
  ·exact Bc n s l
 | (j,.loop L) :: l=>by
  simp only[BO,lk];split
  ·rfl
  ·exact Bc n s l
 | (j,.itr c g d f a) :: l=>by
  simp only[BO,lk];split
  ·rfl
  ·exact Bc n s l
 | (j,.dfr) :: l=>by
  simp only[BO,lk];split
  ·rfl
  ·exact Bc n s l
def Vw.but (V:Vw) (n:Nat):Vw:=⟨V.w,V.O,fun m=>V.L m∧m≠n,V.ρ⟩
def seat (v:Value):Prop:=(∃a m c,v=.slice a m c)∨∃b,v=.tuple b
theorem Hm {V:Vw} {n:Nat} (hn:seat (V.ρ n)) {x:AV} {v:Value} (h:RM V x v):RM (V.but n) (x.drp n) v:=by
 cases x;case sr m e lo hi =>
  simp only[AV.drp];split
  ·trivial
  ·rename_i g;exact⟨⟨h.1,g⟩,h.2⟩
 case ep m e i p off =>
  simp only[AV.drp];split
  ·trivial
  ·rename_i g;exact⟨⟨h.1,g⟩,h.2⟩
 case nin m e i len =>
  simp only[AV.drp];split
  ·trivial
  ·rename_i g;exact⟨⟨h.1,g⟩,h.2⟩
 case bp m p off =>
  simp only[AV.drp];refine⟨⟨h.1,fun e=>?_⟩,h.2⟩;subst e;obtain⟨_,b,d,_⟩:=h;rcases hn with ⟨a,j,c,hs⟩|⟨k,hs⟩<;>(rw[hs]at d;cases d)
 case clo f ns =>
  simp only[AV.drp];refine⟨h.1,fun m o=>?_⟩;obtain⟨h1,b,d⟩:=h.2 m o;refine⟨⟨h1,fun e=>?_⟩,b,d⟩;subst e;rcases hn with ⟨a,j,c,hs⟩|⟨k,hs⟩<;>(rw[hs]at d;cases d)
 case mp m =>
  simp only[AV.drp];refine⟨⟨h.1,fun e=>?_⟩,h.2⟩;subst e;obtain⟨_,b,d,_⟩:=h;rcases hn with ⟨a,j,c,hs⟩|⟨k,hs⟩<;>(rw[hs]at d;cases d)
 case yl m =>
  simp only[AV.drp];refine⟨⟨h.1,fun e=>?_⟩,h.2⟩;subst e;obtain⟨_,b,d,_⟩:=h;rcases hn with ⟨a,j,c,hs⟩|⟨k,hs⟩<;>(rw[hs]at d;cases d)
 case ag l=>exact h.elim
 case tup l=>exact h.elim
 all_goals simp only[AV.drp];exact h
theorem uT {V:Vw} {n:Nat} (hn:seat (V.ρ n)) {x:AV} {cs:List Value} (h:Lo V x cs):Lo (V.but n) (x.drp n) cs:=by
 cases x;case p t d=>simp only[AV.drp];exact h
 case ag l=>obtain⟨v,_,_,hf⟩:=h;exact hf.elim
 case tup l=>obtain⟨v,_,_,hf⟩:=h;exact hf.elim
 all_goals
  obtain⟨v,rfl,h1,c⟩:=h;have a:=Hm hn c;simp only[AV.drp]at a ⊢;first
   | exact⟨v,rfl,h1,a⟩
   | (split at a<;>rename_i b<;>first|(rw[BY b];exact⟨v,rfl,h1,a⟩)|(rw[At b];exact⟨v,rfl,h1,a⟩))
theorem My {V:Vw} {n:Nat} (hn:seat (V.ρ n)):∀ {l:List AV} {cs:List Value},Cw V l cs→Cw (V.but n) (AV.drps n l) cs
 | [],cs,h=>(h:cs=[])
 | x :: r,cs,h=>by
  obtain⟨c1,c2,rfl,h1,a⟩:=h;simp only[AV.drps];exact⟨c1,c2,rfl,uT hn h1,My hn a⟩
theorem uU {V:Vw} {n:Nat} (hn:seat (V.ρ n)) {x:AV} {v:Value} (a:Pi V x v):Pi (V.but n) (x.drp n) v:=by
 cases x;case ag l=>obtain⟨cs,h1,b⟩:=a;simp only[AV.drp];exact⟨cs,h1,My hn b⟩
 all_goals exact Pi.of1 (Hm hn a)
theorem XC {V:Vw} {n:Nat} (hn:seat (V.ρ n)):∀ {l:List AV} {a:List Value},Ib V l a→Ib (V.but n) (AV.drps n l) a
 | [],a,h=>(h:a=[])
 | x :: r,a,h=>by
  obtain⟨v,c,rfl,h1,b⟩:=h;simp only[AV.drps];exact⟨v,c,rfl,uU hn h1,XC hn b⟩
theorem uV {V:Vw} {x:AV} {v:Value} (h:RM V x v):Bm V x v:=by
 cases x;case ag l=>exact h.elim
 case tup l=>exact h.elim
 all_goals exact h
theorem cG {V:Vw} {n:Nat} (hn:seat (V.ρ n)) {x:AV} {v:Value} (h:Bm V x v):Bm (V.but n) (x.drp n) v:=by
 cases x;case ag l=>obtain⟨cs,h1,a⟩:=h;simp only[AV.drp];exact⟨cs,h1,My hn a⟩
 case tup l=>obtain⟨b,h1,a⟩:=h;simp only[AV.drp];exact⟨b,h1,XC hn a⟩
 all_goals exact uV (Hm hn h)
theorem Pr (n:Nat):∀l:List AV,(AV.drps n l).length=l.length
 | []=>rfl
 | _ :: r=>by simp[AV.drps,Pr n r]
theorem uW {n:Nat} {c:Obj} {env:List (Nat×AV)} (m:Nat):Fl ⟨env,upd n c (BO n σ.objs)⟩ m↔Fl σ m:=by
 constructor
 ·rintro⟨x,a⟩;rw[FW,Bc,Bc]at a;split at a
  ·rename_i e;subst e;simp only[Option.map_map,IN]at a;obtain⟨y,b,_⟩:=a;exact⟨y,b⟩
  ·simp only[IN]at a;obtain⟨y,b,_⟩:=a;exact⟨y,b⟩
 ·rintro⟨x,a⟩;by_cases e:m=n
  ·subst e;exact⟨c,by simp[FW,Bc,a]⟩
  ·exact⟨x.drp n,by simp[FW,Bc,e,a]⟩
theorem Bb.app (h:Bb w0 K O0 nt ds σ ρ a w) (aa:∀b,K b→b<w0.heap.size) (af:∀b,O0 b→b<w0.heap.size) {n:Nat} (aj:Fv n=false) {et:TypeId} {e:Ty} {xs ys:List e.den} (hn:lk n σ.objs=some (.arr et e xs)) {loc:Value} {w':World} {cells:List Value}
  (G:w.grownBy w' (blk (ρ n))) (W:blk loc=blk (ρ n)∨∀b,blk loc=some b→w.heap.size≤b) (N:ys.length≤AO)
  (T:w'.ownsRow 0 et e.size loc ys.length cells) (ai:DL w (own O0 σ ρ) e cells ys) {d:Nat} (ah:d<nt) {hi:Nat} (al:hi=ys.length) :
  Bb w0 K O0 nt ds ⟨(d,.sr n e 0 hi) :: E3 n σ.env,Fw.upd n (.arr et e ys) (BO n σ.objs)⟩ (Dr ρ n loc) (a.put (some d) loc) w':=by
 subst al;have O:∃a m c,(vw w O0 σ ρ).ρ n=.slice a m c:=by
  obtain⟨_,cells',ap,_⟩:=h.objs n _ hn;rcases ap.2 with ⟨F,_⟩|⟨g,cap,Y,F,_⟩
  ·exact⟨_,_,_,F⟩
  ·exact⟨_,_,_,F⟩
 let σ':St:=⟨(d,.sr n e 0 ys.length) :: E3 n σ.env,Fw.upd n (.arr et e ys) (BO n σ.objs)⟩
 have I:∀m,Fl σ' m↔Fl σ m:=fun m=>uW m;have M:∀b,bk loc b↔blk loc=some b:=fun b=>by
  rcases T.2 with ⟨F,_⟩|⟨g,cap,Y,F,_⟩
  ·rw[F];exact KV
  ·rw[F];exact KV
 have ax:∀b,bk (ρ n) b↔blk (ρ n)=some b:=fun b=>by
  obtain⟨ab,au,c2,B⟩:=O;have B:ρ n=_:=B;rw[B];exact KV
 have an:∀b,bk loc b→own O0 σ ρ b∨w.heap.size≤b:=by
  intro b f;replace f:=(M b).1 f;rcases W with h1|h1
  ·exact .inl (.inr ⟨n,⟨_,hn⟩,.inl (by rw[←h1];exact f)⟩)
  ·exact .inr (h1 b f)
 have hk:B7 ((vw w O0 σ ρ).but n) (vw w' O0 σ' (Dr ρ n loc)):=by
  refine⟨?_,fun m N=>(I m).2 N.1,fun m N=>?_,?_⟩
  ·intro b R f E;rcases E with h0|⟨m,i,P⟩
   ·exact f (.inl h0)
   ·by_cases S:m=n
    ·subst S;rw[BU]at P;rcases an b P with h1|h1
     ·exact f h1
     ·have R:b<w.heap.size:=R;omega
    ·have:Dr ρ n loc m=ρ m:=by simp[Dr,S]
     rw[this]at P;exact f (.inr ⟨m,(I m).1 i,P⟩)
  ·have:m≠n:=N.2;show Dr ρ n loc m=ρ m;simp[Dr,this]
  ·intro b R f;exact G.block b R (fun j=>f (.inr ⟨n,⟨_,hn⟩,.inl j.symm⟩))
 refine⟨⟨G.os.trans h.frm.os,G.tape.trans h.frm.tape,G.output.trans h.frm.output,f4 h.frm.size G.size,fun k H=>?_⟩,by rw[Id];exact h.nt,by rw[FX];exact h.defers,fun p hp=>?_,?_,?_,?_,?_⟩
 ·refine(G.block k (AAq (aa k H) h.frm.size) (fun j=>?_)).trans (h.frm.block k H);exact(h.free n k ⟨_,hn⟩ (.inl j.symm)).1 H
 ·obtain⟨h1,r,A⟩:=h.pin p hp;have am:p.1≠n:=by
   intro q;obtain⟨ab,au,c2,B⟩:=O;have B:ρ n=_:=B;rw[←q,r]at B;rw[B]at A;rcases A with A|A
   ·cases A
   ·rw[q,aj]at A;cases A
  exact⟨(I p.1).2 h1,by simp[Dr,am,r],A⟩
 ·intro m x C;show Aw (vw w' O0 σ' (Dr ρ n loc)) x (Dr ρ n loc m);rw[FW]at C;split at C
  ·rename_i j;subst j;rw[Bc,hn]at C;simp only[AAY]at C;cases C;rw[BU];exact⟨N,cells,T,ai.keeps (V:=(vw w O0 σ ρ).but m) hk⟩
  ·rename_i j;rw[Bc]at C;simp only[IN]at C;obtain⟨y,t,rfl⟩:=C;have:Dr ρ n loc m=ρ m:=by simp[Dr,j]
   rw[this];have f:∀b,bk (ρ m) b→w'.heap[b]?=w.heap[b]?:=fun b E=>by
    refine G.block b ((h.objs m y t).block_lt E) (fun q=>?_);exact j (h.dist m n b ⟨y,t⟩ ⟨_,hn⟩ E (.inl q.symm))
   have D:=h.objs m y t;cases y with
   | arr Z q be=>exact Aw.keeps (V:=(vw w O0 σ ρ).but n) hk f D
   | box Z av fs =>
    obtain⟨h0,b,cs,i,ak,ag⟩:=D;exact Aw.keeps (V:=(vw w O0 σ ρ).but n) (o:=.box Z av (AV.drps n fs)) hk f ⟨fun aq=>by rw[Pr];exact h0 aq,b,cs,i,ak,My (.inl O) ag⟩
   | mapo k v l=>exact Aw.keeps (V:=(vw w O0 σ ρ).but n) hk f D
   | nest et ar k e xs i=>exact Aw.keeps (V:=(vw w O0 σ ρ).but n) (o:=.nest et ar k e xs i) hk f (LL (V:=vw w O0 σ ρ) (V':=(vw w O0 σ ρ).but n) rfl rfl D)
   | frame aw fs =>
    obtain⟨h0,h1⟩:=D;refine Aw.keeps (V:=(vw w O0 σ ρ).but n) (o:=.frame aw (E3 n fs)) hk f ⟨h0,fun s z X=>?_⟩;rw[Ih]at X;simp only[IN]at X;obtain⟨y,t,rfl⟩:=X;exact cG (.inl O) (h1 s y t)
   | loop L=>exact Aw.keeps (V:=(vw w O0 σ ρ).but n) hk f D
   | itr ba bd bb bc az=>exact Aw.keeps (V:=(vw w O0 σ ρ).but n) hk f D
   | dfr=>exact Aw.keeps (V:=(vw w O0 σ ρ).but n) hk f D
 ·intro m b i f;replace i:=(I m).1 i;by_cases j:m=n
  ·subst j;rw[BU]at f;rcases W with h1|h1
   ·exact h.free m b i (.inl (by rw[←h1];exact(M b).1 f))
   ·have:=h1 b ((M b).1 f);have:=h.frm.size;exact⟨fun H=>by have:=aa b H;omega,fun H=>by have:=af b H;omega⟩
  ·have:Dr ρ n loc m=ρ m:=by simp[Dr,j]
   rw[this]at f;exact h.free m b i f
 ·have key:∀m b,Fl σ m→m≠n→bk (ρ m) b→bk loc b→False:=by
   intro m b i S f E;rcases W with h1|h1
   ·exact S (h.dist m n b i ⟨_,hn⟩ f (.inl (by rw[←h1];exact(M b).1 E)))
   ·have r:=h1 b ((M b).1 E);obtain⟨y,t⟩:=i;have:=(h.objs m y t).block_lt f;have:b<w.heap.size:=this;omega
  intro m u b i Q h1 r;replace i:=(I m).1 i;replace Q:=(I u).1 Q;by_cases J:m=n<;>by_cases q:u=n
  ·rw[J,q]
  ·subst J;have:Dr ρ m loc u=ρ u:=by simp[Dr,q]
   rw[this]at r;rw[BU]at h1;exact(key u b Q q r h1).elim
  ·subst q;have:Dr ρ u loc m=ρ m:=by simp[Dr,J]
   rw[this]at h1;rw[BU]at r;exact(key m b i J h1 r).elim
  ·have ad:Dr ρ n loc m=ρ m:=by simp[Dr,J]
   have ae:Dr ρ n loc u=ρ u:=by simp[Dr,q]
   rw[ad]at h1;rw[ae]at r;exact h.dist m u b i Q h1 r
 ·intro s v hs;show Bm (vw w' O0 σ' (Dr ρ n loc)) v _;rw[JT a d loc s (by rw[h.nt];exact ah)];simp only[lk]at hs;split at hs
  ·rename_i U;cases hs;rw[BY U];refine⟨(I n).2 ⟨_,hn⟩,?_⟩;show Cf (plc (Dr ρ n loc n)) e.size 0 ys.length loc;rw[BU,GT T];rcases T.2 with ⟨rfl,ao⟩|⟨g,cap,Y,rfl,_,_,ay,_⟩
   ·exact⟨none,0,0,rfl,by omega,by omega,none,0,by rw[ao],by omega,fun _=>⟨rfl,rfl⟩,fun h=>by omega⟩
   ·exact⟨some ⟨g,0,none⟩,ys.length,cap,rfl,by omega,by omega,some ⟨g,0,none⟩,cap,by simp,by omega,fun _=>⟨rfl,rfl⟩,fun _=>by simp[LI]⟩
  ·rename_i U;rw[At U];rw[Ih]at hs;simp only[IN]at hs;obtain⟨y,t,rfl⟩:=hs;exact(cG (.inl O) (h.env s y t)).keeps hk
end
end
section
open Go Go.RowKit
def Vw.buts (V:Vw) (hs:List Nat):Vw:=⟨V.w,V.O,fun m=>V.L m∧AU m hs=false,V.ρ⟩
theorem Vk {V:Vw} {hs:List Nat} {x:AV} {v:Value} (h:RM V x v):RM (V.buts hs) (x.fgt hs) v:=by
 cases x;case clo f ns =>
  simp only[AV.fgt];split
  ·trivial
  ·rename_i a;refine⟨h.1,fun n hn=>⟨⟨(h.2 n hn).1,?_⟩,(h.2 n hn).2⟩⟩;cases b:AU n hs with
   | false=>rfl
   | true=>exact absurd (OF.2 ⟨n,hn,b⟩) a
 case ag l=>exact h.elim
 case tup l=>exact h.elim
 case p t d=>simp only[AV.fgt];exact h
 case pc e d=>simp only[AV.fgt];exact h
 case raw u=>simp only[AV.fgt];exact h
 case ip t d=>simp only[AV.fgt];exact h
 case fn f=>simp only[AV.fgt];exact h
 case top=>trivial
 all_goals
  simp only[AV.fgt];split
  ·trivial
  ·rename_i a;exact⟨⟨h.1,by simpa using a⟩,h.2⟩
theorem uX {V:Vw} {hs:List Nat} {x:AV} {cs:List Value} (h:Lo V x cs):Lo (V.buts hs) (x.fgt hs) cs:=by
 cases x;case p t d=>simp only[AV.fgt];exact h
 case ag l=>obtain⟨v,_,_,hf⟩:=h;exact hf.elim
 case tup l=>obtain⟨v,_,_,hf⟩:=h;exact hf.elim
 all_goals
  obtain⟨v,rfl,h1,c⟩:=h;have a:=Vk (hs:=hs) c;simp only[AV.fgt]at a ⊢;first
   | exact⟨v,rfl,h1,a⟩
   | (split at a<;>rename_i b<;>first|(rw[BY b];exact⟨v,rfl,h1,a⟩)|(rw[At b];exact⟨v,rfl,h1,a⟩))
theorem Mz {V:Vw} {hs:List Nat}:∀ {l:List AV} {cs:List Value},Cw V l cs→Cw (V.buts hs) (AV.fgts hs l) cs
 | [],cs,h=>(h:cs=[])
 | x :: r,cs,h=>by
  obtain⟨c1,c2,rfl,h1,a⟩:=h;simp only[AV.fgts];exact⟨c1,c2,rfl,uX h1,Mz a⟩
theorem uY {V:Vw} {hs:List Nat} {x:AV} {v:Value} (a:Pi V x v):Pi (V.buts hs) (x.fgt hs) v:=by
 cases x;case ag l=>obtain⟨cs,h1,b⟩:=a;simp only[AV.fgt];exact⟨cs,h1,Mz b⟩
 all_goals exact Pi.of1 (Vk a)
theorem XD {V:Vw} {hs:List Nat}:∀ {l:List AV} {a:List Value},Ib V l a→Ib (V.buts hs) (AV.fgts hs l) a
 | [],a,h=>(h:a=[])
 | x :: r,a,h=>by
  obtain⟨v,c,rfl,h1,b⟩:=h;simp only[AV.fgts];exact⟨v,c,rfl,uY h1,XD b⟩
theorem M0 {V:Vw} {hs:List Nat} {x:AV} {v:Value} (h:Bm V x v):Bm (V.buts hs) (x.fgt hs) v:=by
 cases x;case ag l=>obtain⟨cs,h1,a⟩:=h;simp only[AV.fgt];exact⟨cs,h1,Mz a⟩
 case tup l=>obtain⟨b,h1,a⟩:=h;simp only[AV.fgt];exact⟨b,h1,XD a⟩
 all_goals exact uV (Vk h)
theorem Dl (hs:List Nat) (s:Nat):∀l:List (Nat×AV),lk s (Ba hs l)=(lk s l).map (AV.fgt hs)
 | []=>rfl
 | (j,v) :: l=>by
  simp only[Ba,lk];split
  ·rfl
  ·exact Dl hs s l
theorem Ps (hs:List Nat):∀l:List AV,(AV.fgts hs l).length=l.length
 | []=>rfl
 | _ :: r=>by simp[AV.fgts,Ps hs r]
theorem BR (a hs:List Nat) (n:Nat):∀l:List (Nat×Obj),lk n (Ab a hs l)=if AU n a=true then none else (lk n l).map (Obj.fgt hs)
 | []=>by simp[Ab,lk]
 | (j,o) :: l=>by
  simp only[Ab];by_cases b:AU j a=true
  ·rw[BY b,BR a hs n l];by_cases hn:n=j
   ·subst hn;simp[b]
   ·simp[lk,hn]
  ·rw[At b];simp only[lk];by_cases hn:n=j
   ·subst hn;simp[b]
   ·simp[hn,BR a hs n l]
theorem Qn {V V':Vw} {hs:List Nat} (hk:B7 (V.buts hs) V') {o:Obj} {loc:Value} (a:∀b,bk loc b→V'.w.heap[b]?=V.w.heap[b]?) (h:Aw V o loc):Aw V' (o.fgt hs) loc:=by
 cases o with
 | arr et e xs=>exact Aw.keeps (V:=V.buts hs) hk a h
 | box et n fs =>
  obtain⟨h0,b,cs,c,g,f⟩:=h;exact Aw.keeps (V:=V.buts hs) (o:=.box et n (AV.fgts hs fs)) hk a ⟨fun i=>by rw[Ps];exact h0 i,b,cs,c,g,Mz f⟩
 | mapo k v l=>exact Aw.keeps (V:=V.buts hs) hk a h
 | nest et m k e xs c=>exact Aw.keeps (V:=V.buts hs) (o:=.nest et m k e xs c) hk a (LL (V:=V) (V':=V.buts hs) rfl rfl h)
 | frame p fs =>
  obtain⟨h0,h1⟩:=h;refine Aw.keeps (V:=V.buts hs) (o:=.frame p (Ba hs fs)) hk a ⟨h0,fun s z d=>?_⟩;rw[Dl]at d;simp only[IN]at d;obtain⟨y,j,rfl⟩:=d;exact M0 (h1 s y j)
 | loop L=>exact Aw.keeps (V:=V.buts hs) hk a h
 | itr r x t u q=>exact Aw.keeps (V:=V.buts hs) hk a h
 | dfr=>exact Aw.keeps (V:=V.buts hs) hk a h
section
variable {w0:World} {K O0:Nat→Prop} {nt:Nat} {ds:Fp} {σ:St} {ρ:Nat→Value} {a:Act} {w:World}
theorem Bb.swap (h:Bb w0 K O0 nt ds σ ρ a w) (A:∀b,K b→b<w0.heap.size) (J:∀b,O0 b→b<w0.heap.size) {T:Nat→Prop} (hT:∀n,T n→Fv n=false∧∃o,lk n σ.objs=some o∧seat (ρ n))
  {new:List (Nat×Obj)} {σ':St} {ρ':Nat→Value} {w':World} {dst:Option Nat} {u:Value}
  (X:w'.os=w.os) (ab:w'.tape=w.tape) (Y:w'.output=w.output) (Z:w.heap.size≤w'.heap.size)
  (O:∀b,b<w.heap.size→(∀n,T n→¬bk (ρ n) b)→w'.heap[b]?=w.heap[b]?)
  (r:∀n o,lk n σ'.objs=some o→lk n new=none→¬T n∧∃d,lk n σ.objs=some d)
  (P:∀n o,lk n σ.objs=some o→¬T n→lk n new=none∧∃d,lk n σ'.objs=some d)
  (l:∀n,lk n new=none→ρ' n=ρ n)
  (F:∀n o b,lk n new=some o→bk (ρ' n) b→(∃m,T m∧bk (ρ m) b)∨w.heap.size≤b)
  (L:∀n m o t b,lk n new=some o→lk m new=some t→bk (ρ' n) b→bk (ρ' m) b→n=m)
  (W:∀n o,lk n σ'.objs=some o→Aw (vw w' O0 σ' ρ') o (ρ' n))
  (M:∀s v,lk s σ'.env=some v→Bm (vw w' O0 σ' ρ') v ((a.put dst u).tmps.getD s undef)) :
  Bb w0 K O0 nt ds σ' ρ' (a.put dst u) w':=by
 have ae:∀m,T m→∀b,bk (ρ m) b→b<w.heap.size:=fun m c b i=>by
  obtain⟨_,o,g,_⟩:=hT m c;exact(h.objs m o g).block_lt i
 have C:∀m,T m→∀b,bk (ρ m) b→¬K b∧¬O0 b:=fun m c b i=>by
  obtain⟨_,o,g,_⟩:=hT m c;exact h.free m b ⟨o,g⟩ i
 refine⟨⟨X.trans h.frm.os,ab.trans h.frm.tape,Y.trans h.frm.output,f4 h.frm.size Z,fun k hk=>?_⟩,by rw[Id];exact h.nt,by rw[FX];exact h.defers,fun p hp=>?_,W,?_,?_,M⟩
 ·exact(O k (AAq (A k hk) h.frm.size) fun n hn i=>(C n hn k i).1 hk).trans (h.frm.block k hk)
 ·obtain⟨⟨o,h1⟩,f,j⟩:=h.pin p hp;have R:¬T p.1:=fun aa=>by
   obtain⟨hf,_,_,hs⟩:=hT _ aa;rw[f]at hs;rcases j with j|j
   ·rcases hs with ⟨_,_,_,B⟩|⟨_,B⟩<;>rw[B]at j<;>cases j
   ·rw[hf]at j;cases j
  obtain⟨H,I⟩:=P p.1 o h1 R;exact⟨I,(l _ H).trans f,j⟩
 ·intro n b z i;obtain⟨o,g⟩:=z;cases hn:lk n new with
  | none =>
   obtain⟨_,d,h1⟩:=r n o g hn;rw[l n hn]at i;exact h.free n b ⟨d,h1⟩ i
  | some e =>
   rcases F n e b hn i with ⟨m,c,x⟩|N
   ·exact C m c b x
   ·have:=h.frm.size;exact⟨fun y=>by have:=A b y;omega,fun y=>by have:=J b y;omega⟩
 ·have key:∀n m o e b,lk n σ'.objs=some o→lk n new=none→lk m new=some e→bk (ρ' n) b→bk (ρ' m) b→False:=by
   intro n m o e b g hn c h1 f;obtain⟨S,d,q⟩:=r n o g hn;rw[l n hn]at h1;rcases F m e b c f with ⟨G,D,x⟩|N
   ·obtain⟨_,ad,V,_⟩:=hT G D;have:=h.dist n G b ⟨d,q⟩ ⟨ad,V⟩ h1 x;exact S (this▸D)
   ·have af:b<w.heap.size:=(h.objs n d q).block_lt h1;omega
  intro n m b z Q h1 f;obtain⟨o,g⟩:=z;obtain⟨t,E⟩:=Q;cases hn:lk n new with
  | none =>
   cases c:lk m new with
   | none =>
    obtain⟨_,d,q⟩:=r n o g hn;obtain⟨_,e,U⟩:=r m t E c;rw[l n hn]at h1;rw[l m c]at f;exact h.dist n m b ⟨d,q⟩ ⟨e,U⟩ h1 f
   | some e=>exact(key n m o e b g hn c h1 f).elim
  | some d =>
   cases c:lk m new with
   | none=>exact(key m n t d b E c hn f h1).elim
   | some e=>exact L n m d e b hn c h1 f
end
end
section
open Go Go.RowKit
structure Oa (V V':Vw) (n:Nat) (hs:List Nat):Prop where
 O:∀b,b<V.w.heap.size→¬V.O b→¬V'.O b
 L:∀m,V.L m→AU m hs=false→V'.L m
 ρ:∀m,V.L m→AU m hs=false→m≠n→V'.ρ m=V.ρ m
 tup:∃vs,V.ρ n=.tuple vs
 plc:plc (V'.ρ n)=plc (V.ρ n)
 heap:∀b,b<V.w.heap.size→¬V.O b→V'.w.heap[b]?=V.w.heap[b]?
section
variable {V V':Vw} {n:Nat} {hs:List Nat}
theorem Oa.pl (h:Oa V V' n hs) {m:Nat} (a:V.L m) (b:AU m hs=false):Fw.plc (V'.ρ m)=Fw.plc (V.ρ m):=by
 by_cases e:m=n
 ·subst e;exact h.plc
 ·rw[h.ρ m a b e]
theorem Oa.ptr (h:Oa V V' n hs) {m:Nat} (c:V.L m) (d:AU m hs=false) {v:Value} (b:V.ρ m=v) (f:∀a,v≠.tuple a):V'.ρ m=v:=by
 have e:m≠n:=fun e=>by
  obtain⟨a,h1⟩:=h.tup;rw[←e,b]at h1;exact f a h1
 rw[h.ρ m c d e,b]
theorem Vl (h:Oa V V' n hs) {x:AV} {v:Value} (c:RM V x v):RM V' (x.trn n hs) v:=by
 cases x;case ag l=>exact c.elim
 case tup l=>exact c.elim
 case p t d=>simp only[AV.trn];exact BM.mono h.O h.heap c
 case pc e d=>simp only[AV.trn];exact⟨BM.mono h.O h.heap c.1,c.2⟩
 case raw u=>simp only[AV.trn];exact c
 case fn f=>simp only[AV.trn];exact c
 case top=>trivial
 case ip t d =>
  simp only[AV.trn];obtain⟨ad,cs,o,q,r,B⟩:=c;have s:ad.block<V.w.heap.size:=by
   have hp:=t.size_pos;have G:=B.length;have:=block_lt_of_cell (r 0 (cs[0]'(by omega)) (AT (by omega)))
   rwa [B3]at this
  refine⟨ad,cs,o,h.O _ s q,fun j u C=>?_,Be.mono h.O h.heap B⟩;rw[AC2 (w:=V.w) (w':=V'.w)]
  ·exact r j u C
  ·rw[B3];exact h.heap _ s q
 case sr m e lo hi =>
  simp only[AV.trn];split
  ·trivial
  ·rename_i a;have a:AU m hs=false:=by simpa using a
   exact⟨h.L m c.1 a,by rw[h.pl c.1 a];exact c.2⟩
 case ep m e i F off =>
  simp only[AV.trn];split
  ·trivial
  ·rename_i a;have a:AU m hs=false:=by simpa using a
   exact⟨h.L m c.1 a,by rw[h.pl c.1 a];exact c.2⟩
 case nin m e i len =>
  simp only[AV.trn];split
  ·trivial
  ·rename_i a;have D:m≠n:=fun e=>a (.inl e);have y:AU m hs=false:=by
    cases g:AU m hs with
    | false=>rfl
    | true=>exact absurd (.inr g) a
   exact⟨h.L m c.1 y,by rw[h.ρ m c.1 y D];exact c.2⟩
 case bp m F off =>
  simp only[AV.trn];split
  ·trivial
  ·rename_i a;have a:AU m hs=false:=by simpa using a
   obtain⟨k,b,g,o⟩:=c;exact⟨h.L m k a,b,h.ptr k a g (fun _ e=>by cases e),o⟩
 case mp m =>
  simp only[AV.trn];split
  ·trivial
  ·rename_i a;have a:AU m hs=false:=by simpa using a
   obtain⟨k,b,g,o⟩:=c;exact⟨h.L m k a,b,h.ptr k a g (fun _ e=>by cases e),o⟩
 case yl m =>
  simp only[AV.trn];split
  ·trivial
  ·rename_i a;have a:AU m hs=false:=by simpa using a
   obtain⟨k,b,g,o⟩:=c;exact⟨h.L m k a,b,h.ptr k a g (fun _ e=>by cases e),o⟩
 case clo f ns =>
  simp only[AV.trn];split
  ·trivial
  ·rename_i E;have z:∀m∈ns,AU m hs=false:=fun m a=>by
    cases g:AU m hs with
    | false=>rfl
    | true=>exact absurd (OF.2 ⟨m,a,g⟩) E
   have A:∀m∈ns,V'.ρ m=V.ρ m:=fun m a=>by
    obtain⟨k,b,g⟩:=c.2 m a;rw[h.ptr k (z m a) g (fun _ e=>by cases e),g]
   refine⟨?_,fun m a=>⟨h.L m (c.2 m a).1 (z m a),by rw[A m a];exact(c.2 m a).2⟩⟩;rw[c.1]
   congr 2
   exact AAD fun m a=>(A m a).symm
theorem uZ (h:Oa V V' n hs) {x:AV} {cs:List Value} (b:Lo V x cs):Lo V' (x.trn n hs) cs:=by
 cases x;case p t d=>simp only[AV.trn];exact(Be.mono h.O h.heap b:Be V'.w V'.O t cs d)
 case ag l=>obtain⟨v,_,_,hf⟩:=b;exact hf.elim
 case tup l=>obtain⟨v,_,_,hf⟩:=b;exact hf.elim
 all_goals
  obtain⟨v,rfl,h1,e⟩:=b;have a:=Vl h e;simp only[AV.trn]at a ⊢;first
   | exact⟨v,rfl,h1,a⟩
   | (split at a<;>rename_i c<;>first|(rw[BY c];exact⟨v,rfl,h1,a⟩)|(rw[At c];exact⟨v,rfl,h1,a⟩))
theorem M2 (h:Oa V V' n hs):∀ {l:List AV} {cs:List Value},Cw V l cs→Cw V' (AV.trns n hs l) cs
 | [],cs,a=>(a:cs=[])
 | x :: r,cs,a=>by
  obtain⟨c1,c2,rfl,h1,b⟩:=a;simp only[AV.trns];exact⟨c1,c2,rfl,uZ h h1,M2 h b⟩
theorem u3 (h:Oa V V' n hs) {x:AV} {v:Value} (a:Pi V x v):Pi V' (x.trn n hs) v:=by
 cases x;case ag l=>obtain⟨cs,h1,b⟩:=a;simp only[AV.trn];exact⟨cs,h1,M2 h b⟩
 all_goals exact Pi.of1 (Vl h a)
theorem XE (h:Oa V V' n hs):∀ {l:List AV} {a:List Value},Ib V l a→Ib V' (AV.trns n hs l) a
 | [],a,b=>(b:a=[])
 | x :: r,a,b=>by
  obtain⟨v,d,rfl,h1,c⟩:=b;simp only[AV.trns];exact⟨v,d,rfl,u3 h h1,XE h c⟩
theorem Vm (h:Oa V V' n hs) {x:AV} {v:Value} (b:Bm V x v):Bm V' (x.trn n hs) v:=by
 cases x;case ag l=>obtain⟨cs,h1,a⟩:=b;simp only[AV.trn];exact⟨cs,h1,M2 h a⟩
 case tup l=>obtain⟨c,h1,a⟩:=b;simp only[AV.trn];exact⟨c,h1,XE h a⟩
 all_goals exact uV (Vl h b)
theorem Es (n:Nat) (hs:List Nat) (s:Nat):∀l:List (Nat×AV),lk s (Dp n hs l)=(lk s l).map (AV.trn n hs)
 | []=>rfl
 | (j,v) :: l=>by
  simp only[Dp,lk];split
  ·rfl
  ·exact Es n hs s l
theorem Pt (n:Nat) (hs:List Nat):∀l:List AV,(AV.trns n hs l).length=l.length
 | []=>rfl
 | _ :: r=>by simp[AV.trns,Pt n hs r]
theorem Cy (n:Nat) (hs:List Nat) (m:Nat):∀l:List (Nat×Obj),lk m (CJ n hs l)=if AU m (n :: hs)=true then none else (lk m l).map (Obj.trn n hs)
 | []=>by simp[CJ,lk]
 | (j,o) :: l=>by
  simp only[CJ];by_cases b:AU j (n :: hs)=true
  ·rw[BY b,Cy n hs m l];by_cases a:m=j
   ·subst a;simp[b]
   ·simp[lk,a]
  ·rw[At b];simp only[lk];by_cases a:m=j
   ·subst a;simp[b]
   ·simp[a,Cy n hs m l]
theorem cH (h:Oa V V' n hs) {o:Obj} {loc:Value} (c:∀b,bk loc b→V'.w.heap[b]?=V.w.heap[b]?) (a:Aw V o loc):Aw V' (o.trn n hs) loc:=by
 have hk:B7 ⟨V.w,V.O,fun _=>False,V.ρ⟩ V':=⟨h.O,fun _ h=>h.elim,fun _ h=>h.elim,h.heap⟩;cases o with
 | arr et e xs=>exact Aw.keeps (V:=⟨V.w,V.O,fun _=>False,V.ρ⟩) (o:=.arr et e xs) hk c a
 | box et x fs =>
  obtain⟨h0,b,cs,rfl,h1,f⟩:=a;exact⟨fun i=>by rw[Pt];exact h0 i,b,cs,rfl,(c b (.inl rfl)).trans h1,M2 h f⟩
 | mapo k v l=>exact Aw.keeps (V:=⟨V.w,V.O,fun _=>False,V.ρ⟩) (o:=.mapo k v l) hk c a
 | nest et p k e xs g=>exact Aw.keeps (V:=⟨V.w,V.O,fun _=>False,V.ρ⟩) (o:=.nest et p k e xs g) hk c (LL (V:=V) (V':=⟨V.w,V.O,fun _=>False,V.ρ⟩) rfl rfl a)
 | frame A fs =>
  obtain⟨h0,h1⟩:=a;refine⟨h0,fun s z d=>?_⟩;rw[Es]at d;simp only[IN]at d;obtain⟨y,j,rfl⟩:=d;exact Vm h (h1 s y j)
 | loop L=>exact Aw.keeps (V:=⟨V.w,V.O,fun _=>False,V.ρ⟩) (o:=.loop L) hk c a
 | itr q u r t m=>exact Aw.keeps (V:=⟨V.w,V.O,fun _=>False,V.ρ⟩) (o:=.itr q u r t m) hk c a
 | dfr=>exact Aw.keeps (V:=⟨V.w,V.O,fun _=>False,V.ρ⟩) (o:=.dfr) hk c a
end
end
section
open Go Go.RowKit
theorem ZN {t:Ty} (h:t.cell1=true):t.size=1:=by cases t<;>simp[Ty.cell1]at h<;>rfl
theorem Tx {V:Vw} {ty:Ty} {x:AV} {a:List Value} (c:Lo V x a) (hf:Lu ty x=true):a.length=ty.size:=by
 by_cases b:x=.top
 ·subst b;obtain⟨v,rfl,_⟩:=c;simp only[Lu]at hf;rw[ZN hf];rfl
 ·have hf:CB ty x=true:=by cases x<;>first|exact hf|exact absurd rfl b
  exact(ZK c hf).1
theorem kL {V:Vw} {ty:Ty} {j:Bool} {fs s:List AV} {A:List Nat} {off:Nat} {u v:AV} {cs b:List Value} (i:Cw V fs cs) (K:j=false→fs.length=1)
  (h:JO j fs v A=some s) (g:Mk fs A=some off) (a:IW j fs A=some u) (m:Lu ty u=true) (R:CB ty v=true)
  (G:∀l,v=.ag l→Cw V l b) (o:(∀l,v≠.ag l)→Lo V v b) (N:b.length=ty.size) :
  off+b.length≤cs.length∧Cw V s (Au cs off b)∧(j=false→s.length=1):=by
 unfold JO at h;split at h
 ·simp only[Mk]at g;cases g;simp only[IW]at a;cases j with
  | true =>
   simp only[AAv]at h a;cases a;have Q:cs.length=ty.size:=by
    have:=i.length;cases ty<;>simp only[Lu,CB]at m<;>try(cases m;done)
    simp only[AA0]at m;simp only[Ty.size];omega
   rw[DT (by omega)];split at h
   ·rename_i n d;cases h;have h1:Lo V (.p (.agg n) d) b:=o (by simp);have h1:Be V.w V.O n b d:=h1;exact⟨by omega,oJ V n d b h1,by simp⟩
   ·rename_i l;cases h;exact⟨by omega,G _ rfl,by simp⟩
   ·cases h
  | false =>
   simp only[AAB,AAN]at h a;split at h
   ·rename_i f;have f:∀l,v≠.ag l:=fun l e=>by subst e;simp[Mn]at f
    cases h;obtain⟨x,rfl⟩:=AAJ.1 (K rfl);simp at a;subst a;obtain⟨c1,c2,rfl,h1,c⟩:=i;have c:c2=[]:=c;subst c;have E:=Tx h1 m;rw[AAl,DT (by omega)];exact⟨by omega,⟨b,[],by simp,o f,rfl⟩,by simp⟩
   ·cases h
 ·rename_i k;split at h
  ·rename_i B;simp only[An]at B;obtain⟨rfl,f⟩:=B;have f:∀l,v≠.ag l:=fun l e=>by subst e;simp[Mn]at f
   cases h;simp only[IW,AAv]at a;obtain⟨h1,c⟩:=i.get a;have E:=Tx c m;have M:=c.length;have J:off=B0 fs k:=by
    simp only[Mk,a]at g;cases u<;>simp only[KM,AAY,List.isEmpty_nil,AAv]at g<;>cases g<;>rfl
   subst J;have q:=o f;have z:=q.length;exact⟨by omega,i.set a q (by omega),by simp⟩
  ·cases h
 ·rename_i k r P;cases j with
  | false=>simp at h
  | true =>
   simp only[AAv]at h;split at h
   ·rename_i t d n x hk;simp only[IN]at h;obtain⟨y,L,rfl⟩:=h;simp only[Mk,hk,IN]at g;obtain⟨S,I,rfl⟩:=g;obtain⟨h1,c⟩:=i.get hk;have D:Be V.w V.O t _ d:=c;have q:Be V.w V.O n b x:=o (by simp);obtain⟨z,F⟩:=RQ L I D q;have H:=c.length;simp only[AV.cells]at h1 H F z;have C:=i.set (y:=.p t y) hk (z:Be V.w V.O t _ y) rfl;rw[Lx _ _ _ _ _ (by omega) h1]at C;exact⟨by omega,C,by simp⟩
   ·cases h
section
variable {P:Program} {tb:Tb} {w0:World} {K O0:Nat→Prop} {nt:Nat} {ds:Fp} {σ σ':St} {ρ:Nat→Value} {a:Act} {w:World} {vc:Prop}
theorem Pu {n:Nat} {o:Obj} (hn:lk n σ.objs=some o) {g:Nat} (c:blk (ρ n)=some g) {w':World} (d:w.grownBy w' (some g)):B7 (vw w O0 σ ρ) (vw w' O0 σ ρ) :=
 ⟨fun _ _ h=>h,fun _ h=>h,fun _ _=>rfl,fun b f a=>d.block b f (fun e=>by injection e with e;subst e;exact a (.inr ⟨n,⟨o,hn⟩,.inl c⟩))⟩
theorem FA (w:World) (g:Nat) (cs:Array Value):w.grownBy (w.setRow g cs) (some g) :=
 ⟨rfl,rfl,rfl,by simp,fun k _ hk=>setRow_other w g k cs (fun e=>hk (by rw[e]))⟩
theorem KZ {id:TypeId} {ti:TI} (hT:Dd P tb id ti) {g off:Nat} {cs:List Value} {et:TypeId} {xv:Value} (b:w.heap[g]?=some (.cells cs.toArray et (0,0))) (hs:xv.cells.size=ti.ty.size)
  (c:off+xv.cells.toList.length≤cs.length) (h1:∀u∈xv.cells.toList,u.oneCell'=true) :
  (Instr.storeAt id (.pointer (some ⟨g,off,none⟩)) xv).run P w=.ok () (w.setRow g (Au cs off xv.cells.toList).toArray):=by
 have a:=run_storeCells_at P g off et xv.cells.toList 0 cs.toArray w b (by simpa using c) h1;simp only[Nat.add_zero]at a;have d:¬xv.cells.size≠ti.ty.size:=by omega
 simp only[Instr.storeAt,Instr.sureAddr,storeVar,AAA,AB1,AA6,Gp w hT,At d,a];rfl
theorem cI {o:Oper} {w':World} {next:Act→World→Prop} {Q:Exit→Act→World→Prop} {r:Option Nat} (h:(execOp a.eval o).run P w=.ok .skip w') (hn:next (a.put o.dst undef) w') (b:∀c,o.op≠.defer c:=by intro c e;cases e):o.wpIn (FR r) 0 P a w next Q:=by
 refine⟨fun _ _=>trivial,?_⟩;rw[Er _ _ _ b,h];exact hn
theorem kM (hs:Bb w0 K O0 nt ds σ ρ a w) (am:∀b,K b→b<w0.heap.size) (hT:Cg P tb) {id:TypeId} {x y:Operand} (bv:∀n e i t off,AZ σ x=some (.ep n e i t off)→CR (lk n σ.objs)=false) (h:Gm σ (lk id tb.ty) (AZ σ x) (AZ σ y)=some (vc,σ')) (da:vc) :
  ∃w',(Instr.storeAt id (a.eval x) (a.eval y)).run P w=.ok () w'∧Bb w0 K O0 nt ds σ' ρ a w':=by
 have G:FK (vw w O0 σ ρ) σ a.eval:=DU hs.env;unfold Gm at h;split at h
 ·rename_i ti n t off v ab Q ah;have af:=G x _ Q;have D:=G y _ ah;cases hn:lk n σ.objs with
  | none=>rw[hn]at h;simp[DC]at h
  | some o =>
   rw[hn]at h;cases o with
   | arr et e xs=>simp[DC]at h
   | mapo k v l=>simp[DC]at h
   | frame cp fs=>simp[DC]at h
   | loop L=>simp[DC]at h
   | itr ck cn cl cm ci=>simp[DC]at h
   | dfr=>simp[DC]at h
   | nest et cj k e xs br=>simp[DC]at h
   | box et aj fs =>
    simp only[DC]at h;cases I:IW aj fs t with
    | none=>rw[I]at h;simp[EV]at h
    | some u =>
     cases Z:JO aj fs v t with
     | none=>rw[I,Z]at h;simp[EV]at h
     | some ct =>
      rw[I,Z]at h;simp only[EV]at h;split at h
      ·rename_i az;obtain⟨cf,ad,bw,_⟩:=az;cases h;obtain⟨cc,b,cs,W,C,bj⟩:=hs.objs n _ hn;obtain⟨bh,b',f,ae⟩:=af;have f:ρ n=_:=f;rw[W]at f;injection f with f
       injection f with f
       injection f with f
       subst f;have H:=oA D ad (Ly D ad);have an:∀l,v=.ag l→Cw (vw w O0 σ ρ) l (a.eval y).cells.toList:=by
        intro l e;subst e;obtain⟨cr,s,bk⟩:=D;rw[s];simpa[Value.cells] using bk
       obtain⟨h1,R,be⟩:=kL bj cc Z bw I cf ad an (fun J=>H.2 J) (by simpa using H.1);have bz:∀z∈(a.eval y).cells.toList,z.oneCell'=true:=by
        by_cases J:∃l,v=.ag l
        ·obtain⟨l,e⟩:=J;exact(an l e).one
        ·exact(H.2 (fun l e=>J ⟨l,e⟩)).one
       have Y:=KZ (hT _ _ ab) C H.1 h1 bz;rw[ae];refine⟨_,Y,?_⟩;have A:blk (ρ n)=some b:=by rw[W];rfl
       refine hs.upd am hn A (FA w b _) ⟨be,b,_,W,setRow_heap w b _ _ et _ C,?_⟩;exact R.keeps (Pu hn A (FA w b _))
      ·cases h
 ·rename_i ti n e i t off v ab Q ah;have af:=G x _ Q;have D:=G y _ ah;cases hn:lk n σ.objs with
  | none=>rw[hn]at h;simp[DD]at h
  | some o =>
   rw[hn]at h;cases o with
   | box et aj fs=>simp[DD]at h
   | mapo k v l=>simp[DD]at h
   | frame cp fs=>simp[DD]at h
   | loop L=>simp[DD]at h
   | itr ck cn cl cm ci=>simp[DD]at h
   | dfr=>simp[DD]at h
   | nest et cj k e xs br=>have:=bv _ _ _ _ _ Q;rw[hn]at this;cases this
   | arr et d xs =>
    simp only[DD]at h;cases T:BG (.slice e) ⟨.slice d,xs⟩ with
    | none=>rw[T]at h;simp[D7]at h
    | some ys =>
     obtain⟨rfl,R⟩:=BX T;cases R;rw[T]at h;cases S:J0 false σ ti.ty v with
     | none=>rw[S]at h;simp[D7]at h
     | some cq =>
      rw[S]at h;simp only[D7]at h;cases aa:RJ t d (xs.getD i d.dflt) ⟨ti.ty,cq⟩ with
      | none=>rw[aa]at h;simp[E7]at h
      | some z =>
       rw[aa]at h;simp only[E7]at h;split at h
       ·rename_i bx;cases h;obtain⟨bt,cells,M,F⟩:=hs.objs n _ hn;obtain⟨bh,g,m,c,f,X,ae⟩:=af;have f:plc (ρ n)=_:=f;have M:w.ownsRow 0 et d.size (ρ n) xs.length cells:=M;rw[GT M]at f;have F:DL w (own O0 σ ρ) d cells xs:=F;have cg:=Ie (V:=vw w O0 σ ρ) (O':=own O0 σ ρ) (fun _ h=>h) (fun h=>by cases h) hs.objs S D;obtain⟨ay,ax⟩:=Tr cg;obtain⟨aw,ca⟩:=M;rcases ca with ⟨s,_⟩|⟨cu,cap,r,s,cw,C,ap,bi,U,cd⟩
        ·rw[f]at s;cases s
        ·rw[f]at s;injection s with B bl bm
         injection B with B
         injection B with B
         subst B;subst bl;have ch:xs[i]?=some (xs.getD i d.dflt):=by
          rw[AT X,AS,AT X];rfl
         obtain⟨al,bo,ar,bn⟩:=F i _ ch;obtain⟨bf,bg⟩:=RQ aa bx bn ax;have cv:cells.length=xs.length*d.size:=aw;have bq:(i+1)*d.size≤xs.length*d.size:=oR _ X;have cx:xs.length*d.size≤cap*d.size:=oR _ ap;rw[AAH]at bq;have ao:i*d.size+off+(a.eval y).cells.toList.length≤r.toList.length:=by
          have bs:r.toList.length=cap*d.size:=by rw[←U];simp
          have cz:(a.eval y).cells.toList.length=ti.ty.size:=by rw[←ay];simp
          omega
         have bp:w.heap[g]?=some (.cells r.toList.toArray et (0,0)):=by simpa using C
         have Y:=KZ (hT _ _ ab) bp ay ao ax.one;rw[ae];refine⟨_,Y,?_⟩;have A:blk (ρ n)=some g:=by rw[f];rfl
         have cb:(Au r.toList (i*d.size+off) (a.eval y).cells.toList).length=r.size:=by rw[EY ao];simp
         have ce:(Au r.toList (i*d.size+off) (a.eval y).cells.toList).take (xs.length*d.size)=Au cells (i*d.size+off) (a.eval y).cells.toList:=by
          rw[←cd];apply ABS;intro j;simp only[Au,AAy,iN,AAh,OR,AAe,ABv];have ai:min (i*d.size+off) r.toList.length=i*d.size+off:=by omega
          have E:min (i*d.size+off) (xs.length*d.size)=i*d.size+off:=by omega
          have co:min (xs.length*d.size) r.toList.length=xs.length*d.size:=by
           have bs:r.toList.length=cap*d.size:=by rw[←U];simp
           omega
          simp only[ai,E,co];by_cases c1:j<i*d.size+off
          ·simp[c1,show j<xs.length*d.size by omega]
          ·by_cases c2:j-(i*d.size+off)<(a.eval y).cells.toList.length
           ·simp only[c1,c2,AAN,AAv,show j<xs.length*d.size by omega]
           ·simp only[c1,c2,AAN];by_cases ak:j<xs.length*d.size
            ·rw[BY ak,BY (by omega)]
            ·rw[At ak,At (by omega)]
         refine hs.upd am hn A (FA w g _) ⟨by simpa using bt,Au cells (i*d.size+off) (a.eval y).cells.toList,⟨?_,.inr ⟨g,cap,_,by rw[f,bm];simp,IS _,setRow_heap w g _ _ et _ C,by simpa using ap,bi,by simp[cb,U],?_⟩⟩,?_⟩
         ·rw[EY (by omega)];simpa using aw
         ·simpa using ce
         ·have hk:=Pu (O0:=O0) hn A (FA w g (Au r.toList (i*d.size+off) (a.eval y).cells.toList).toArray);have bu:DL (vw w O0 σ ρ).w (vw w O0 σ ρ).O d (Au cells (i*d.size+off) (a.eval y).cells.toList) (xs.set i z):=by
           intro k q N;rw[AAp]at N;split at N
           ·rename_i au;subst au;cases N;refine⟨Au al off (a.eval y).cells.toList,by rw[EY bg];exact bo,fun j u p=>?_,bf⟩;simp only[Au,AAy,AAh,OR,iN,AAe]at p ⊢;have ai:min off al.length=off:=by omega
            have E:min (i*d.size+off) cells.length=i*d.size+off:=by omega
            simp only[ai]at p;simp only[E];by_cases c1:j<off
            ·simp only[c1,AAv]at p;simp only[show i*d.size+j<i*d.size+off by omega,AAv];exact ar _ _ p
            ·simp only[c1,AAN]at p;simp only[show ¬i*d.size+j<i*d.size+off by omega,AAN];rw[show i*d.size+j-(i*d.size+off)=j-off by omega];by_cases c2:j-off<(a.eval y).cells.toList.length
             ·simp only[c2,AAv]at p ⊢;exact p
             ·simp only[c2,AAN]at p ⊢;have:=ar _ _ p;rw[←this]
              congr 1
              omega
           ·rename_i au;obtain⟨ba,bb,bc,bd⟩:=F k q N;refine⟨ba,bb,fun j u p=>?_,bd⟩;have cy:=(No.1 p).1;have aq:=bc j u p;simp only[Au,AAy,AAh,OR,iN,AAe];have E:min (i*d.size+off) cells.length=i*d.size+off:=by omega
            simp only[E];rcases Nat.lt_or_ge k i with av|av
            ·have:(k+1)*d.size≤i*d.size:=oR _ av;rw[AAH]at this;simp only[show k*d.size+j<i*d.size+off by omega,AAv];exact aq
            ·have:(i+1)*d.size≤k*d.size:=oR _ (by omega);rw[AAH]at this;simp only[show ¬k*d.size+j<i*d.size+off by omega,AAN,show ¬k*d.size+j-(i*d.size+off)<(a.eval y).cells.toList.length by omega];rw[←aq]
             congr 1
             omega
          exact bu.keeps hk
       ·cases h
 ·cases h
theorem kN (hs:Bb w0 K O0 nt ds σ ρ a w) (B:∀b,K b→b<w0.heap.size) (s:Cg P tb) {t:TypeId} {m x y:Operand} (h:JR tb σ (lk t tb.ty) (AZ σ m) (AZ σ x) (AZ σ y)=some (vc,σ')) :
  ∃w',(Instr.mapUpdate t (a.eval m) (a.eval x) (a.eval y)).run P w=.ok () w'∧Bb w0 K O0 nt ds σ' ρ a w':=by
 have g:FK (vw w O0 σ ρ) σ a.eval:=DU hs.env;unfold JR at h;split at h
 ·rename_i k e _ _ n xv W N J O R;have Q:=g x _ O;have S:=g y _ R;obtain⟨X,b,d,L⟩:=g m _ J;have d:ρ n=_:=d;cases hn:lk n σ.objs with
  | none=>rw[hn]at h;simp[E8]at h
  | some o =>
   rw[hn]at h;cases o with
   | mapo Y U l =>
    cases j:lk k tb.ty with
    | none=>simp[E8,j]at h
    | some T =>
     simp only[E8,j,AAY,AAo]at h;split at h
     ·rename_i E;obtain⟨rfl,F⟩:=E;cases f:J0 false σ T.ty xv with
      | none=>rw[f]at h;simp[Fk]at h
      | some kd =>
       cases p:J0 false σ U W with
       | none=>rw[f,p]at h;simp[Fk]at h
       | some aa =>
        rw[f,p]at h;simp only[Fk]at h;split at h
        ·rename_i H;cases h;have h1:=Ie (V:=vw w O0 σ ρ) (O':=own O0 σ ρ) (fun _ h=>h) (fun h=>by cases h) hs.objs f Q;have A:=Ie (V:=vw w O0 σ ρ) (O':=own O0 σ ρ) (fun _ h=>h) (fun h=>by cases h) hs.objs p S;obtain⟨b',r,q,c,M,⟨Z,z⟩,G,D⟩:=A0i (w:=w) (V:=vw w O0 σ ρ) s (s _ _ N) (n:=n) rfl rfl j rfl (hs.objs n _ hn) F H h1 A;have c:ρ n=_:=c;rw[d]at c;injection c with c
         injection c with c
         subst c;rw[L];refine⟨_,M,?_⟩;have u:blk (ρ n)=some b:=by rw[d];rfl
         have v:w.grownBy { w with heap:=w.heap.setIfInBounds b (.map r q) } (some b) :=
          ⟨rfl,rfl,rfl,by simp,fun i _ hi=>(AC0 z).2 i (fun e=>hi (by rw[e]))⟩
         refine hs.upd B hn u v ⟨b,r,q,d,(AC0 z).1,?_⟩;refine⟨?_,D⟩;exact G.mono (fun _ _ h=>h) (fun b2 I C=>v.block b2 I (fun e=>by injection e with e;subst e;exact C (.inr ⟨n,⟨_,hn⟩,.inl u⟩)))
        ·cases h
     ·cases h
   | _=>simp[E8]at h
 ·cases h
end
end
section
open Go Go.RowKit
section
variable {P:Program} {tb:Tb} {w0:World} {K O0:Nat→Prop} {nt:Nat} {ds:Fp} {σ σ':St} {ρ:Nat→Value} {a:Act} {w:World} {vc:Prop} {id:TypeId}
theorem Qo {w:World} {base:Nat} {et:TypeId} {sz n:Nat} {s:Value} {xs:List Value} (h:w.ownsRow base et sz s n xs):s.ownBlock=blk s:=by
 rcases h.2 with ⟨rfl,_⟩|⟨g,cap,a,rfl,_⟩<;>rfl
theorem GU (B:Cg P tb) {el:TypeId} {e:Ty} (q:P.underlying id=some (.slice el)) {te:TI} (G:lk el tb.ty=some te) (S:te.ty=e) {base ty:Nat} {s xv:Value} {n:Nat} {xs x:List Value}
  (t:w.ownsRow base el e.size s n xs) {O:Nat→Prop} {ys:List e.den} (aa:t8 w O e xv ys x) (H:(n+ys.length)*te.bytes≤AO) {h:Value} {w':World}
  (d:(Builtin.append_ #[id,id] ty #[s,xv]).run P w=.ok h w'):blk h=blk s∨∀b,blk h=some b→w.heap.size≤b:=by
 subst S;obtain⟨⟨⟨_,N,_⟩,i,z,hi,p,C,I,al⟩,_⟩:=B _ _ G;have E:n+ys.length≤AO:=by
  have:(n+ys.length)*1≤(n+ys.length)*te.bytes:=AB7 _ N;omega
 have ai:AO=140737488355328:=rfl;obtain⟨⟨a,c,rfl,M⟩,D,af,Z,ah⟩:=aa;have hs:(sizeOf el).run P w=.ok te.ty.size w:=Gp w (B _ _ G);have K:∀ {l y:Nat} {W:World},Result.ok (Value.slice (some ⟨w.heap.size,0,none⟩) l y) W=Result.ok h w'→blk h=blk s∨∀b,blk h=some b→w.heap.size≤b:=by
  intro l y W R;injection R with h1 r
  subst h1;exact .inr (fun b v=>by simp[blk]at v;omega)
 have J:∀(ad:Addr) (m:Nat) (f:List Value),f.length=m*te.ty.size→(∀(j:Nat) (u:Value),f[j]?=some u→w.cell? (ad.add j)=some u)→(∀u∈f,u.oneCell'=true)→n+m≤AO→(n+m)*te.bytes≤AO →
   (Builtin.append_ #[id,id] ty #[s,.slice (some ad) m c]).run P w=.ok h w'→blk h=blk s∨∀b,blk h=some b→w.heap.size≤b:=by
  intro ad m f o k h1 ag v d;rcases t.2 with ⟨rfl,rfl⟩|⟨g,cap,A,rfl,ab,U,aj,ae,Q,ak⟩
  ·by_cases V:m=0
   ·subst V;have:f=[]:=aT (by simpa using o);simp[Builtin.append_,aS q,hs,Builtin.lenOf,Builtin.firstCells,loadCells,loadCellsFrom]at d;rw[←d.1];exact .inl rfl
   ·have:=run_append_nil (P:=P) w id ty el i z q hi I ad m c f (by rw[p];exact o) k (by omega) (by omega) (by rw[C];simp at v;omega);rw[this]at d;exact K d
  ·by_cases F:n+m≤cap
   ·have T:n*i.size+f.length≤A.size:=by
     rw[o,p,Q,←ABF];exact oR _ F
    have:=run_append_room (P:=P) w id ty el i q hi g n cap A U ad m c f (by rw[p];exact o) k h1 F T;rw[this]at d;injection d with r L
    subst r;exact .inl rfl
   ·have Y:∀j u,xs[j]?=some u→w.cell? ((⟨g,0,none⟩:Addr).add j)=some u:=t.cells (g:=g) rfl;have:=run_append_grow (P:=P) w id ty el i z q hi I ⟨g,0,none⟩ n cap xs (by rw[p];exact t.1) Y ad m c f (by rw[p];exact o) k (by omega) (by omega) (by rw[C];exact growslice_fits (by omega) (by omega));rw[this]at d;exact K d
 rcases M with rfl|⟨ad,rfl,k⟩
 ·have X:x=[]:=aT (by simpa using D);subst X;cases a with
  | none =>
   have:=Pl (P:=P) (ty:=ty) q hs t c;rw[show ([]:List te.ty.den).length=0 from rfl,this]at d;injection d with r L
   subst r;exact .inl rfl
  | some ad=>exact J ad 0 [] (by simp) (by simp) (by simp) (by simpa using E) (by simpa using H) d
 ·exact J ad ys.length x D k Z E H d
theorem ZO {w:World} {O:Nat→Prop} {e:Ty} {c:List Value} {xs:List e.den} (h:DL w O e c xs) (n:Nat):DL w O e (c.take (n*e.size)) (xs.take n):=by
 intro i x hi;rw[iN]at hi;split at hi
 ·rename_i k;obtain⟨b,d,f,g⟩:=h i x hi;refine⟨b,d,fun j u a=>?_,g⟩;have l:=(No.1 a).1;have:(i+1)*e.size≤n*e.size:=oR _ k;rw[AAH]at this;rw[iN,BY (by omega)];exact f j u a
 ·cases hi
theorem ZP (hs:Bb w0 K O0 nt ds σ ρ a w) (af:∀b,K b→b<w0.heap.size) (ag:∀b,O0 b→b<w0.heap.size) (hT:Cg P tb) {d:Option Nat} (ai:∀k,d=some k→k<nt) {t u ty:TypeId} {x y:Operand}
  (h:Co tb σ d t u (AZ σ x) (AZ σ y)=some (vc,σ')) (ar:vc) (ah:∃n e hi,AZ σ x=some (.sr n e 0 hi)∧CR (lk n σ.objs)=false) :
  ∃z w' ρ',(Builtin.append_ #[t,u] ty #[a.eval x,a.eval y]).run P w=.ok z w'∧Bb w0 K O0 nt ds σ' ρ' (a.put d z) w':=by
 have R:FK (vw w O0 σ ρ) σ a.eval:=DU hs.env;obtain⟨n0,ad,am,A,U⟩:=ah;unfold Co at h;split at h
 ·rename_i n e hi v s au;obtain⟨rfl,rfl,rfl⟩:n=n0∧e=ad∧hi=am:=by rw[s]at A;cases A;exact⟨rfl,rfl,rfl⟩
  split at h
  ·rename_i d;split at h
   ·rename_i M;obtain⟨M,al⟩:=M;subst M;cases J:lk t tb.ty with
    | none=>rw[J]at h;simp[D8]at h
    | some ti =>
     rw[J]at h;unfold D8 at h;split at h
     ·rename_i p offs el b i;cases i;split at h
      ·rename_i aj;subst aj;obtain⟨X,bi,te,I,W⟩:=B1 (hT _ _ J) hT;rw[I]at h;cases hn:lk n σ.objs with
       | none=>rw[hn]at h;cases f:Mj σ p v<;>rw[f]at h<;>simp[CF]at h
       | some o =>
        rw[hn]at h;cases o with
        | box et br fs=>cases f:Mj σ p v<;>rw[f]at h<;>simp[CF]at h
        | mapo av v1 l=>cases f:Mj σ p v<;>rw[f]at h<;>simp[CF]at h
        | frame bs fs=>cases f:Mj σ p v<;>rw[f]at h<;>simp[CF]at h
        | loop L=>cases f:Mj σ p v<;>rw[f]at h<;>simp[CF]at h
        | itr bl bo bm bn bj=>cases f:Mj σ p v<;>rw[f]at h<;>simp[CF]at h
        | nest et bk av B xs be=>rw[hn]at U;cases U
        | dfr=>cases f:Mj σ p v<;>rw[f]at h<;>simp[CF]at h
        | arr et j xs =>
         simp only[CF]at h;split at h
         ·rename_i ak;subst ak;cases D:BG (.slice p) ⟨.slice j,xs⟩ with
          | none=>rw[D]at h;simp[EW]at h
          | some bt =>
           obtain⟨rfl,ae⟩:=BX D;cases ae;rw[D]at h;cases f:Mj σ j v with
           | none=>rw[f]at h;simp[EW]at h
           | some ys =>
            rw[f]at h;simp only[EW]at h;cases h;obtain⟨bp,H⟩:=Qm hs.objs f (R y _ au);obtain⟨bh,cells,r,E⟩:=hs.objs n _ hn;have r:w.ownsRow 0 et j.size (ρ n) xs.length cells:=r;have E:DL w (own O0 σ ρ) j cells xs:=E;obtain⟨bb,a0,m,c,q,bg,bd,aa,ab,N,bc,h0,h1⟩:=R x _ s;have q:plc (ρ n)=.slice a0 m c:=q;rw[GT r]at q;obtain⟨rfl,rfl⟩:=h0 rfl;simp only[AC8]at N;have bf:=r.1;have T:hi≤xs.length:=by
             rcases r.2 with ⟨i,ap⟩|⟨g,cap,O,i,_⟩
             ·rw[q]at i;injection i;omega
             ·rw[q]at i;injection i;omega
            have ao:hi*j.size≤xs.length*j.size:=oR _ T;have G:w.ownsRow 0 et j.size (a.eval x) hi (cells.take (hi*j.size)):=by
             rw[N];refine⟨by rw[OR];omega,?_⟩;rcases r.2 with ⟨i,ap⟩|⟨g,cap,O,i,aw,ax,bq,ay,az,ba⟩
             ·rw[q]at i;injection i with B j C
              subst B;subst C;have:hi=0:=by omega
              subst this;exact .inl ⟨rfl,rfl⟩
             ·rw[q]at i;injection i with B j C
              subst B;subst C;refine .inr ⟨g,ab,O,rfl,aw,ax,by omega,ay,az,?_⟩;rw[←ba,ABv,AB8 ao]
            have Y:(hi+ys.length)*te.bytes≤AO:=ar;obtain⟨z,w',V,aq,S,an⟩:=FY (ty:=ty) hT X I W G H Y (IS _);have Z:=GU (ty:=ty) hT X I W G H Y V;have Q:blk (a.eval x)=blk (ρ n):=by
             rw[N,q];cases aa<;>rfl
            rw[Q]at Z;rw[Qo G,Q]at S;refine⟨z,w',Dr ρ n z,V,?_⟩;have F:(xs.take hi++ys).length=hi+ys.length:=by simp;omega
            exact hs.app af ag al hn S Z (by rw[F];exact an) (by rw[F];exact aq) (JW (ZO E hi) H.elems (by rw[OR,OR];rw[AB8 T];omega)) (ai d rfl) F.symm
         ·cases h
      ·cases h
     ·cases h
   ·cases h
  ·cases h
 ·rename_i s _;rw[s]at A;cases A
 ·rename_i s _;rw[s]at A;cases A
 ·cases h
theorem LP (n:Nat) (e:Ty) (xs:List e.den) (s:Nat):∀l:List (Nat×AV),lk s (Cu n e xs l)=(lk s l).map (AV.frz n e xs)
 | []=>rfl
 | (j,v) :: l=>by
  simp only[Cu,lk];split
  ·rfl
  ·exact LP n e xs s l
def Obj.frz (n:Nat) (e:Ty) (xs:List e.den):Obj→Obj
 | .arr et a ys=>.arr et a ys
 | .box et j fs=>.box et j (AV.frzs n e xs fs)
 | .mapo k v l=>.mapo k v l
 | .nest et c k e ys h=>.nest et c k e ys h
 | .frame m fs=>.frame m (Cu n e xs fs)
 | .loop L=>.loop L
 | .itr d i f g b=>.itr d i f g b
 | .dfr=>.dfr
theorem CE (n:Nat) (e:Ty) (xs:List e.den) (s:Nat):∀l:List (Nat×Obj),lk s (A2 n e xs l)=(lk s l).map (Obj.frz n e xs)
 | []=>rfl
 | (j,.arr et a ys) :: l=>by
  simp only[A2,lk];split
  ·rfl
  ·exact CE n e xs s l
 | (j,.box et h fs) :: l=>by
  simp only[A2,lk];split
  ·rfl
  ·exact CE n e xs s l
 | (j,.mapo k v x) :: l=>by
  simp only[A2,lk];split
  ·rfl
  ·exact CE n e xs s l
 | (j,.nest _ _ _ _ _ _) :: l=>by
  simp only[A2,lk];split
  ·rfl
  ·exact CE n e xs s l
 | (j,.frame i fs) :: l=>by
  simp only[A2,lk];split
  ·rfl
  ·exact CE n e xs s l
 | (j,.loop L) :: l=>by
  simp only[A2,lk];split
  ·rfl
  ·exact CE n e xs s l
 | (j,.itr c g d f b) :: l=>by
  simp only[A2,lk];split
  ·rfl
  ·exact CE n e xs s l
 | (j,.dfr) :: l=>by
  simp only[A2,lk];split
  ·rfl
  ·exact CE n e xs s l
theorem Pv (n:Nat) (e:Ty) (xs:List e.den):∀l:List AV,(AV.frzs n e xs l).length=l.length
 | []=>rfl
 | _ :: r=>by simp[AV.frzs,Pv n e xs r]
section
variable {V V':Vw} {n:Nat} {et:TypeId} {e:Ty} {xs:List e.den}
structure cJ (V V':Vw) (n:Nat):Prop where
 w:V'.w=V.w
 ρ:V'.ρ=V.ρ
 L:∀m,V.L m→m≠n→V'.L m
 O:∀b,¬V.O b→¬V'.O b
 n:∀b,bk (V.ρ n) b→¬V'.O b
theorem cJ.keeps (h:cJ V V' n):B7 (V.but n) V':=⟨fun b _ c=>h.O b c,fun m a=>h.L m a.1 a.2,fun m _=>by rw[h.ρ];rfl,fun b _ _=>by rw[h.w];rfl⟩
structure M3 (V V':Vw) (n:Nat) (e:Ty) (xs:List e.den):Prop where
 seat:seat (V.ρ n)
 read:∀lo hi v,Cf (plc (V.ρ n)) e.size lo hi v→Be V'.w V'.O (.slice e) [v] (sub xs lo hi)
theorem XF {V:Vw} {et:TypeId} {e:Ty} {xs:List e.den} {loc:Value} (b:Aw V (.arr et e xs) loc):seat loc:=by
 obtain⟨_,cells',c,_⟩:=b;rcases c.2 with ⟨a,_⟩|⟨g,cap,d,a,_⟩
 ·exact .inl ⟨_,_,_,a⟩
 ·exact .inl ⟨_,_,_,a⟩
theorem cJ.arr (h:cJ V V' n) (a:Aw V (.arr et e xs) (V.ρ n)):M3 V V' n e xs:=⟨XF a,fun lo hi v f=>by
 have d:=Vd (V:=V) (O':=V'.O) h.O (fun b c=>h.n b (.inl c)) a f
 rwa [←h.w]at d⟩
theorem cJ.nest (h:cJ V V' n) {f:TypeId} {k e:Ty} {xs:List (k.den×List e.den)} (a:Aw V (.nest et f k e xs none) (V.ρ n)):M3 V V' n (.agg (.prod k (.slice e))) xs:=⟨by
 obtain⟨o,ins,cells,b,_⟩:=a;exact b.elim (fun h=>.inr ⟨_,h⟩) (fun h=>.inl ⟨_,_,_,h.1⟩),fun lo hi v d=>by
 have c:=Wr (V:=V) (O':=V'.O) h.O h.n a d
 rwa [←h.w]at c⟩
theorem Vn (h:cJ V V' n) (g:M3 V V' n e xs) {x:AV} {v:Value} (b:RM V x v):RM V' (x.frz n e xs) v∧((∀t d,x≠.p t d)→∀t d,x.frz n e xs=.p t d→t.wrap [v]=v∧Be V'.w V'.O t [v] d):=by
 have hk:=h.keeps;have c:=g.seat;cases x;case sr m f lo hi =>
  simp only[AV.frz];split
  ·rename_i a;subst a;split
   ·rename_i q;subst q;obtain⟨u,k⟩:=b;have j:=g.read lo hi v k;obtain⟨_,_,_,_,_,_,r,s,l,_⟩:=k;refine⟨⟨[v],j,by rw[l];rfl⟩,fun _ t d h=>?_⟩;injection h with h1 o
    subst h1;cases o;exact⟨by rw[l];rfl,j⟩
   ·exact⟨trivial,fun _ t d h=>by cases h⟩
  ·rename_i a;have:=Hm c b;simp only[AV.drp,At a]at this;exact⟨this.keeps hk,fun _ t d h=>by cases h⟩
 case ep m f i y off =>
  have:=Hm c b;simp only[AV.drp]at this;simp only[AV.frz];split
  ·exact⟨trivial,fun _ t d h=>by cases h⟩
  ·rename_i a;rw[At a]at this;exact⟨this.keeps hk,fun _ t d h=>by cases h⟩
 case nin m f i len =>
  have:=Hm c b;simp only[AV.drp]at this;simp only[AV.frz];split
  ·exact⟨trivial,fun _ t d h=>by cases h⟩
  ·rename_i a;rw[At a]at this;exact⟨this.keeps hk,fun _ t d h=>by cases h⟩
 case p t d=>exact⟨(Hm c b).keeps hk,fun hp=>absurd rfl (hp t d)⟩
 all_goals
  have:=Hm c b;simp only[AV.drp]at this;simp only[AV.frz];exact⟨this.keeps hk,fun _ t d h=>by cases h⟩
theorem u4 (h:cJ V V' n) (j:M3 V V' n e xs) {x:AV} {cs:List Value} (c:Lo V x cs):Lo V' (x.frz n e xs) cs:=by
 by_cases hp:∃t d,x=.p t d
 ·obtain⟨t,d,rfl⟩:=hp;simp only[AV.frz];have c:Be V.w V.O t cs d:=c;have:Be V'.w V'.O t cs d:=c.mono (fun b _ i=>h.O b i) (fun b _ _=>by rw[h.w]);exact this
 ·have k:∃v,cs=[v]∧v.oneCell'=true∧RM V x v:=by
   cases x;case p t d=>exact absurd ⟨t,d,rfl⟩ hp
   all_goals exact c
  obtain⟨v,rfl,h1,g⟩:=k;obtain⟨f,a⟩:=Vn h j g;have a:=a (fun t d e=>hp ⟨t,d,e⟩);generalize l:x.frz n e xs=y at f a;cases y;case p t d=>exact(a t d rfl).2
  all_goals exact⟨v,rfl,h1,f⟩
theorem M4 (h:cJ V V' n) (b:M3 V V' n e xs):∀ {l:List AV} {cs:List Value},Cw V l cs→Cw V' (AV.frzs n e xs l) cs
 | [],cs,a=>(a:cs=[])
 | x :: r,cs,a=>by
  obtain⟨c1,c2,rfl,h1,c⟩:=a;simp only[AV.frzs];exact⟨c1,c2,rfl,u4 h b h1,M4 h b c⟩
theorem u5 (h:cJ V V' n) (b:M3 V V' n e xs) {x:AV} {v:Value} (a:Pi V x v):Pi V' (x.frz n e xs) v:=by
 cases x;case ag l=>obtain⟨cs,h1,c⟩:=a;simp only[AV.frz];exact⟨cs,h1,M4 h b c⟩
 all_goals
  simp only[Pi]at a;exact Pi.of1 (Vn h b a).1
theorem XG (h:cJ V V' n) (c:M3 V V' n e xs):∀ {l:List AV} {a:List Value},Ib V l a→Ib V' (AV.frzs n e xs l) a
 | [],a,b=>(b:a=[])
 | x :: r,a,b=>by
  obtain⟨v,f,rfl,h1,d⟩:=b;simp only[AV.frzs];exact⟨v,f,rfl,u5 h c h1,XG h c d⟩
theorem cK (h:cJ V V' n) (c:M3 V V' n e xs) {x:AV} {v:Value} (a:Bm V x v):Bm V' (x.frz n e xs) v:=by
 cases x;case ag l=>obtain⟨cs,h1,b⟩:=a;simp only[AV.frz];exact⟨cs,h1,M4 h c b⟩
 case tup l=>obtain⟨d,h1,b⟩:=a;simp only[AV.frz];exact⟨d,h1,XG h c b⟩
 all_goals
  simp only[Bm]at a;exact uV (Vn h c a).1
end
theorem XH (hs:Bb w0 K O0 nt ds σ ρ a w) (n:Nat) (N:¬Fv n=true) {W:Obj} (hn:lk n σ.objs=some W) {e:Ty} {xs:List e.den}
  (R:cJ (vw w O0 σ ρ) (vw w O0 ⟨Cu n e xs σ.env,A2 n e xs (del n σ.objs)⟩ ρ) n→M3 (vw w O0 σ ρ) (vw w O0 ⟨Cu n e xs σ.env,A2 n e xs (del n σ.objs)⟩ ρ) n e xs) :
  Bb w0 K O0 nt ds ⟨Cu n e xs σ.env,A2 n e xs (del n σ.objs)⟩ ρ a w:=by
 have F:∀m x,lk m (A2 n e xs (del n σ.objs))=some x→m≠n∧∃y,lk m σ.objs=some y∧x=y.frz n e xs:=by
  intro m x d;rw[CE,OX]at d;split at d
  ·simp at d
  ·rename_i t;simp only[IN]at d;obtain⟨y,j,rfl⟩:=d;exact⟨t,y,j,rfl⟩
 have h:∀m,Fl ⟨Cu n e xs σ.env,A2 n e xs (del n σ.objs)⟩ m↔(Fl σ m∧m≠n):=by
  intro m;constructor
  ·rintro⟨x,C⟩;obtain⟨h1,y,g,_⟩:=F m x C;exact⟨⟨y,g⟩,h1⟩
  ·rintro⟨⟨x,C⟩,t⟩;exact⟨x.frz n e xs,by simp[CE,OX,t,C]⟩
 have hF:cJ (vw w O0 σ ρ) (vw w O0 ⟨Cu n e xs σ.env,A2 n e xs (del n σ.objs)⟩ ρ) n:=by
  refine⟨rfl,rfl,fun m h1 g=>(h m).2 ⟨h1,g⟩,fun b f B=>?_,fun b f B=>?_⟩
  ·rcases B with h0|⟨m,c,d⟩
   ·exact f (.inl h0)
   ·exact f (.inr ⟨m,((h m).1 c).1,d⟩)
  ·have f:bk (ρ n) b:=f;rcases B with h0|⟨m,c,d⟩
   ·exact(hs.free n b ⟨_,hn⟩ f).2 h0
   ·exact((h m).1 c).2 (hs.dist m n b ((h m).1 c).1 ⟨_,hn⟩ d f)
 have u:=R hF;have Q:∀p∈ds.pin,Fl ⟨Cu n e xs σ.env,A2 n e xs (del n σ.objs)⟩ p.1∧ρ p.1=p.2∧(A07 p.2=true∨Fv p.1=true):=by
  intro p hp;obtain⟨h1,g,r⟩:=hs.pin p hp;refine⟨(h p.1).2 ⟨h1,fun q=>?_⟩,g,r⟩;have r:A07 p.2=true:=r.resolve_right (by rw[q];exact N);have D:seat (ρ n):=u.seat;rw[←q,g]at D;rcases D with ⟨_,_,_,E⟩|⟨_,E⟩<;>rw[E]at r<;>cases r
 refine⟨hs.frm,hs.nt,hs.defers,Q,?_,?_,?_,?_⟩
 ·intro m x d;obtain⟨t,y,j,rfl⟩:=F m x d;have i:=hs.objs m y j;cases y with
  | arr A q J=>exact Aw.keeps (V:=(vw w O0 σ ρ).but n) hF.keeps (fun _ _=>rfl) i
  | box A ad fs =>
   obtain⟨h0,b,cs,c,O,M⟩:=i;exact⟨fun S=>by rw[Pv];exact h0 S,b,cs,c,O,M4 hF u M⟩
  | nest A T U q J c=>exact Aw.keeps (V:=(vw w O0 σ ρ).but n) (o:=.nest A T U q J c) hF.keeps (fun _ _=>rfl) (LL (V:=vw w O0 σ ρ) (V':=(vw w O0 σ ρ).but n) rfl rfl i)
  | mapo k v l=>exact Aw.keeps (V:=(vw w O0 σ ρ).but n) hF.keeps (fun _ _=>rfl) i
  | frame ae fs =>
   obtain⟨h0,h1⟩:=i;refine⟨h0,fun s z H=>?_⟩;simp only[LP,IN]at H;obtain⟨y,j,rfl⟩:=H;exact cK hF u (h1 s y j)
  | loop L=>exact Aw.keeps (V:=(vw w O0 σ ρ).but n) hF.keeps (fun _ _=>rfl) i
  | itr Y ab Z aa X=>exact Aw.keeps (V:=(vw w O0 σ ρ).but n) hF.keeps (fun _ _=>rfl) i
  | dfr=>exact Aw.keeps (V:=(vw w O0 σ ρ).but n) hF.keeps (fun _ _=>rfl) i
 ·intro m b c f;exact hs.free m b ((h m).1 c).1 f
 ·intro m I b c P h1 g;exact hs.dist m I b ((h m).1 c).1 ((h I).1 P).1 h1 g
 ·intro s v G;simp only[LP,IN]at G;obtain⟨y,j,rfl⟩:=G;exact cK hF u (hs.env s y j)
theorem u6 (hs:Bb w0 K O0 nt ds σ ρ a w) (n:Nat):Bb w0 K O0 nt ds (frz n σ) ρ a w:=by
 unfold frz;split
 ·exact hs
 rename_i b;cases hn:lk n σ.objs with
 | none=>exact hs
 | some d =>
 cases d with
 | box et q fs=>exact hs
 | mapo k v l=>exact hs
 | frame r fs=>exact hs
 | loop L=>exact hs
 | itr j p m o f=>exact hs
 | dfr=>exact hs
 | arr et e xs=>exact XH hs n b hn fun h=>h.arr (hs.objs n _ hn)
 | nest et g k e xs c =>
  cases c with
  | some i=>exact hs
  | none=>exact XH hs n b hn fun h=>h.nest (hs.objs n _ hn)
theorem JY:∀ {l:List Nat} {σ:St},Bb w0 K O0 nt ds σ ρ a w→Bb w0 K O0 nt ds (CS l σ) ρ a w
 | [],_,h=>h
 | n :: r,σ,h=>JY (l:=r) (σ:=frz n σ) (u6 h n)
end
end
section
open Go Go.RowKit
section
variable {P:Program} {tb:Tb} {w0:World} {K O0:Nat→Prop} {nt:Nat} {ds:Fp} {σ σ':St} {ρ:Nat→Value} {a:Act} {w:World} {vc:Prop}
theorem u7 (hs:Bb w0 K O0 nt ds σ ρ a w) (ce:∀b,K b→b<w0.heap.size) (cf:∀b,O0 b→b<w0.heap.size) (hT:Cg P tb) {d:Nat} (ch:d<nt) {t ty:TypeId} {x y:Operand} {n i len:Nat} {e:Ty} {v:AV}
  (cv:AZ σ x=some (.nin n e i len)) (cw:AZ σ y=some v) {et el:TypeId} {k:Ty} {xs:List (k.den×List e.den)} (hn:lk n σ.objs=some (.nest et el k e xs none)) (cj:Fv n=false)
  (bd:P.underlying t=some (.slice el)) {te:TI} (bb:lk el tb.ty=some te) (bc:te.ty=e) (h:KR σ d n et el k e xs i te.bytes (Mj σ e v)=some (vc,σ')) (an:vc) :
  ∃z w' ρ',(Builtin.append_ #[t,t] ty #[a.eval x,a.eval y]).run P w=.ok z w'∧Bb w0 K O0 nt ds σ' ρ' (a.put (some d) z) w':=by
 have bl:FK (vw w O0 σ ρ) σ a.eval:=DU hs.env;cases bf:Mj σ e v with
 | none=>rw[bf]at h;simp[KR]at h
 | some ys =>
  rw[bf]at h;simp only[KR]at h;split at h
  ·rename_i bm;have al:lk d σ.objs=none:=by simpa using bm.1
   cases h;obtain⟨da,ag⟩:=Qm hs.objs bf (bl y _ cw);obtain⟨de,db,ad,c,aa,M,H,cl,di⟩:=bl x _ cv;have M:ρ n=.tuple db:=M;have br:=hs.objs n _ hn;have bn:=Qj (z:=(k.dflt,[])) br M H;obtain⟨o,ins,cells,ct,E⟩:=br;obtain rfl:=ct.tup M;have H:ins[i]?=some aa:=by simpa using H
   obtain⟨c1,dk,cg,cs,s⟩:=E.row i _ _ bn H;rcases s with ⟨s,_⟩|⟨_,df,q,bs,X,ci⟩
   ·cases s
   generalize dh:xs.getD i (k.dflt,[])=row at *;obtain⟨z,w',Y,G,B,az,be⟩:∃z w',(Builtin.append_ #[t,t] ty #[a.eval x,a.eval y]).run P w=.ok z w'∧w'.ownsRow 0 el e.size z (row.2.length+ys.length) (bs++da)∧w.grownBy w' (blk aa)∧row.2.length+ys.length≤AO∧(blk z=blk aa∨∀b,blk z=some b→w.heap.size≤b):=by
    rcases cl with I|⟨I,a0,cu⟩
    ·rw[I];obtain⟨z,w',Y,G,B,az⟩:=FY (ty:=ty) hT bd bb bc X ag an (IS _);have be:=GU (ty:=ty) hT bd bb bc X ag an Y;rw[Qo X]at B;exact⟨z,w',Y,G,B,az,be⟩
    ·subst I;have bp:=JU X;have cr:row.2=[]:=aT bp.symm;have ck:bs=[]:=aT (by rw[X.1,←bp,ABV]);subst ck;have cx:0<ys.length:=by
      cases ys with
      | nil=>simp at bm
      | cons _ _=>simp
     rw[cu];rw[cr]at an ⊢;obtain⟨z,w',Y,G,B⟩:=Pm (ty:=ty) hT bd bb bc (xs:=([]:List e.den)) (a:=a0) (Ql w (own O0 σ ρ) e a0 0) ag cx an;refine⟨z,w',Y,⟨G.1,G.2.imp (fun h=>h) fun⟨g,cap,ap,e,_,r⟩=>⟨g,cap,ap,e,IS _,r⟩⟩,B,by simpa using ag.max,.inr fun b f=>?_⟩;rcases G.2 with ⟨h1,_⟩|⟨g,cap,ap,h1,l,_⟩
     ·rw[h1]at f;simp[blk]at f
     ·rw[h1]at f;simp[blk]at f;omega
   have ak:∀b,bk (ρ n) b↔blk o=some b∨∃(j:Nat) (u:Value),ins[j]?=some u∧blk u=some b:=fun b=>by rw[M];exact Az
   have dg:i<ins.length:=(No.1 H).1;have ba:n≠d:=fun p=>by rw[p,al]at hn;cases hn
   generalize ax:(Value.tuple (o :: ins.set i (.slice none 0 0)).toArray)=loc;have R:Dr (Dr ρ n loc) d z n=loc:=by simp[Dr,ba]
   have Q:Dr (Dr ρ n loc) d z d=z:=BU _ _ _;have ah:∀m,m≠n→m≠d→Dr (Dr ρ n loc) d z m=ρ m:=fun m h1 l=>by simp[Dr,h1,l]
   generalize Dr (Dr ρ n loc) d z=ρ' at R Q ah;have af:∀(j:Nat) (u:Value),(ins.set i (.slice none 0 0))[j]?=some u→(j=i∧u=.slice none 0 0)∨(j≠i∧ins[j]?=some u):=by
    intro j u F;rw[AAp]at F;split at F
    ·rename_i p;have F:(some (Value.slice none 0 0))=some u:=by
      first|exact F|(split at F<;>first|exact F|cases F)
     cases F;exact .inl ⟨p.symm,rfl⟩
    ·rename_i p;exact .inr ⟨fun ab=>p ab.symm,F⟩
   have bi:∀b,bk loc b→blk o=some b∨∃(j:Nat) (u:Value),j≠i∧ins[j]?=some u∧blk u=some b:=by
    intro b f;rw[←ax,Az]at f;rcases f with f|⟨j,u,F,f⟩
    ·exact .inl f
    ·rcases af j u F with ⟨_,rfl⟩|⟨h1,l⟩
     ·simp[blk]at f
     ·exact .inr ⟨j,u,h1,l,f⟩
   have aw:∀b,bk loc b→bk (ρ n) b:=fun b f=>(ak b).2 ((bi b f).imp id fun⟨j,u,_,h1,l⟩=>⟨j,u,h1,l⟩);have ae:∀b,blk aa=some b→bk (ρ n) b:=fun b f=>(ak b).2 (.inr ⟨i,_,H,f⟩);have bj:∀b,bk z b→blk z=some b:=fun b f=>by
    rcases G.2 with ⟨I,_⟩|⟨g,cap,ap,I,_⟩<;>rw[I]at f ⊢<;>exact KV.1 f
   have bg:∀b,bk z b→blk aa=some b∨w.heap.size≤b:=fun b f=>by
    rcases be with h1|h1
    ·exact .inl (by rw[←h1];exact bj b f)
    ·exact .inr (h1 b (bj b f))
   have ay:∀b,bk (ρ n) b→b<w.heap.size:=fun b f=>(hs.objs n _ hn).block_lt f;have cn:∀b,bk loc b→blk aa≠some b:=by
    intro b f I;rcases bi b f with h1|⟨j,u,h1,l,s⟩
    ·exact E.out i b _ H I h1
    ·exact h1 (E.dist j i b u _ l H s I)
   have bo:(row.2++ys).length=row.2.length+ys.length:=by simp
   let S:St:=⟨(d,.sr d e 0 (row.2.length+ys.length)) :: Dp n [] σ.env,(d,.arr el e (row.2++ys)) :: (n,.nest et el k e xs (some i)) :: CJ n [] σ.objs⟩
   have av:∀m C,lk m S.objs=some C→(m=d∧C=.arr el e (row.2++ys))∨(m=n∧m≠d∧C=.nest et el k e xs (some i))∨(m≠d∧m≠n∧∃A,lk m σ.objs=some A∧C=A.trn n []):=by
    intro m C q;simp only[S,lk]at q;split at q
    ·rename_i p;cases q;exact .inl ⟨p,rfl⟩
    ·rename_i p;split at q
     ·rename_i ab;cases q;exact .inr (.inl ⟨ab,p,rfl⟩)
     ·rename_i ab;rw[Cy]at q;split at q
      ·cases q
      ·simp only[IN]at q;obtain⟨A,h1,rfl⟩:=q;exact .inr (.inr ⟨p,ab,A,h1,rfl⟩)
   have bh:∀m,m≠d→m≠n→∀A,lk m σ.objs=some A→lk m S.objs=some (A.trn n []):=by
    intro m h1 l A s;simp only[S,lk,At h1,At l,Cy,s];simp[AU,l]
   have cp:∀b,b<w.heap.size→¬own O0 σ ρ b→¬own O0 S ρ' b:=by
    intro b f L cz;rcases cz with h0|⟨m,⟨C,co⟩,U⟩
    ·exact L (.inl h0)
    ·rcases av m C co with ⟨rfl,_⟩|⟨rfl,_,_⟩|⟨h1,l,A,s,_⟩
     ·rw[Q]at U;rcases bg b U with D|D
      ·exact L (.inr ⟨n,⟨_,hn⟩,ae b D⟩)
      ·omega
     ·rw[R]at U;exact L (.inr ⟨_,⟨_,hn⟩,aw b U⟩)
     ·rw[ah m l h1]at U;exact L (.inr ⟨m,⟨A,s⟩,U⟩)
   have cq:plc loc=o:=by rw[←ax];rfl
   have ai:Oa (vw w O0 σ ρ) (vw w' O0 S ρ') n []:=by
    refine⟨cp,fun m q _=>?_,fun m q _ am=>?_,⟨_,M⟩,?_,fun b f L=>B.block b f fun p=>L (.inr ⟨n,⟨_,hn⟩,ae b p.symm⟩)⟩
    ·obtain⟨A,h1⟩:=q;by_cases N:m=n
     ·subst N;exact⟨.nest et el k e xs (some i),by simp[S,lk,ba]⟩
     ·have J:m≠d:=fun p=>by rw[p,al]at h1;cases h1
      exact⟨_,bh m J N A h1⟩
    ·obtain⟨A,h1⟩:=q;exact ah m am (fun p=>by rw[p,al]at h1;cases h1)
    ·show plc (ρ' n)=plc (ρ n);rw[R,cq,M];rfl
   have W:B7 ⟨w,own O0 σ ρ,fun _=>False,ρ⟩ (vw w' O0 S ρ'):=⟨ai.O,fun _ h=>h.elim,fun _ h=>h.elim,ai.heap⟩;refine⟨z,w',ρ',Y,hs.swap ce cf (T:=fun m=>m=n) (fun m q=>by obtain rfl:m=n:=q;exact⟨cj,_,hn,by rw[M];exact .inr ⟨_,rfl⟩⟩) (new:=[(d,.arr el e (row.2++ys)),(n,.nest et el k e xs (some i))]) B.os B.tape B.output B.size ?_ ?_ ?_ ?_ ?_ ?_ ?_ ?_⟩
   ·exact fun b f L=>B.block b f fun p=>L n rfl (ae b p.symm)
   ·intro m C q bq;rcases av m C q with ⟨rfl,_⟩|⟨rfl,h1,_⟩|⟨h1,l,A,s,_⟩
    ·simp[lk]at bq
    ·simp[lk,h1]at bq
    ·exact⟨l,A,s⟩
   ·intro m A q am;have J:m≠d:=fun p=>by rw[p,al]at q;cases q
    exact⟨by simp[lk,J,am],_,bh m J am A q⟩
   ·intro m q;have J:m≠d:=fun p=>by simp[lk,p]at q
    have N:m≠n:=fun p=>by simp[lk,p,ba]at q
    exact ah m N J
   ·intro m C b q f;by_cases J:m=d
    ·rw[J,Q]at f;exact(bg b f).imp (fun D=>⟨n,rfl,ae b D⟩) id
    ·by_cases N:m=n
     ·rw[N,R]at f;exact .inl ⟨n,rfl,aw b f⟩
     ·simp[lk,J,N]at q
   ·have key:∀b,bk z b→bk loc b→False:=fun b h1 l=>by
     rcases bg b h1 with s|s
     ·exact cn b l s
     ·have:=ay b (aw b l);omega
    intro m ao C dj b q cm f aj;have h1:m=d∨m=n:=by
     by_cases h1:m=d
     ·exact .inl h1
     ·by_cases l:m=n
      ·exact .inr l
      ·simp[lk,h1,l]at q
    have l:ao=d∨ao=n:=by
     by_cases h1:ao=d
     ·exact .inl h1
     ·by_cases l:ao=n
      ·exact .inr l
      ·simp[lk,h1,l]at cm
    rcases h1 with rfl|rfl<;>rcases l with l|l
    ·exact l.symm
    ·rw[Q]at f;rw[l,R]at aj;exact(key b f aj).elim
    ·rw[R]at f;rw[l,Q]at aj;exact(key b aj f).elim
    ·exact l.symm
   ·intro m C q;rcases av m C q with ⟨rfl,rfl⟩|⟨rfl,_,rfl⟩|⟨h1,l,A,s,rfl⟩
    ·rw[Q];refine⟨by rw[bo];exact az,_,by rw[bo];exact G,?_⟩;exact DL.keeps W (JW ci ag.elems X.1)
    ·rw[R];refine⟨o,ins.set i (.slice none 0 0),cells,.inl ax.symm,E.max,by rw[AAw];exact E.len,IB (fun b f=>B.block b (ay b ((ak b).2 (.inl f))) fun p=>E.out i b _ H p.symm f) E.own,fun j dc u h1 l=>?_,?_,?_⟩
     ·rcases af j u l with ⟨rfl,rfl⟩|⟨s,D⟩
      ·rw[bn]at h1;cases h1;exact⟨c1,_,cg,Be.mono W.O W.heap cs,.inl ⟨by simp,rfl⟩⟩
      ·obtain⟨c2,bx,bz,ca,ar⟩:=E.row j dc u h1 D;rcases ar with ⟨ar,_⟩|⟨_,cb,cc⟩
       ·cases ar
       ·refine⟨c2,bx,bz,Be.mono W.O W.heap ca,.inr ⟨ABu.2 (fun p=>s (by injection p with p;exact p.symm)),cb,?_⟩⟩;exact MA.keeps (V:=⟨w,own O0 σ ρ,fun _=>False,ρ⟩) W (fun b f=>B.block b (ay b ((ak b).2 (.inr ⟨j,u,D,f⟩))) fun p=>s (E.dist j i b u _ D H f p.symm)) cc
     ·intro bt bu b bv bw h1 l s D;rcases af bt bv h1 with ⟨_,rfl⟩|⟨_,au⟩
      ·simp[blk]at s
      ·rcases af bu bw l with ⟨_,rfl⟩|⟨_,cd⟩
       ·simp[blk]at D
       ·exact E.dist bt bu b bv bw au cd s D
     ·intro j b u h1 l;rcases af j u h1 with ⟨_,rfl⟩|⟨_,au⟩
      ·simp[blk]at l
      ·exact E.out j b u au l
    ·rw[ah m l h1];refine cH ai (fun b f=>B.block b ((hs.objs m A s).block_lt f) fun p=>l (hs.dist m n b ⟨_,s⟩ ⟨_,hn⟩ f (ae b p.symm))) (hs.objs m A s)
   ·intro s2 bx Z;rw[JT a d z s2 (by rw[hs.nt];exact ch)];simp only[S,lk]at Z;split at Z
    ·rename_i aq;cases Z;rw[BY aq];refine⟨⟨.arr el e (row.2++ys),by simp[S,lk]⟩,?_⟩;show Cf (plc (ρ' d)) e.size 0 _ z;rw[Q,GT G];exact Eo G
    ·rename_i aq;rw[At aq];rw[Es]at Z;simp only[IN]at Z;obtain⟨dd,cy,rfl⟩:=Z;exact Vm ai (hs.env s2 dd cy)
  ·cases h
end
end
section
open Go Go.RowKit
theorem Vo {w:World} {et:TypeId} {sz len g m c:Nat} {cells:List Value} (h:w.ownsRow 0 et sz (.slice (some ⟨g,0,none⟩) m c) len cells) {p:Nat} (hp:p<len*sz) (v:Value) :
  ∃a:List Value,w.heap[g]?=some (.cells a.toArray et (0,0))∧p+1≤a.length∧(w.setRow g (Au a p [v]).toArray).ownsRow 0 et sz (.slice (some ⟨g,0,none⟩) m c) len (cells.set p v):=by
 obtain⟨u,n⟩:=h;rcases n with ⟨d,_⟩|⟨z,cap,a,d,A,k,f,q,i,x⟩
 ·cases d
 ·injection d with b r s
  injection b with b
  injection b with b
  subst b;have B:len*sz≤cap*sz:=oR _ f;have C:a.toList.length=cap*sz:=by rw[←i];simp
  have o:p + [v].length≤a.toList.length:=by simp only[oS];omega
  have t:w.heap[g]?=some (.cells a.toList.toArray et (0,0)):=by simpa using k
  have l:Au a.toList p [v]=a.toList.set p v:=by
   apply ABS;intro j;simp only[Au,AAy,AAh,OR,iN,AAe,oS,AAp];have y:min p a.toList.length=p:=by omega
   simp only[y];by_cases c1:j<p
   ·simp only[c1,AAv];rw[At (by omega)]
   ·by_cases c2:j=p
    ·subst c2;simp only[Nat.lt_irrefl,AAN,AB6,Nat.lt_one_iff,AAv];rw[BY (by omega)];rfl
    ·simp only[c1,AAN,show ¬j-p<1 by omega];rw[At (fun e=>c2 e.symm)]
     congr 1
     omega
  refine⟨a.toList,t,by simpa using o,?_,.inr ⟨g,cap,_,by rw[r,s],IS _,setRow_heap w g _ _ et _ k,f,q,?_,?_⟩⟩
  ·rw[AAw];exact u
  ·rw[l];simp[i]
  ·rw[l,←x];simp[List.take_set]
section
variable {P:Program} {tb:Tb} {w0:World} {K O0:Nat→Prop} {nt:Nat} {ds:Fp} {σ σ':St} {ρ:Nat→Value} {a:Act} {w:World} {vc:Prop}
theorem oT (hs:Bb w0 K O0 nt ds σ ρ a w) (bs:∀b,K b→b<w0.heap.size) (bt:∀b,O0 b→b<w0.heap.size) (hT:Cg P tb) {id:TypeId} {ti:TI} (cn:lk id tb.ty=some ti) {x y:Operand} {n m i hi:Nat} {k e:Ty} (co:ti.ty=.slice e) {dc:List Nat}
  (cq:AZ σ x=some (.ep n (.agg (.prod k (.slice e))) i dc k.size)) (cu:AZ σ y=some (.sr m e 0 hi)) {et B:TypeId} {xs:List (k.den×List e.den)} {ys:List e.den} (hn:lk n σ.objs=some (.nest et B k e xs (some i))) (H:lk m σ.objs=some (.arr B e ys))
  (bz:Fv n=false) (bx:Fv m=false) (cp:hi=ys.length) :
  ∃w' ρ',(Instr.storeAt id (a.eval x) (a.eval y)).run P w=.ok () w'∧Bb w0 K O0 nt ds ⟨Dp n [m] σ.env,(n,.nest et B k e (xs.set i ((xs.getD i (k.dflt,[])).1,ys)) none) :: CJ n [m] σ.objs⟩ ρ' a w':=by
 have bd:FK (vw w O0 σ ρ) σ a.eval:=DU hs.env;have ci:m≠n:=fun f=>by rw[f,hn]at H;cases H
 obtain⟨dg,g,bm,c,ar,ce,cs⟩:=bd x _ cq;obtain⟨dh,bn,da,bo,I,_,dj,de,df,cw,_,h0,_⟩:=bd y _ cu;obtain⟨o,ins,cells,bi,A⟩:=hs.objs n _ hn;have ba:MA (vw w O0 σ ρ) B e ys (ρ m):=hs.objs m _ H;have aq:=hs.objs m _ H;have I:plc (ρ m)=.slice bn da bo:=I;rw[Ms aq]at I;have cy:a.eval y=ρ m:=by
  obtain⟨rfl,rfl⟩:=h0 rfl;obtain⟨_,dk,bf,_⟩:=ba;rw[I]at bf;rw[cw,I,JU bf,cp,AC8]
 have ar:plc (ρ n)=.slice (some ⟨g,0,none⟩) bm c:=ar;have cj:o=.slice (some ⟨g,0,none⟩) bm c:=by rw[←bi.plc];exact ar
 subst cj;have cg:=JU A.own;subst cg;have R:i<xs.length:=ce;have ao:i<ins.length:=by rw[A.len];exact R
 have ak:ρ n=.tuple ((.slice (some ⟨g,0,none⟩) xs.length c) :: ins).toArray:=bi.resolve_right fun h=>by rw[h.2.2]at ao;simp at ao
 have hp:i*(k.size+1)+k.size<xs.length*(k.size+1):=by
  have:(i+1)*(k.size+1)≤xs.length*(k.size+1):=oR _ R;rw[AAH]at this;omega
 obtain⟨Y,ca,bv,aj⟩:=Vo A.own hp (ρ m);have cl:(ρ m).oneCell'=true:=by rw[I];rfl
 have ae:(a.eval y).cells=#[ρ m]:=by rw[cy,I];rfl
 have bh:=KZ (P:=P) (xv:=a.eval y) (hT _ _ cn) ca (off:=i*(k.size+1)+k.size) (by rw[ae,co];rfl) (by rw[ae];simpa using bv) (by rw[ae];intro u bl;simp at bl;subst bl;exact cl);rw[ae]at bh;refine⟨_,Dr ρ n (.tuple ((.slice (some ⟨g,0,none⟩) xs.length c) :: ins.set i (ρ m)).toArray),by rw[cs];exact bh,?_⟩;have G:=FA w g (Au Y (i*(k.size+1)+k.size) [ρ m]).toArray;change Bb w0 K O0 nt ds _ _ a (w.setRow g (Au Y (i*(k.size+1)+k.size) [ρ m]).toArray);have aj:(w.setRow g (Au Y (i*(k.size+1)+k.size) [ρ m]).toArray).ownsRow 0 et (k.size+1) (.slice (some ⟨g,0,none⟩) xs.length c) xs.length (cells.set (i*(k.size+1)+k.size) (ρ m)):=aj;generalize w.setRow g (Au Y (i*(k.size+1)+k.size) [ρ m]).toArray=w' at G aj;generalize ap:(Value.tuple ((.slice (some ⟨g,0,none⟩) xs.length c) :: ins.set i (ρ m)).toArray)=loc;have W:Dr ρ n loc n=loc:=BU _ _ _;have X:∀j,j≠n→Dr ρ n loc j=ρ j:=fun j h1=>by simp[Dr,h1]
 generalize Dr ρ n loc=ρ' at W X;have F:∀b,bk (ρ n) b↔blk (.slice (some ⟨g,0,none⟩) xs.length c)=some b∨∃(j:Nat) (u:Value),ins[j]?=some u∧blk u=some b:=fun b=>by rw[ak];exact Az
 have U:∀(j:Nat) (u:Value),(ins.set i (ρ m))[j]?=some u→(j=i∧u=ρ m)∨(j≠i∧ins[j]?=some u):=by
  intro j u d;rw[AAp]at d;split at d
  ·rename_i f;have d:(some (ρ m))=some u:=by
    first|exact d|(split at d<;>first|exact d|cases d)
   cases d;exact .inl ⟨f.symm,rfl⟩
  ·rename_i f;exact .inr ⟨fun al=>f al.symm,d⟩
 have ad:∀b,blk (ρ m)=some b→bk (ρ m) b:=fun b l=>.inl l;have bc:∀b,bk loc b→bk (ρ n) b∨blk (ρ m)=some b:=by
  intro b l;rw[←ap,Az]at l;rcases l with l|⟨j,u,d,l⟩
  ·exact .inl ((F b).2 (.inl l))
  ·rcases U j u d with ⟨_,rfl⟩|⟨_,r⟩
   ·exact .inr l
   ·exact .inl ((F b).2 (.inr ⟨j,u,r,l⟩))
 have af:∀b,bk (ρ n) b→blk (ρ m)=some b→False:=fun b h1 r=>ci (hs.dist m n b ⟨_,H⟩ ⟨_,hn⟩ (ad b r) h1);have ag:bk (ρ n) g:=(F g).2 (.inl rfl);have cd:∀b,bk (ρ n) b→b<w.heap.size:=fun b l=>(hs.objs n _ hn).block_lt l;have cf:∀b,blk (ρ m)=some b→b<w.heap.size:=fun b l=>aq.block_lt (ad b l)
 let S:St:=⟨Dp n [m] σ.env,(n,.nest et B k e (xs.set i ((xs.getD i (k.dflt,[])).1,ys)) none) :: CJ n [m] σ.objs⟩
 have an:∀j t,lk j S.objs=some t→(j=n∧t=.nest et B k e (xs.set i ((xs.getD i (k.dflt,[])).1,ys)) none)∨(j≠n∧j≠m∧∃s,lk j σ.objs=some s∧t=s.trn n [m]):=by
  intro j t d;simp only[S,lk]at d;split at d
  ·rename_i f;cases d;exact .inl ⟨f,rfl⟩
  ·rename_i f;rw[Cy]at d;split at d
   ·cases d
   ·rename_i al;simp only[IN]at d;obtain⟨s,h1,rfl⟩:=d;exact .inr ⟨f,fun bp=>al (by simp[AU,bp]),s,h1,rfl⟩
 have bb:∀j,j≠n→j≠m→∀s,lk j σ.objs=some s→lk j S.objs=some (s.trn n [m]):=by
  intro j h1 r s p;simp only[S,lk,At h1,Cy,p];simp[AU,h1,r]
 have cm:∀b,b<w.heap.size→¬own O0 σ ρ b→¬own O0 S ρ' b:=by
  intro b l C cx;rcases cx with h0|⟨j,⟨t,ck⟩,ab⟩
  ·exact C (.inl h0)
  ·rcases an j t ck with ⟨rfl,_⟩|⟨h1,r,s,p,_⟩
   ·rw[W]at ab;rcases bc b ab with v|v
    ·exact C (.inr ⟨_,⟨_,hn⟩,v⟩)
    ·exact C (.inr ⟨m,⟨_,H⟩,ad b v⟩)
   ·rw[X j h1]at ab;exact C (.inr ⟨j,⟨s,p⟩,ab⟩)
 have aa:Oa (vw w O0 σ ρ) (vw w' O0 S ρ') n [m]:=by
  refine⟨cm,fun j d cc=>?_,fun j _ _ M=>X j M,⟨_,ak⟩,?_,fun b l C=>G.block b l fun f=>?_⟩
  ·obtain⟨s,h1⟩:=d;by_cases be:j=n
   ·exact⟨.nest et B k e (xs.set i ((xs.getD i (k.dflt,[])).1,ys)) none,by simp[S,lk,be]⟩
   ·exact⟨_,bb j be (fun f=>by simp[AU,f]at cc) s h1⟩
  ·show plc (ρ' n)=plc (ρ n);rw[W,←ap,ak];rfl
  ·injection f with f
   subst f;exact C (.inr ⟨n,⟨_,hn⟩,ag⟩)
 have L:B7 ⟨w,own O0 σ ρ,fun _=>False,ρ⟩ (vw w' O0 S ρ'):=⟨aa.O,fun _ h=>h.elim,fun _ h=>h.elim,aa.heap⟩;have ah:∀b,b<w.heap.size→b≠g→w'.heap[b]?=w.heap[b]?:=fun b h1 r=>G.block b h1 fun f=>r (by injection f);refine hs.swap bs bt (T:=fun j=>j=n∨j=m) (dst:=none) (u:=undef) (fun j d=>?_) (new:=[(n,.nest et B k e (xs.set i ((xs.getD i (k.dflt,[])).1,ys)) none)]) G.os G.tape G.output G.size ?_ ?_ ?_ ?_ ?_ ?_ ?_ ?_
 ·rcases d with rfl|rfl
  ·exact⟨bz,_,hn,by rw[ak];exact .inr ⟨_,rfl⟩⟩
  ·exact⟨bx,_,H,XF aq⟩
 ·exact fun b l C=>ah b l fun f=>C n (.inl rfl) (by rw[f];exact ag)
 ·intro j t d ch;rcases an j t d with ⟨rfl,_⟩|⟨h1,r,s,p,_⟩
  ·simp[lk]at ch
  ·exact⟨fun h=>h.elim h1 r,s,p⟩
 ·intro j s d M;have h1:j≠n:=fun f=>M (.inl f);have r:j≠m:=fun f=>M (.inr f);exact⟨by simp[lk,h1],_,bb j h1 r s d⟩
 ·intro j d;exact X j fun f=>by simp[lk,f]at d
 ·intro j t b d l;have h1:j=n:=by
   by_cases h1:j=n
   ·exact h1
   ·simp[lk,h1]at d
  rw[h1,W]at l;exact .inl ((bc b l).elim (fun h=>⟨n,.inl rfl,h⟩) fun h=>⟨m,.inr rfl,ad b h⟩)
 ·intro j cz t db b d cb _ _;have key:∀j t,lk j [(n,Obj.nest et B k e (xs.set i ((xs.getD i (k.dflt,[])).1,ys)) none)]=some t→j=n:=fun j t d=>by
   by_cases h1:j=n
   ·exact h1
   ·simp[lk,h1]at d
  rw[key j t d,key cz db cb]
 ·intro j t d;rcases an j t d with ⟨rfl,rfl⟩|⟨h1,r,s,p,rfl⟩
  ·rw[W];have bu:cells.length=xs.length*(k.size+1):=A.own.1;refine⟨_,ins.set i (ρ m),cells.set (i*(k.size+1)+k.size) (ρ m),.inl ap.symm,by rw[AAw];exact A.max,by rw[AAw,AAw];exact A.len,by rw[AAw];exact aj,fun j az u h1 r=>?_,?_,?_⟩
   ·have bw:∀(c2:List Value) (E:Value),j≠i→c2.length=k.size→(∀(q:Nat) (z:Value),(c2++[E])[q]?=some z→cells[j*(k.size+1)+q]?=some z)→∀(q:Nat) (z:Value),(c2++[E])[q]?=some z→(cells.set (i*(k.size+1)+k.size) (ρ m))[j*(k.size+1)+q]?=some z:=by
     intro c2 E di ai N q z D;have au:=(No.1 D).1;simp only[On,oS,ai]at au;have M:i*(k.size+1)+k.size≠j*(k.size+1)+q:=by
      intro f;rcases Nat.lt_or_ge i j with p|p
      ·have:(i+1)*(k.size+1)≤j*(k.size+1):=oR _ p;rw[AAH]at this;omega
      ·have:(j+1)*(k.size+1)≤i*(k.size+1):=oR _ (by omega);rw[AAH]at this;omega
     rw[AAp,At M];exact N q z D
    rcases U j u r with ⟨rfl,rfl⟩|⟨p,v⟩
    ·have ct:xs[j]?=some (xs.getD j (k.dflt,[])):=by
      rw[AT R,AS,AT R];rfl
     obtain⟨c2,E,N,Q,_⟩:=A.row j _ ins[j] ct (AT ao);have cr:az=((xs.getD j (k.dflt,[])).1,ys):=by
      rw[List.getElem?_set_self R]at h1;exact(ACw h1).symm
     subst cr;have ai:c2.length=k.size:=Q.length;refine⟨c2,ρ m,fun q z D=>?_,Be.mono L.O L.heap Q,.inr ⟨rfl,.inl rfl,?_⟩⟩
     ·have au:=(No.1 D).1;simp only[On,oS,ai]at au;rw[AAp];by_cases bg:q=k.size
      ·rw[bg,BY rfl,BY (by rw[bu];exact hp)];rw[bg,←ai,AA5 (If _),AB6]at D;exact D
      ·rw[At (by omega)];refine N q z ?_;rw[AA2 (by omega)]at D ⊢;exact D
     ·exact MA.keeps (V:=⟨w,own O0 σ ρ,fun _=>False,ρ⟩) L (fun b l=>ah b (cf b l) fun f=>af b (by rw[f];exact ag) l) ba
    ·have h1:xs[j]?=some az:=by
      rw[AAp,At (fun f=>p f.symm)]at h1;exact h1
     obtain⟨c2,E,N,Q,am⟩:=A.row j az u h1 v;rcases am with ⟨am,_⟩|⟨_,bq,br⟩
     ·exact absurd (by simpa using am) (fun f:i=j=>p f.symm)
     ·refine⟨c2,E,bw c2 E p Q.length N,Be.mono L.O L.heap Q,.inr ⟨rfl,bq,?_⟩⟩;exact MA.keeps (V:=⟨w,own O0 σ ρ,fun _=>False,ρ⟩) L (fun b l=>ah b (cd b ((F b).2 (.inr ⟨j,u,v,l⟩))) fun f=>A.out j b u v l (by rw[f];rfl)) br
   ·intro av aw b ax ay h1 r p v;rcases U av ax h1 with ⟨J,rfl⟩|⟨_,J⟩<;>rcases U aw ay r with ⟨Z,rfl⟩|⟨_,Z⟩
    ·rw[J,Z]
    ·exact(af b ((F b).2 (.inr ⟨aw,ay,Z,v⟩)) p).elim
    ·exact(af b ((F b).2 (.inr ⟨av,ax,J,p⟩)) v).elim
    ·exact A.dist av aw b ax ay J Z p v
   ·intro j b u h1 r p;rcases U j u h1 with ⟨_,rfl⟩|⟨_,J⟩
    ·exact af b ((F b).2 (.inl p)) r
    ·exact A.out j b u J r p
  ·rw[X j h1];refine cH aa (fun b l=>ah b ((hs.objs j s p).block_lt l) fun f=>h1 (hs.dist j n b ⟨_,p⟩ ⟨_,hn⟩ l (by rw[f];exact ag))) (hs.objs j s p)
 ·intro s2 E bj;simp only[Es,IN]at bj;obtain⟨dd,cv,rfl⟩:=bj;exact Vm aa (hs.env s2 dd cv)
end
end
section
open Go Go.RowKit
section
variable {P:Program} {tb:Tb} {w0:World} {K O0:Nat→Prop} {nt:Nat} {ds:Fp} {σ σ':St} {ρ:Nat→Value} {a:Act} {w:World} {vc:Prop}
theorem Bb.swap1 (h:Bb w0 K O0 nt ds σ ρ a w) (Q:∀b,K b→b<w0.heap.size) (R:∀b,O0 b→b<w0.heap.size) {tl:List Nat} (hT:∀n,n∈tl→Fv n=false∧∃o,lk n σ.objs=some o∧seat (ρ n))
  {f:Nat} (aa:f∈tl∨lk f σ.objs=none) {l:Obj} {loc:Value} {w':World}
  (ae:w'.os=w.os) (ai:w'.tape=w.tape) (af:w'.output=w.output) (ag:w.heap.size≤w'.heap.size)
  (F:∀b,b<w.heap.size→(∀n,n∈tl→¬bk (ρ n) b)→w'.heap[b]?=w.heap[b]?)
  (M:∀b,bk loc b→(∃m,m∈tl∧bk (ρ m) b)∨w.heap.size≤b)
  (ad:∀V':Vw,V'.w=w'→B7 ⟨w,own O0 σ ρ,fun _=>False,ρ⟩ V'→Aw V' l loc)
  {d:Nat} (V:d<nt) {v:AV} {u:Value} (U:∀V':Vw,V'.L f→V'.ρ f=loc→Bm V' v u) :
  Bb w0 K O0 nt ds ⟨(d,v) :: Ba tl σ.env,(f,l) :: Ab tl tl σ.objs⟩ (Dr ρ f loc) (a.put (some d) u) w':=by
 let S:St:=⟨(d,v) :: Ba tl σ.env,(f,l) :: Ab tl tl σ.objs⟩
 have D:∀m o,lk m S.objs=some o→(m=f∧o=l)∨(m≠f∧m∉tl∧∃c,lk m σ.objs=some c∧o=c.fgt tl):=by
  intro m o e;simp only[S,lk]at e;split at e
  ·rename_i p;cases e;exact .inl ⟨p,rfl⟩
  ·rename_i p;rw[BR]at e;split at e
   ·cases e
   ·rename_i P;simp only[IN]at e;obtain⟨c,h1,rfl⟩:=e;exact .inr ⟨p,fun h=>P ((AW _ _).2 h),c,h1,rfl⟩
 have I:∀m,m≠f→m∉tl→∀c,lk m σ.objs=some c→lk m S.objs=some (c.fgt tl):=by
  intro m h1 i c g;simp only[S,lk,At h1,BR,g];rw[At fun h=>i ((AW _ _).1 h)];rfl
 have G:∀m,m∉tl→(∃o,lk m σ.objs=some o)→m≠f:=by
  rintro m h1 ⟨o,i⟩ rfl;rcases aa with g|g
  ·exact h1 g
  ·rw[g]at i;cases i
 have z:Dr ρ f loc f=loc:=BU _ _ _;have A:∀m,m≠f→Dr ρ f loc m=ρ m:=fun m h1=>by simp[Dr,h1]
 generalize Dr ρ f loc=ρ' at z A;have O:∀b,b<w.heap.size→¬own O0 σ ρ b→¬own O0 S ρ' b:=by
  intro b k r ak;rcases ak with h0|⟨m,⟨o,ab⟩,B⟩
  ·exact r (.inl h0)
  ·rcases D m o ab with ⟨rfl,_⟩|⟨h1,i,c,g,_⟩
   ·rw[z]at B;rcases M b B with ⟨t,ah,H⟩|H
    ·obtain⟨_,c,q,_⟩:=hT t ah;exact r (.inr ⟨t,⟨c,q⟩,H⟩)
    ·omega
   ·rw[A m h1]at B;exact r (.inr ⟨m,⟨c,g⟩,B⟩)
 have J:∀b,b<w.heap.size→¬own O0 σ ρ b→w'.heap[b]?=w.heap[b]?:=fun b k r=>F b k fun n hn E=>by
  obtain⟨_,c,q,_⟩:=hT n hn;exact r (.inr ⟨n,⟨c,q⟩,E⟩)
 have X:B7 ⟨w,own O0 σ ρ,fun _=>False,ρ⟩ (vw w' O0 S ρ'):=⟨O,fun _ h=>h.elim,fun _ h=>h.elim,J⟩;have hk:B7 ((vw w O0 σ ρ).buts tl) (vw w' O0 S ρ'):=by
  refine⟨O,fun m e=>?_,fun m e=>?_,J⟩
  ·obtain⟨⟨c,h1⟩,i⟩:=e;have g:m∉tl:=fun h=>by rw[(AW _ _).2 h]at i;cases i
   exact⟨_,I m (G m g ⟨c,h1⟩) g c h1⟩
  ·obtain⟨⟨c,h1⟩,i⟩:=e;have g:m∉tl:=fun h=>by rw[(AW _ _).2 h]at i;cases i
   exact A m (G m g ⟨c,h1⟩)
 refine h.swap Q R (T:=fun m=>m∈tl) hT (new:=[(f,l)]) ae ai af ag F ?_ ?_ ?_ ?_ ?_ ?_ ?_
 ·intro m o e Z;rcases D m o e with ⟨rfl,_⟩|⟨h1,i,c,g,_⟩
  ·simp[lk]at Z
  ·exact⟨i,c,g⟩
 ·intro m c e N;have h1:=G m N ⟨c,e⟩;exact⟨by simp[lk,h1],_,I m h1 N c e⟩
 ·intro m e;exact A m fun p=>by simp[lk,p]at e
 ·intro m o b e k;have h1:m=f:=by
   by_cases h1:m=f
   ·exact h1
   ·simp[lk,h1]at e
  rw[h1,z]at k;exact M b k
 ·intro m al o am b e Y _ _;have key:∀j o,lk j [(f,l)]=some o→j=f:=fun j o W=>by
   by_cases h1:j=f
   ·exact h1
   ·simp[lk,h1]at W
  rw[key m o e,key al am Y]
 ·intro m o e;rcases D m o e with ⟨rfl,rfl⟩|⟨h1,i,c,g,rfl⟩
  ·rw[z];exact ad _ rfl X
  ·rw[A m h1];refine Qn hk (fun b k=>F b ((h.objs m c g).block_lt k) fun n hn E=>?_) (h.objs m c g);obtain⟨_,an,q,_⟩:=hT n hn;exact i ((h.dist m n b ⟨_,g⟩ ⟨_,q⟩ k E)▸hn)
 ·intro s x hs;rw[JT a d u s (by rw[h.nt];exact V)];simp only[S,lk]at hs;split at hs
  ·rename_i C;cases hs;rw[BY C];exact U _ ⟨l,by simp[S,lk]⟩ z
  ·rename_i C;rw[At C];rw[Dl]at hs;simp only[IN]at hs;obtain⟨y,aj,rfl⟩:=hs;exact(M0 (h.env s y aj)).keeps hk
theorem Va.move {V:Vw} {a:TypeId} {k e:Ty} {hole:Bool} {cells cells':List Value} {i i':Nat} {x:k.den×List e.den} {u:Value} (h:Va V a k e hole cells i x u)
  (c:∀(j:Nat) (z:Value),cells[i*(k.size+1)+j]?=some z→cells'[i'*(k.size+1)+j]?=some z):Va V a k e hole cells' i' x u :=
 let ⟨c1,v,h1,b⟩:=h
 ⟨c1,v,fun j z d=>c j z (h1 j z d),b⟩
theorem Tz {V V':Vw} {et J B:TypeId} {k e:Ty} {xs ys:List (k.den×List e.den)} {o I z:Value} {ins g cells p:List Value} (h1:J3 V et B k e xs none o ins cells) (r:J3 V J B k e ys none I g p)
  (y:∀b,bk (.tuple (o :: ins).toArray) b→bk (.tuple (I :: g).toArray) b→False)
  (N:V'.w.ownsRow 0 et (k.size+1) z (xs.length+ys.length) (cells++p)) (P:blk z=blk o∨∀b,blk z=some b→V.w.heap.size≤b)
  (C:∀b,b<V.w.heap.size→blk o≠some b→V'.w.heap[b]?=V.w.heap[b]?) (hk:B7 ⟨V.w,V.O,fun _=>False,V.ρ⟩ V') (L:xs.length+ys.length≤AO) :
  J3 V' et B k e (xs++ys) none z (ins++g) (cells++p):=by
 have K:cells.length=xs.length*(k.size+1):=h1.own.1;have D:∀(i b:Nat) (u:Value),ins[i]?=some u→blk u=some b→b<V.w.heap.size:=fun i b u hi c=>h1.block_lt (Az.2 (.inr ⟨i,u,hi,c⟩));have E:∀(i b:Nat) (u:Value),g[i]?=some u→blk u=some b→b<V.w.heap.size:=fun i b u hi c=>r.block_lt (Az.2 (.inr ⟨i,u,hi,c⟩));have G:∀(i b:Nat) (u:Value),g[i]?=some u→blk u=some b→blk o≠some b:=fun i b u hi c M=>y b (Az.2 (.inl M)) (Az.2 (.inr ⟨i,u,hi,c⟩));have s:∀(i:Nat) (u:Value),(ins++g)[i]?=some u→(i<xs.length∧ins[i]?=some u)∨(xs.length≤i∧g[i-xs.length]?=some u):=by
  intro i u hi;rw[AAh]at hi;split at hi
  ·rename_i h;rw[h1.len]at h;exact .inl ⟨h,hi⟩
  ·rename_i h;rw[h1.len]at h hi;exact .inr ⟨by omega,hi⟩
 have F:∀b,blk z=some b→(∃(i:Nat) (u:Value),ins[i]?=some u∧blk u=some b)∨(∃(i:Nat) (u:Value),g[i]?=some u∧blk u=some b)→False:=by
  intro b c hi;rcases P with d|d
  ·rw[d]at c;rcases hi with ⟨i,u,a,f⟩|⟨i,u,a,f⟩
   ·exact h1.out i b u a f c
   ·exact G i b u a f c
  ·have:=d b c;rcases hi with ⟨i,u,a,f⟩|⟨i,u,a,f⟩
   ·have:=D i b u a f;omega
   ·have:=E i b u a f;omega
 refine⟨by rw[On];exact L,by rw[On,On,h1.len,r.len],by rw[On];exact N,fun i x u n m=>?_,fun i j b u v hi l m t=>?_,fun i b u hi c H=>?_⟩
 ·rcases s i u m with ⟨d,a⟩|⟨d,a⟩
  ·have n:xs[i]?=some x:=by rwa [AA2 d]at n
   have A:=(h1.row i x u n a).move (cells':=cells++p) (i':=i) fun j z l=>by
    rw[AA2 (No.1 l).1];exact l
   exact Va.keeps (V:=⟨V.w,V.O,fun _=>False,V.ρ⟩) hk (fun b c=>C b (D i b u a c) (h1.out i b u a c)) A
  ·have n:ys[i-xs.length]?=some x:=by rwa [AA5 d]at n
   have A:=(r.row _ x u n a).move (cells':=cells++p) (i':=i) fun j z l=>by
    have f:i*(k.size+1)=cells.length+(i-xs.length)*(k.size+1):=by
     rw[K,←ABF];congr 1;omega
    rw[AA5 (by omega),f,←l]
    congr 1
    omega
   exact Va.keeps (V:=⟨V.w,V.O,fun _=>False,V.ρ⟩) hk (fun b c=>C b (E _ b u a c) (G _ b u a c)) A
 ·rcases s i u hi with ⟨d,a⟩|⟨d,a⟩<;>rcases s j v l with ⟨f,q⟩|⟨f,q⟩
  ·exact h1.dist i j b u v a q m t
  ·exact(y b (Az.2 (.inr ⟨i,u,a,m⟩)) (Az.2 (.inr ⟨_,v,q,t⟩))).elim
  ·exact(y b (Az.2 (.inr ⟨j,v,q,t⟩)) (Az.2 (.inr ⟨_,u,a,m⟩))).elim
  ·have:=r.dist _ _ b u v a q m t;omega
 ·rcases s i u hi with ⟨d,a⟩|⟨d,a⟩
  ·exact F b H (.inl ⟨i,u,a,c⟩)
  ·exact F b H (.inr ⟨_,u,a,c⟩)
theorem oU (V:Vw) (et a:TypeId) (k e:Ty):J3 V et a k e [] none (.slice none 0 0) [] [] :=
 ⟨by simp[AO],rfl,ABs V.w 0 et _,fun i x u h=>by simp at h,fun i j b u v h=>by simp at h,fun i b u h=>by simp at h⟩
theorem Hn {w:World} {base:Nat} {et:TypeId} {sz d n:Nat} {loc v:Value} {cells:List Value} (b:w.ownsRow base et sz loc n cells) (h:Cf loc d 0 n v):v=loc:=by
 obtain⟨a,m,c,rfl,_,_,e,f,rfl,_,h0,_⟩:=h;obtain⟨rfl,rfl⟩:=h0 rfl;rw[JU b,AC8]
theorem u9 {w:World} {O:Nat→Prop} {et:TypeId} {e:Ty} {xs:List e.den} {loc:Value} {cells:List Value} (d:xs.length≤AO) (a:w.ownsRow 0 et e.size loc xs.length cells) (c:DL w O e cells xs):t8 w O e loc xs cells:=by
 refine⟨?_,a.1,c,Tt (V:=⟨w,O,fun _=>False,fun _=>undef⟩) a c,d⟩;rcases a.2 with ⟨b,hn⟩|⟨g,cap,f,b,_⟩
 ·exact⟨none,0,by rw[b,hn],.inl (aT hn)⟩
 ·subst b;exact⟨some ⟨g,0,none⟩,cap,rfl,.inr ⟨_,rfl,a.cells (g:=g) rfl⟩⟩
theorem M5 {V:Vw} {et a:TypeId} {k e:Ty} {xs:List (k.den×List e.den)} {o:Value} {ins cells:List Value} (h:J3 V et a k e xs none o ins cells):t8 V.w (fun _=>False) (.agg (.prod k (.slice e))) o xs cells :=
 u9 (e:=.agg (.prod k (.slice e))) (xs:=xs) h.max h.own (MD (fun _ _ h=>h) h fun _ _ _ _ _ h=>h)
theorem Ob {V:Vw} {et c:TypeId} {k e:Ty} {xs:List (k.den×List e.den)} {a:Option Nat} {loc:Value} (b:Aw V (.nest et c k e xs a) loc):seat loc:=by
 obtain⟨o,ins,cells,a,_⟩:=b;exact a.elim (fun h=>.inr ⟨_,h⟩) (fun h=>.inl ⟨_,_,_,h.1⟩)
theorem oV (hs:Bb w0 K O0 nt ds σ ρ a w) (V:∀b,K b→b<w0.heap.size) (X:∀b,O0 b→b<w0.heap.size) (hT:Cg P tb) {d:Nat} (Y:d<nt) {t ty:TypeId} {x y:Operand} {n m hi D:Nat} {E B:Ty} {k e:Ty}
  (f:AZ σ x=some (.sr n E 0 hi)) (g:AZ σ y=some (.sr m B 0 D)) {et T A:TypeId} {xs ys:List (k.den×List e.den)} (hn:lk n σ.objs=some (.nest et A k e xs none)) (s:lk m σ.objs=some (.nest T A k e ys none)) (ae:n≠m)
  (aa:Fv n=false) (Z:Fv m=false) (N:P.underlying t=some (.slice et)) {te:TI} (L:lk et tb.ty=some te) (M:te.ty=.agg (.prod k (.slice e))) (ai:hi=xs.length) (aj:D=ys.length) (O:(xs.length+ys.length)*te.bytes≤AO) :
  ∃z w' ρ',(Builtin.append_ #[t,t] ty #[a.eval x,a.eval y]).run P w=.ok z w' ∧
   Bb w0 K O0 nt ds ⟨(d,.sr n (.agg (.prod k (.slice e))) 0 (xs.length+ys.length)) :: Ba [n,m] σ.env,(n,.nest et A k e (xs++ys) none) :: Ab [n,m] [n,m] σ.objs⟩ ρ' (a.put (some d) z) w':=by
 subst ai aj;have C:FK (vw w O0 σ ρ) σ a.eval:=DU hs.env;have G:=hs.objs n _ hn;have H:=hs.objs m _ s;have ag:=Ob G;have ah:=Ob H;obtain⟨o,ins,cells,p,l⟩:=G;obtain⟨am,R,S,v,q⟩:=H;obtain⟨_,f⟩:=C x _ f;obtain⟨_,g⟩:=C y _ g;have f:Cf (plc (ρ n)) E.size 0 xs.length (a.eval x):=f;have g:Cf (plc (ρ m)) B.size 0 ys.length (a.eval y):=g;rw[p.plc]at f;rw[v.plc]at g;have f:=Hn l.own f;have g:=Hn q.own g;rw[f,g];obtain⟨z,w',J,I,h,ab⟩:=FY (ty:=ty) hT N L M l.own (M5 q) O (IS _);have Q:=GU (ty:=ty) hT N L M l.own (M5 q) O J;rw[Qo l.own]at h;refine⟨z,w',_,J,hs.swap1 (loc:=.tuple (z :: (ins++R)).toArray) V X (tl:=[n,m]) (fun j F=>?_) (.inl (by simp)) h.os h.tape h.output h.size ?_ ?_ ?_ Y ?_⟩
 ·simp only[Do,List.not_mem_nil,or_false]at F;rcases F with rfl|rfl
  ·exact⟨aa,_,hn,ag⟩
  ·exact⟨Z,_,s,ah⟩
 ·exact fun b c af=>h.block b c fun r=>af n (by simp) (p.bk.2 (Az.2 (.inl r.symm)))
 ·intro b c;rcases Az.1 c with c|⟨i,u,hi,c⟩
  ·rcases Q with h1|h1
   ·exact .inl ⟨n,by simp,p.bk.2 (Az.2 (.inl (by rw[←h1];exact c)))⟩
   ·exact .inr (h1 b c)
  ·rw[AAh]at hi;split at hi
   ·exact .inl ⟨n,by simp,p.bk.2 (Az.2 (.inr ⟨_,u,hi,c⟩))⟩
   ·exact .inl ⟨m,by simp,v.bk.2 (Az.2 (.inr ⟨_,u,hi,c⟩))⟩
 ·intro V' ak hk;subst ak;refine⟨z,ins++R,cells++S,.inl rfl,Tz l q (fun b h1 U=>?_) I Q (fun b c ad=>h.block b c fun r=>ad r.symm) hk ab⟩;exact ae (hs.dist n m b ⟨_,hn⟩ ⟨_,s⟩ (p.bk.2 h1) (v.bk.2 U))
 ·intro V' W al;refine⟨W,?_⟩;show Cf (plc (V'.ρ n)) _ 0 _ z;rw[al];exact Eo I
theorem vA (hs:Bb w0 K O0 nt ds σ ρ a w) (Q:∀b,K b→b<w0.heap.size) (S:∀b,O0 b→b<w0.heap.size) (hT:Cg P tb) {d:Nat} (T:d<nt) {t ty:TypeId} {x y:Operand} {m v:Nat} {q:Ty} {k e:Ty}
  (o:AZ σ x=some (.raw (.slice none 0 0))) (f:AZ σ y=some (.sr m q 0 v)) {et O p:TypeId} {ys:List (k.den×List e.den)} (B:lk m σ.objs=some (.nest O p k e ys none)) (U:lk d σ.objs=none)
  (V:Fv m=false) (I:P.underlying t=some (.slice et)) {te:TI} (G:lk et tb.ty=some te) (H:te.ty=.agg (.prod k (.slice e))) (Z:v=ys.length) (J:ys.length*te.bytes≤AO) :
  ∃z w' ρ',(Builtin.append_ #[t,t] ty #[a.eval x,a.eval y]).run P w=.ok z w' ∧
   Bb w0 K O0 nt ds ⟨(d,.sr d (.agg (.prod k (.slice e))) 0 ys.length) :: Ba [m] σ.env,(d,.nest et p k e ys none) :: Ab [m] [m] σ.objs⟩ ρ' (a.put (some d) z) w':=by
 subst Z;have s:FK (vw w O0 σ ρ) σ a.eval:=DU hs.env;have C:=hs.objs m _ B;have Y:=Ob C;obtain⟨af,M,N,F,l⟩:=C;have o:a.eval x=.slice none 0 0:=s x _ o;obtain⟨_,f⟩:=s y _ f;have f:Cf (plc (ρ m)) q.size 0 ys.length (a.eval y):=f;rw[F.plc]at f;have f:=Hn l.own f;rw[o,f];have h:=oU (vw w O0 σ ρ) et p k e;obtain⟨z,w',E,D,g,W⟩:=FY (ty:=ty) hT I G H h.own (M5 l) (by simpa using J) (IS _);have L:=GU (ty:=ty) hT I G H h.own (M5 l) (by simpa using J) E;rw[Qo h.own]at g;refine⟨z,w',_,E,hs.swap1 (loc:=.tuple (z :: ([]++M)).toArray) Q S (tl:=[m]) (fun j A=>?_) (.inr U) g.os g.tape g.output g.size ?_ ?_ ?_ T ?_⟩
 ·simp only[Do,List.not_mem_nil,or_false]at A;subst A;exact⟨V,_,B,Y⟩
 ·exact fun b c ae=>g.block b c fun n=>by simp[blk]at n
 ·intro b c;rcases Az.1 c with c|⟨i,u,hi,c⟩
  ·rcases L with h1|h1
   ·rw[h1]at c;simp[blk]at c
   ·exact .inr (h1 b c)
  ·exact .inl ⟨m,by simp,F.bk.2 (Az.2 (.inr ⟨_,u,by simpa using hi,c⟩))⟩
 ·intro V' aa hk;subst aa;refine⟨z,[]++M,[]++N,.inl rfl,?_⟩;have:=Tz h l (fun b h1 ad=>?_) D L (fun b c X=>g.block b c fun n=>X n.symm) hk W
  ·simpa using this
  ·rw[Az]at h1;simp[blk]at h1
 ·intro V' R ab;refine⟨R,?_⟩;show Cf (plc (V'.ρ d)) _ 0 _ z;rw[ab];have r:=Eo D;simp only[AAS,AAC]at r;exact r
theorem ZQ (hs:Bb w0 K O0 nt ds σ ρ a w) (A:∀b,K b→b<w0.heap.size) (B:∀b,O0 b→b<w0.heap.size) (hT:Cg P tb) {d:Option Nat} (C:∀k,d=some k→k<nt) {t u ty:TypeId} {x y:Operand}
  (h:Co tb σ d t u (AZ σ x) (AZ σ y)=some (vc,σ')) (r:vc) :
  ∃z w' ρ',(Builtin.append_ #[t,u] ty #[a.eval x,a.eval y]).run P w=.ok z w'∧Bb w0 K O0 nt ds σ' ρ' (a.put d z) w':=by
 by_cases N:∃n e hi,AZ σ x=some (.sr n e 0 hi)∧CR (lk n σ.objs)=false
 ·exact ZP hs A B hT C h r N
 unfold Co at h;split at h
 ·rename_i n e hi v j s;split at h
  ·rename_i d;split at h
   ·rename_i p;obtain⟨rfl,J⟩:=p;cases f:lk t tb.ty with
    | none=>rw[f]at h;simp[D8]at h
    | some ti =>
     rw[f]at h;unfold D8 at h;split at h
     ·rename_i R offs el b G;cases G;split at h
      ·rename_i H;subst H;obtain⟨q,O,te,g,o⟩:=B1 (hT _ _ f) hT;rw[g]at h;unfold CF at h;split at h
       ·rename_i ti et M xs h1 hn;exact absurd ⟨n,_,hi,j,by rw[hn];rfl⟩ N
       ·rename_i ti et Q k M xs h1 hn;cases h1;split at h
        ·rename_i c;obtain⟨rfl,rfl⟩:=c;unfold Ph at h;split at h
         ·rename_i m E W;unfold KT at h;split at h
          ·rename_i T ae ab S ys L;split at h
           ·rename_i c;obtain⟨rfl,X,I⟩:=c;cases F:BG (.slice (.agg (.prod k (.slice M)))) ⟨.slice (.agg (.prod ab (.slice S))),ys⟩ with
            | none=>rw[F]at h;simp[JQ]at h
            | some ag =>
             obtain⟨l,U⟩:=BX F;injection l with l
             injection l with l D
             injection D with D
             subst l D;cases U;rw[F]at h;simp only[JQ]at h;cases h;obtain⟨Y,Z,aa⟩:=r;exact oV hs A B hT (C _ rfl) j s hn L X J I q g o Y Z aa
           ·cases h
          ·cases h
         ·cases h
        ·cases h
       ·cases h
      ·cases h
     ·cases h
   ·cases h
  ·cases h
 ·rename_i n e i len v j s;split at h
  ·rename_i d;split at h
   ·rename_i p;subst p;cases f:lk t tb.ty with
    | none=>rw[f]at h;simp[Lw]at h
    | some ti =>
     rw[f]at h;unfold Lw at h;split at h
     ·rename_i R offs el b G;cases G;split at h
      ·rename_i H;subst H;obtain⟨q,O,te,g,o⟩:=B1 (hT _ _ f) hT;rw[g]at h;unfold Mo at h;split at h
       ·rename_i ti et Q k ad xs h1 hn;cases h1;split at h
        ·rename_i c;obtain⟨rfl,rfl,J⟩:=c;exact u7 hs A B hT (C _ rfl) j s hn J q g o h r
        ·cases h
       ·cases h
      ·cases h
     ·cases h
   ·cases h
  ·cases h
 ·rename_i v j s;split at h
  ·rename_i d;split at h
   ·rename_i p;subst p;unfold VZ at h;split at h
    ·rename_i m E W af offs el b f;obtain⟨q,O,te,g,o⟩:=B1 (hT _ _ f) hT;rw[g]at h;unfold Mq at h;split at h
     ·rename_i ti T Q k e ys h1 L;cases h1;split at h
      ·rename_i c;subst c;unfold Mp at h;split at h
       ·rename_i c;obtain⟨V,I⟩:=c;cases h;exact vA hs A B hT (C _ rfl) j s L (by simpa using V) I q g o r.1 r.2
       ·cases h
      ·cases h
     ·cases h
    ·cases h
   ·cases h
  ·cases h
 ·cases h
theorem ZR (hs:Bb w0 K O0 nt ds σ ρ a w) (o:∀b,K b→b<w0.heap.size) (B:∀b,O0 b→b<w0.heap.size) (hT:Cg P tb) {id:TypeId} {x y:Operand} (h:Gm σ (lk id tb.ty) (AZ σ x) (AZ σ y)=some (vc,σ')) (r:vc) :
  ∃w' ρ',(Instr.storeAt id (a.eval x) (a.eval y)).run P w=.ok () w'∧Bb w0 K O0 nt ds σ' ρ' a w':=by
 by_cases q:∃n e i g off,AZ σ x=some (.ep n e i g off)∧CR (lk n σ.objs)=true
 ·obtain⟨n,e,i,g,off,d,p⟩:=q;unfold Gm at h;split at h
  ·rename_i f _;rw[d]at f;cases f
  ·rename_i ti Q L i' S R v H f J;rw[d]at f;cases f;unfold DD at h;split at h
   ·rename_i hn;rw[hn]at p;cases p
   ·rename_i et N k M xs j hn;split at h
    ·rename_i m E hi;split at h
     ·rename_i c;obtain⟨rfl,rfl,A⟩:=c;subst A;unfold KU at h;split at h
      ·rename_i c;obtain⟨I,rfl,rfl⟩:=c;unfold KS at h;split at h
       ·rename_i O s ys G;split at h
        ·rename_i c;obtain⟨rfl,D,F⟩:=c;cases l:BG (.slice E) ⟨.slice s,ys⟩ with
         | none=>rw[l]at h;simp[JP]at h
         | some T =>
          obtain⟨t,u⟩:=BX l;subst t;cases u;rw[l]at h;simp only[JP]at h;cases h;exact oT hs o B hT H I d J hn G F D r
        ·cases h
       ·cases h
      ·cases h
     ·cases h
    ·cases h
   ·cases h
  ·cases h
 ·obtain⟨w',h1,z⟩:=kM (P:=P) hs o hT (fun n e i g off d=>by
   cases C:CR (lk n σ.objs) with
   | false=>rfl
   | true=>exact absurd ⟨n,e,i,g,off,d,C⟩ q) h r
  exact⟨w',ρ,h1,z⟩
end
end
end Go.Proofs.YtdapahgnpbehbaaGreat.Fw
