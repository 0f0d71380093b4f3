/- Calls by contract; stores; appends. -/
/- One operation that only adds: its contract. -/
import Derived.Test.YtebfihindnhccaaGreatIZC
import Derived.CallsIn
import Derived.TacticsIn
import Derived.OrdersIn
import Derived.RangeFuncCalls
set_option linter.unusedVariables false
set_option linter.unusedSimpArgs false
namespace Go.Proofs.YtebfihindnhccaaGreat.Fw
section
open Go Go.RowKit
def QY (w:World) (O:Nat→Prop):(ts:List Ty)→List Value→KP ts→Prop
 | [],vs,_=>vs=[]
 | t :: ts,vs,ds=>∃(v:Value) (r:List Value),vs=v :: r∧Bk w O t v ds.1∧QY w O ts r ds.2
/-! ### The fence that lets everything in: in a round of a range over a function ('r'), or not -/
def FR (r:Option Nat):Fence:={ fn:=fun _=>True,depth:=none,alive:=false,round:=r }
theorem Ms {r:Option Nat} {n:Nat} {P:Program} {f:FuncId} {args:Array Value} {w:World} {R:Ending→World→Prop} (h:Calls P f args w R):CallsIn (FR r) n P f args w R:=by
 cases r with
 | none=>exact callsIn_wide.2 h
 | some l=>exact((callsIn_wide.2 h:CallsIn Fence.wide n P f args w R).inRound l:CallsIn _ n P f args w R)
theorem GJ (r:Option Nat) (ρ:Operand→Value) (o:Oper) (h:∀c,o.op≠.defer c):o.semAt r ρ=execOp ρ o:=by
 cases r with
 | none=>exact Oper.semAt_none ρ o
 | some l=>exact Oper.semAt_some l ρ o h
def uC (w:World) (O:Nat→Prop) (outs:List RV) (u:Value) (w':World):Prop :=
 ∀nm:Nat,∃ρ',QS w O ⟨[],[]⟩ (fun _=>undef) (Ij nm outs) (Cl nm outs) u ρ' w'
def A3i (P:Program) (f:FuncId) (sp:Af):Prop :=
 ∀(w:World) (O:Nat→Prop) (vs:List Value) (ds:KP sp.ins),(∀b,O b→b<w.heap.size)→QY w O sp.ins vs ds→sp.pre ds →
  Calls P f vs.toArray w fun e w'=>∃u,e=.returned u∧uC w O (sp.out ds) u w'
def Al (P:Program) (f:FuncId) (sp:Af):Prop :=
 (∃ fn : Func, P.funcs[f]? = some fn ∧ (fn.name == "runtime.NumGoroutine") = false ∧ fn.body.isNone = false) ∧ A3i P f sp
def MY (P:Program) (tb:Tb):Prop:=∀f sp,lk f tb.fns=some sp→Al P f sp
theorem Ns {w w':World} {O O':Nat→Prop}:∀ {t:Ty} {cs:List Value} {d:t.den},t.flat=true→Bj w O t cs d→Bj w' O' t cs d
 | .int _,_,_,_,h=>h
 | .bool,_,_,_,h=>h
 | .str,_,_,_,h=>h
 | .ref _,_,_,_,h=>h
 | .slice _,_,_,hf,_=>by simp[Ty.flat]at hf
 | .prod a b,_,_,hf,h=>by
  simp only[Ty.flat,Bool.and_eq_true]at hf
  obtain⟨c1,c2,rfl,h1,h2⟩:=h
  exact⟨c1,c2,rfl,Ns hf.1 h1,Ns hf.2 h2⟩
 | .agg t,cs,d,hf,h=>by
  simp only[Ty.flat]at hf
  have h:Bj w O t cs d:=h
  exact(Ns hf h:Bj w' O' t cs d)
theorem VD {w w':World} {O O':Nat→Prop} {t:Ty} {v:Value} {d:t.den} (hf:t.flat=true) (h:Bk w O t v d):Bk w' O' t v d :=
 let ⟨cs,h1,h2⟩:=h
 ⟨cs,Ns hf h1,h2⟩
theorem QZ:∀ {l:List RV} (nm:Nat),l.all RV.flat=true→Cl nm l=[]
 | [],_,_=>rfl
 | .p t d :: l,nm,h=>by
  simp only[List.all_cons,Bool.and_eq_true]at h
  simp[Cl,QQ,QZ (nm+10000) h.2]
 | .own _ _ _ :: l,nm,h=>by simp[RV.flat]at h
theorem uD {r:RV} (h:r.flat=true) (nm:Nat):∃t d,Ya nm r=.p t d∧t.flat=true:=by
 cases r with
 | p t d=>exact⟨t,d,rfl,h⟩
 | own _ _ _=>simp[RV.flat]at h
theorem uE {V V':Vw}:∀ {l:List RV} {nm:Nat} {vs:List Value},l.all RV.flat=true→Io V (MS nm l) vs→Io V' (MS nm l) vs
 | [],_,_,_,h=>h
 | r :: l,nm,vs,hf,h=>by
  simp only[List.all_cons,Bool.and_eq_true]at hf
  obtain⟨v,vs',rfl,h1,h2⟩:=h
  obtain⟨t,d,e,ht⟩:=uD hf.1 nm
  refine⟨v,vs',rfl,?_,uE hf.2 h2⟩
  rw[e]at h1 ⊢
  exact VD ht h1
theorem uF {V V':Vw} {l:List RV} {nm:Nat} {u:Value} (hf:l.all RV.flat=true) (h:B5 V (Ij nm l) u):B5 V' (Ij nm l) u:=by
 match l,hf,h with
 | [],_,h=>exact h
 | [r],hf,h =>
  simp only[List.all_cons,List.all_nil,Bool.and_true]at hf
  obtain⟨t,d,e,ht⟩:=uD hf nm
  simp only[Ij]at h ⊢
  rw[e]at h ⊢
  exact VD ht h
 | r1 :: r2 :: l,hf,h =>
  obtain⟨vs,rfl,h1⟩:=h
  exact⟨vs,rfl,uE hf h1⟩
section
variable {P:Program} {tb:Tb} {w:World} {O0:Nat→Prop} {σ:St} {ρ:Nat→Value} {vc:Prop} {v:AV} {obs:List (Nat×Obj)}
theorem QS.call {outs:List RV} {nm:Nat} {u:Value} {ρ':Nat→Value} {w':World} (hf:BT (Cl nm outs) σ=true)
  (h:QS w (own O0 σ ρ) ⟨[],[]⟩ (fun _=>undef) (Ij nm outs) (Cl nm outs) u ρ' w') :
  QS w O0 σ ρ (Ij nm outs) (Cl nm outs) u (fun n=>if (lk n (Cl nm outs)).isSome then ρ' n else ρ n) w':=by
 have hlive:∀n,GZ (Dz ⟨[],[]⟩ (Cl nm outs)) n↔∃o,lk n (Cl nm outs)=some o:=fun n=>by simp[GZ,Dz]
 have hk:Ck (vw w' (own O0 σ ρ) (Dz ⟨[],[]⟩ (Cl nm outs)) ρ') (vw w' O0 (Dz σ (Cl nm outs)) (fun n=>if (lk n (Cl nm outs)).isSome then ρ' n else ρ n)):=by
  refine⟨?_,?_,?_,fun _ _ _=>rfl⟩
  ·intro b _ hb hb'
   rcases hb' with h0|⟨n,hl,hn⟩
   ·exact hb (.inl (.inl h0))
   ·rcases Ka hl with ⟨o,ho⟩|⟨hno,hl'⟩
    ·refine hb (.inr ⟨n,(hlive n).2 ⟨o,ho⟩,?_⟩)
     simpa[ho] using hn
    ·refine hb (.inl (.inr ⟨n,hl',?_⟩))
     simpa[hno] using hn
  ·intro n hn
   obtain⟨o,ho⟩:=(hlive n).1 hn
   exact⟨o,by simp[Dz,Ax,ho]⟩
  ·intro n hn
   obtain⟨o,ho⟩:=(hlive n).1 hn
   simp[vw,ho]
 refine⟨h.below,fun n hn=>by simp[hn],h.av.keeps hk,fun n o ho=>?_,fun n o b ho hb=>?_,fun n m o o' b ho ho' hb hb'=>?_⟩
 ·simp only[ho,Option.isSome_some,if_true]
  exact(h.obj n o ho).keeps hk (fun _ _=>rfl)
 ·simp only[ho,Option.isSome_some,if_true]at hb
  exact h.new n o b ho hb
 ·simp only[ho,ho',Option.isSome_some,if_true]at hb hb'
  exact h.dist n m o o' b ho ho' hb hb'
theorem Wz {V:Vw} {O':Nat→Prop} {l:Bool} (hO:∀b,¬V.O b→¬O' b) (hsr:l=true→∀b,¬O' b) (hobj:∀n o,lk n σ.objs=some o→A4 V o (V.ρ n)) {ev:Operand→Value} (hev:Hj V σ ev) :
  ∀ {ts:List Ty} {xs:List Operand} {ds:KP ts},Fm l σ ts xs=some ds→QY V.w O' ts (xs.map ev) ds
 | [],[],ds,h=>rfl
 | [],_ :: _,ds,h=>by simp[Fm]at h
 | _ :: _,[],ds,h=>by simp[Fm]at h
 | t :: ts,x :: xs,ds,h=>by
  simp only[Fm]at h
  cases hx:Av σ x with
  | none=>rw[hx]at h;cases h
  | some av =>
   rw[hx]at h
   simp only at h
   split at h
   ·rename_i y ys hy hys
    cases h
    exact⟨ev x,xs.map ev,rfl,MV hO hsr hobj hy (hev x av hx),Wz hO hsr hobj hev hys⟩
   ·cases h
theorem A3j (hfns:MY P tb) (hobj:∀n o,lk n σ.objs=some o→A4 (vw w O0 σ ρ) o (ρ n)) (hown:∀b,own O0 σ ρ b→b<w.heap.size) {a:Act} (hev:Hj (vw w O0 σ ρ) σ a.eval) {d:Nat} {xs:List Operand} {g:Operand}
  {o:Oper} {ts:Array TypeId} (ho:o.op=.call { callee:=.value g,args:=xs.toArray,argTypes:=ts })
  (h:KT tb σ d xs (Av σ g)=some (vc,v,obs)) (hvc:vc) (hf:BT obs σ=true) {next:Act→World→Prop} {Q:Exit→Act→World→Prop} {r:Option Nat}
  (hn:∀u ρ' w',QS w O0 σ ρ v obs u ρ' w'→next (a.put o.dst u) w'):o.wpIn (FR r) 0 P a w next Q:=by
 cases hg:Av σ g with
 | none=>rw[hg]at h;simp[KT]at h
 | some gv =>
  rw[hg]at h
  have hgv:=hev g gv hg
  unfold KT at h
  split at h
  ·rename_i f he
   cases he
   have hge:a.eval g=.func (.func f) #[] #[]:=hgv
   cases hsp:lk f tb.fns with
   | none=>rw[hsp]at h;simp[II]at h
   | some sp =>
    rw[hsp]at h
    simp only[II]at h
    cases hds:Fm sp.lend σ sp.ins xs with
    | none=>rw[hds]at h;simp[JN]at h
    | some ds =>
     rw[hds]at h
     simp only[JN]at h
     split at h
     ·rename_i hl
      cases h
      obtain⟨⟨fn,hfn,hname,hbody⟩,hok⟩:=hfns f sp hsp
      have hrun:(execOp a.eval o).run P w=.ok (.enter f (xs.map a.eval).toArray) w:=by
       have h1 : ¬ fn.name = "runtime.NumGoroutine" := by simpa using hname
       have h2:¬fn.body=none:=by intro e;simp[e]at hbody
       simp[execOp,ho,resolve,Deferred.ofValue,hge,invoke,callFunc,hfn,h1,h2]
      refine⟨fun _ _=>trivial,?_⟩
      rw[GJ _ _ _ (fun c e=>by rw[ho]at e;cases e),hrun,Oper.uponIn_enter]
      refine⟨fun h=>(by simp[FR]at h),Ms ?_⟩
      by_cases hlend:sp.lend=true
      ·rw[hlend]at hds
       have hflat:(sp.out ds).all RV.flat=true:=by
        rcases hl with hl|hl
        ·rw[hlend]at hl;cases hl
        ·exact hl
       have hargs:=Wz (V:=vw w O0 σ ρ) (O':=fun _=>False) (fun _ _ h=>h) (fun _ _ h=>h) hobj hev hds
       refine(hok w (fun _=>False) _ ds (fun _ h=>h.elim) hargs hvc).mono fun e w' hh=>?_
       obtain⟨u,rfl,hres⟩:=hh
       obtain⟨ρ',hq⟩:=hres d
       refine hn u ρ w' ?_
       rw[QZ d hflat]at hq ⊢
       exact⟨hq.below,fun _ _=>rfl,uF hflat hq.av,(fun _ _ h=>by cases h),(fun _ _ _ h=>by cases h),(fun _ _ _ _ _ h=>by cases h)⟩
      ·have hlend':sp.lend=false:=by simpa using hlend
       rw[hlend']at hds
       have hargs:=Wz (V:=vw w O0 σ ρ) (O':=own O0 σ ρ) (fun _ h=>h) (fun h=>by cases h) hobj hev hds
       refine(hok w (own O0 σ ρ) _ ds hown hargs hvc).mono fun e w' hh=>?_
       obtain⟨u,rfl,hres⟩:=hh
       obtain⟨ρ',hq⟩:=hres d
       exact hn u _ w' (QS.call hf hq)
     ·cases h
  ·cases h
end
end
/- One operation that only adds: all of them. -/
section
open Go Go.RowKit
section
variable {P:Program} {tb:Tb} {w:World} {O0:Nat→Prop} {σ:St} {ρ:Nat→Value} {vc:Prop} {v:AV} {obs:List (Nat×Obj)}
theorem A3 {o:Oper} {a:Act} {u:Value} {w':World} {next:Act→World→Prop} {Q:Exit→Act→World→Prop} {r:Option Nat} (h:(execOp a.eval o).run P w=.ok (.value u) w') (hn:next (a.put o.dst u) w') (hnd:∀c,o.op≠.defer c:=by intro c e;cases e):o.wpIn (FR r) 0 P a w next Q:=by
 refine⟨fun _ _=>trivial,?_⟩
 rw[GJ _ _ _ hnd,h]
 exact hn
theorem uG {V:Vw} (x:Value):B5 V (Gm x) x:=by
 unfold Gm
 split
 ·rename_i k n
  split
  ·rename_i h;exact BQ h
  ·exact(rfl:(Value.int k n)=_)
 ·exact Bb _
 ·rename_i s
  split
  ·rename_i h;exact SC h
  ·exact(rfl:(Value.string s)=_)
 ·exact(rfl:x=x)
theorem F1 {V:Vw} {a:Act} (h:∀s v,lk s σ.env=some v→B5 V v (a.tmps.getD s undef)):Hj V σ a.eval:=by
 intro x v hx
 cases x with
 | tmp t=>exact h t v hx
 | const c=>simp only[Av]at hx;cases hx;exact uG c
 | global g=>simp[Av]at hx
 | func f=>simp only[Av]at hx;cases hx;rfl
structure A4g (P:Program) (tb:Tb) (w:World) (O0:Nat→Prop) (σ:St) (ρ:Nat→Value) (a:Act):Prop where
 hT:Dp P tb
 hF:MY P tb
 obj:∀n o,lk n σ.objs=some o→A4 (vw w O0 σ ρ) o (ρ n)
 own:∀b,own O0 σ ρ b→b<w.heap.size
 ev:Hj (vw w O0 σ ρ) σ a.eval
theorem QS.toP {d n:Nat} {el:TypeId} {e:Ty} {xs:List e.den} {u:Value} {ρ':Nat→Value} {w':World} (hown:∀b,own O0 σ ρ b→b<w.heap.size) (hf:BT [(d,.arr el e xs)] σ=true)
  (hq:QS w O0 σ ρ (.sr d e 0 n) [(d,.arr el e xs)] u ρ' w') (hn:n=xs.length):QS w O0 σ ρ (.p (.slice e) xs) [] u ρ w' where
 below:=hq.below
 rho:=fun _ _=>rfl
 av:=by
  have hO:∀b,¬own O0 (Dz σ [(d,.arr el e xs)]) ρ' b→¬own O0 (Dz σ []) ρ b:=by
   intro b hb hb'
   rcases hb' with h0|⟨m,⟨o,hm⟩,hmb⟩
   ·exact hb (.inl h0)
   ·have hm:lk m σ.objs=some o:=hm
    have hne:lk m [(d,Obj.arr el e xs)]=none:=by
     cases h':lk m [(d,Obj.arr el e xs)] with
     | none=>rfl
     | some o'=>have:=Mn hf h';rw[this]at hm;cases hm
    refine hb (.inr ⟨m,⟨o,by simp only[Dz,Ax,hne];simpa using hm⟩,?_⟩)
    rw[hq.rho m hne]
    exact hmb
  have hd:lk d [(d,Obj.arr el e xs)]=some (.arr el e xs):=by simp[lk]
  have hb:∀b,bk (ρ' d) b→¬own O0 (Dz σ []) ρ b:=fun b hb hb'=>by
   have h1:=hq.new d _ b hd hb
   have h2:=hown b hb'
   omega
  have hr:=Wr (V:=vw w' O0 (Dz σ [(d,.arr el e xs)]) ρ') hO (fun b hb'=>hb b (.inl hb')) (hq.obj d _ hd) hq.av.2
  rw[hn,Hm]at hr
  obtain⟨_,_,_,_,_,_,a',c',hve,_⟩:=hq.av.2
  exact⟨[u],hr,by rw[hve];rfl⟩
 obj:=fun _ _ h=>by cases h
 new:=fun _ _ _ h=>by cases h
 dist:=fun _ _ _ _ _ h=>by cases h
theorem Ui {id:TypeId} {ti:TI} (hT:ED P tb id ti) (hTb:Dp P tb) (hobj:∀n o,lk n σ.objs=some o→A4 (vw w O0 σ ρ) o (ρ n)) (hown:∀b,own O0 σ ρ b→b<w.heap.size) {ev:Operand→Value} (hev:Hj (vw w O0 σ ρ) σ ev) {pu:Bool} {d n:Nat} {parts:List (Nat×Operand)}
  (h:BS pu σ d n parts (some ti)=some (vc,v,obs)) (hvc:vc) (hf:BT obs σ=true) :
  ∃u ρ' w',(Instr.buildSlice id n (parts.map fun p=>(p.1,ev p.2)).toArray).run P w=.ok u w'∧QS w O0 σ ρ v obs u ρ' w':=by
 cases pu with
 | false=>exact Nq hT hTb hobj hev h hvc hf
 | true =>
  unfold BS at h
  split at h
  ·rename_i e offs el b he
   cases hp:Ee σ e 0 parts with
   | none=>rw[hp]at h;simp[BV]at h
   | some xs =>
    rw[hp]at h
    simp only[BV,if_true]at h
    cases h
    obtain⟨d',hd'⟩:∃d',lk d' σ.objs=none:=by
     have:∀l:List (Nat×Obj),∃m,∀k,m≤k→lk k l=none:=by
      intro l
      induction l with
      | nil=>exact⟨0,fun _ _=>rfl⟩
      | cons x l ih =>
       obtain⟨m,hm⟩:=ih
       refine⟨max m (x.1+1),fun k hk=>?_⟩
       have:¬k=x.1:=by omega
       obtain⟨j,o⟩:=x
       simp only[lk,this,if_false]
       exact hm k (by omega)
     obtain⟨m,hm⟩:=this σ.objs
     exact⟨m,hm m (Nat.le_refl m)⟩
    have hf':BT [(d',.arr el e xs)] σ=true:=by simp[BT,hd']
    have hq:BS false σ d' n parts (some ti)=some (xs.length=n∧n*e.size≤16777216,.sr d' e 0 n,[(d',.arr el e xs)]):=by
     unfold BS
     rw[he]
     simp only
     rw[hp]
     simp[BV]
    obtain⟨u,ρ',w',h1,h2⟩:=Nq hT hTb hobj hev hq hvc hf'
    exact⟨u,ρ,w',h1,h2.toP hown hf' hvc.1.symm⟩
  ·cases h
theorem gE {a:Act} (hc:A4g P tb w O0 σ ρ a) {o:Oper} (h:aq tb σ (o.dst.getD 0) o.op=some (vc,v,obs)) (hvc:vc) (hf:BT obs σ=true)
  {next:Act→World→Prop} {Q:Exit→Act→World→Prop} {r:Option Nat} (hn:∀u ρ' w',QS w O0 σ ρ v obs u ρ' w'→next (a.put o.dst u) w'):o.wpIn (FR r) 0 P a w next Q:=by
 obtain⟨hT,hF,hobj,hown,hev⟩:=hc
 have hL:∀n,(vw w O0 σ ρ).L n→∃o,A4 (vw w O0 σ ρ) o ((vw w O0 σ ρ).ρ n):=fun n ⟨o,ho⟩=>⟨o,hobj n o ho⟩
 obtain⟨dst,op,type,pos,after,guard⟩:=o
 simp only at h hn
 cases op<;>simp only[aq]at h<;>try(cases h;done)
 case move x =>
  cases hx:Av σ x with
  | none=>rw[hx]at h;cases h
  | some xv =>
   rw[hx]at h;simp only[GH]at h;cases h
   exact A3 (u:=a.eval x) (by simp[execOp]) (hn _ _ _ (QS.still (hev x _ hx)))
 case assign x =>
  cases hx:Av σ x with
  | none=>rw[hx]at h;cases h
  | some xv =>
   rw[hx]at h;simp only[GH]at h;cases h
   exact A3 (u:=a.eval x) (by simp[execOp]) (hn _ _ _ (QS.still (hev x _ hx)))
 case pick c x y =>
  cases hc:Av σ c with
  | none=>rw[hc]at h;simp[J3]at h
  | some cv =>
   rw[hc]at h
   have hcv:=hev c cv hc
   unfold J3 at h
   split at h
   ·rename_i he
    cases he
    have hb:=Dw hcv
    cases hx:Av σ x with
    | none=>rw[hx]at h;simp[GH]at h
    | some xv =>
     rw[hx]at h;simp only[GH]at h;cases h
     exact A3 (u:=a.eval x) (by simp[execOp,hb,asBool]) (hn _ _ _ (QS.still (hev x _ hx)))
   ·rename_i he
    cases he
    have hb:=Dw hcv
    cases hy:Av σ y with
    | none=>rw[hy]at h;simp[GH]at h
    | some yv =>
     rw[hy]at h;simp only[GH]at h;cases h
     exact A3 (u:=a.eval y) (by simp[execOp,hb,asBool]) (hn _ _ _ (QS.still (hev y _ hy)))
   ·cases h
 case alloc t =>
  cases ht:lk t tb.ty with
  | none=>rw[ht]at h;simp[JL]at h
  | some ti =>
   rw[ht]at h
   obtain⟨u,ρ',w',h1,h2⟩:=z7 (w:=w) (O0:=O0) (ρ:=ρ) (hT _ _ ht) h hf
   exact A3 (u:=u) (w':=w') (by simp[execOp,h1]) (hn _ _ _ h2)
 case box t x =>
  cases ht:lk t tb.ty with
  | none=>rw[ht]at h;simp[RG]at h
  | some ti =>
   cases hx:Av σ x with
   | none=>rw[ht,hx]at h;simp[RG]at h
   | some xv =>
    rw[ht,hx]at h
    obtain⟨u,ρ',w',h1,h2⟩:=A4e (hT _ _ ht) h (hev x _ hx) hf
    exact A3 (u:=u) (w':=w') (by simp[execOp,h1]) (hn _ _ _ h2)
 case build t parts =>
  cases ht:lk t tb.ty with
  | none=>rw[ht]at h;simp[IE]at h
  | some ti =>
   rw[ht]at h
   obtain⟨rfl,u,h1,h2⟩:=z9 (hT _ _ ht) hobj hev h
   have h1:(Instr.build t (parts.map fun p=>(p.1,a.eval p.2))).run P w=.ok u w:=by
    rw[←h1]
    congr 2
    apply Array.ext'
    simp
   exact A3 (u:=u) (w':=w) (by simp[execOp,h1]) (hn _ _ _ (QS.still h2))
 case buildSlice t n parts =>
  cases hnl:lk (dst.getD 0) tb.nests with
  | some iet =>
   rw[hnl]at h
   simp only[GB]at h
   cases ht:lk t tb.ty with
   | none=>rw[ht]at h;simp[IH]at h
   | some ti =>
    rw[ht]at h
    obtain⟨u,ρ',w',h1,h2⟩:=A3d (hT _ _ ht) hT hobj hev h hvc hf
    have h1:(Instr.buildSlice t n (parts.map fun p=>(p.1,a.eval p.2))).run P w=.ok u w':=by
     rw[←h1]
     congr 2
     apply Array.ext'
     simp
    exact A3 (u:=u) (w':=w') (by simp[execOp,h1]) (hn _ _ _ h2)
  | none =>
  rw[hnl]at h
  simp only[GB]at h
  cases ht:lk t tb.ty with
  | none=>rw[ht]at h;simp[BS]at h
  | some ti =>
   rw[ht]at h
   obtain⟨u,ρ',w',h1,h2⟩:=Ui (hT _ _ ht) hT hobj hown hev h hvc hf
   have h1:(Instr.buildSlice t n (parts.map fun p=>(p.1,a.eval p.2))).run P w=.ok u w':=by
    rw[←h1]
    congr 2
    apply Array.ext'
    simp
   exact A3 (u:=u) (w':=w') (by simp[execOp,h1]) (hn _ _ _ h2)
 case load t x =>
  cases ht:lk t tb.ty with
  | none=>rw[ht]at h;simp[Ik]at h
  | some ti =>
   cases hx:Av σ x with
   | none=>rw[ht,hx]at h;simp[Ik]at h
   | some xv =>
    rw[ht,hx]at h
    obtain⟨rfl,u,h1,h2⟩:=t4 (hT _ _ ht) hobj h (hev x _ hx)
    exact A3 (u:=u) (w':=w) (by simp[execOp,h1]) (hn _ _ _ (QS.still h2))
 case nilCheck x =>
  cases hx:Av σ x with
  | none=>rw[hx]at h;simp[R6]at h
  | some xv =>
   rw[hx]at h
   obtain⟨rfl,⟨ad,he⟩,h2⟩:=A4d h (hev x _ hx)
   exact A3 (u:=a.eval x) (w':=w) (by simp[execOp,he]) (hn _ _ _ (QS.still h2))
 case binOp op t x y t' =>
  cases hx:Av σ x with
  | none=>rw[hx]at h;simp[O9]at h
  | some xv =>
   cases hy:Av σ y with
   | none=>rw[hx,hy]at h;cases xv<;>simp[O9]at h
   | some yv =>
    rw[hx,hy]at h
    obtain⟨rfl,h1,u,h2,h3⟩:=A49 (P:=P) (t:=t) (fun hb=>by
     cases ht:lk t tb.ty with
     | none=>rw[ht]at hb;cases hb
     | some ti =>
      have h0:=(hT _ _ ht).2
      rw[ht]at hb
      unfold QR at hb
      split at hb
      ·rename_i e;cases e;exact h0
      ·cases hb) w h hvc (hev x _ hx) (hev y _ hy)
    exact A3 (u:=u) (w':=w) (by simp[execOp,h1,h2]) (hn _ _ _ (QS.still h3))
 case unOp op t x =>
  cases hx:Av σ x with
  | none=>rw[hx]at h;cases op<;>simp[tS]at h
  | some xv =>
   rw[hx]at h
   obtain⟨rfl,u,h2,h3⟩:=A7u (P:=P) w h hvc (hev x _ hx)
   exact A3 (u:=u) (w':=w) (by simp[execOp,h2]) (hn _ _ _ (QS.still h3))
 case convert s t x =>
  cases hs:lk s tb.ty with
  | none=>rw[hs]at h;simp[Il]at h
  | some si =>
   cases ht:lk t tb.ty with
   | none=>rw[hs,ht]at h;simp[Il]at h
   | some ti =>
    cases hx:Av σ x with
    | none=>rw[hs,ht,hx]at h;simp[Il]at h
    | some xv =>
     rw[hs,ht,hx]at h
     obtain⟨rfl,u,h2,h3⟩:=A3a (P:=P) (hT _ _ hs) (hT _ _ ht) w h hvc (hev x _ hx)
     exact A3 (u:=u) (w':=w) (by simp[execOp,h2]) (hn _ _ _ (QS.still h3))
 case makeSlice t l c =>
  cases ht:lk t tb.ty with
  | none=>rw[ht]at h;simp[Hs]at h
  | some ti =>
   cases hx:Av σ l with
   | none=>rw[ht,hx]at h;simp[Hs]at h
   | some lv =>
    cases hy:Av σ c with
    | none=>rw[ht,hx,hy]at h;simp[Hs]at h
    | some cv =>
     rw[ht,hx,hy]at h
     obtain⟨u,ρ',w',h1,h2⟩:=A3e (hT _ _ ht) hT h hvc (hev l _ hx) (hev c _ hy) hf
     exact A3 (u:=u) (w':=w') (by simp[execOp,h1]) (hn _ _ _ h2)
 case slice t x lo hi mx =>
  cases mx with
  | some m=>simp[aq]at h
  | none =>
   simp only[aq]at h
   cases ht:lk t tb.ty with
   | none=>rw[ht]at h;simp[Ey]at h
   | some ti =>
    cases hx:Av σ x with
    | none=>rw[ht,hx]at h;simp[Ey]at h
    | some xv =>
     have hbnd:∀ {y:Option Operand} {y':Option AV},GG σ y=some y'→Yg (V:=vw w O0 σ ρ) y' (y.map a.eval):=by
      intro y y' hy
      cases y with
      | none=>simp only[GG]at hy;cases hy;trivial
      | some z =>
       simp only[GG,Option.map_eq_some_iff]at hy
       obtain⟨zv,hz,rfl⟩:=hy
       exact hev z zv hz
     cases hlo:GG σ lo with
     | none=>rw[ht,hx,hlo]at h;simp[Ey]at h
     | some lov =>
      cases hhi:GG σ hi with
      | none=>rw[ht,hx,hlo,hhi]at h;simp[Ey]at h
      | some hiv =>
       rw[ht,hx,hlo,hhi]at h
       obtain⟨rfl,u,h2,h3⟩:=z6 (P:=P) (V:=vw w O0 σ ρ) (hT _ _ ht) hT h hvc (hev x _ hx) (hbnd hlo) (hbnd hhi)
       have h2:(Instr.sliceAt t (a.eval x) (lo.map a.eval) (hi.map a.eval) none).run P w=.ok u w:=h2
       exact A3 (u:=u) (w':=w) (by simp[execOp,h2]) (hn _ _ _ (QS.still h3))
 case fieldAddr s x f =>
  cases hs:lk s tb.ty with
  | none=>rw[hs]at h;simp[Gb]at h
  | some ti =>
   cases hx:Av σ x with
   | none=>rw[hs,hx]at h;simp[Gb]at h
   | some xv =>
    rw[hs,hx]at h
    obtain⟨rfl,u,h2,h3⟩:=zY (P:=P) (hT _ _ hs) w h (hev x _ hx)
    exact A3 (u:=u) (w':=w) (by simp[execOp,h2]) (hn _ _ _ (QS.still h3))
 case indexAddr t x i =>
  cases ht:lk t tb.ty with
  | none=>rw[ht]at h;simp[FO]at h
  | some ti =>
   cases hx:Av σ x with
   | none=>rw[ht,hx]at h;simp[FO]at h
   | some xv =>
    cases hi:Av σ i with
    | none=>rw[ht,hx,hi]at h;simp[FO]at h
    | some iv =>
     rw[ht,hx,hi]at h
     obtain⟨rfl,u,h2,h3⟩:=zZ (P:=P) (V:=vw w O0 σ ρ) (hT _ _ ht) hT h hvc (hev x _ hx) (hev i _ hi) hL
     have h2:(Instr.indexAt t (a.eval x) (a.eval i)).run P w=.ok u w:=h2
     exact A3 (u:=u) (w':=w) (by simp[execOp,h2]) (hn _ _ _ (QS.still h3))
 case index t x i =>
  cases ht:lk t tb.ty with
  | none=>rw[ht]at h;simp[EA]at h
  | some ti =>
   cases hx:Av σ x with
   | none=>rw[ht,hx]at h;simp[EA]at h
   | some xv =>
    cases hi:Av σ i with
    | none=>rw[ht,hx,hi]at h;simp[EA]at h
    | some iv =>
     rw[ht,hx,hi]at h
     obtain⟨rfl,u,h2,h3⟩:=t6 (P:=P) (hT _ _ ht) w h hvc (hev x _ hx) (hev i _ hi)
     exact A3 (u:=u) (w':=w) (by simp[execOp,h2]) (hn _ _ _ (QS.still h3))
 case extract x i =>
  cases hx:Av σ x with
  | none=>rw[hx]at h;simp[EE]at h
  | some xv =>
   rw[hx]at h
   obtain⟨rfl,u,h2,h3⟩:=pK (P:=P) w h (hev x _ hx)
   exact A3 (u:=u) (w':=w) (by simp[execOp,h2]) (hn _ _ _ (QS.still h3))
 case makeFunc fn first captured =>
  obtain⟨rfl,u,h2,h3⟩:=A4f (P:=P) hev h
  have h2:(Instr.makeFunc fn (first.map a.eval) (captured.map a.eval)).run P w=.ok u w:=by
   rw[←h2]
   congr 2<;>(apply Array.ext';simp)
  exact A3 (u:=u) (w':=w) (by simp[execOp,h2]) (hn _ _ _ (QS.still h3))
 case makeMap t res =>
  cases res with
  | some z=>simp[aq]at h
  | none =>
   simp only[aq]at h
   cases ht:lk t tb.ty with
   | none=>rw[ht]at h;simp[FP]at h
   | some ti =>
    rw[ht]at h
    obtain⟨u,ρ',w',h1,h2⟩:=pO (w:=w) (O0:=O0) (ρ:=ρ) (hT _ _ ht) h hf
    exact A3 (u:=u) (w':=w') (by simp[execOp,h1]) (hn _ _ _ h2)
 case lookup t x i ok =>
  cases ht:lk t tb.ty with
  | none=>rw[ht]at h;simp[Ht]at h
  | some ti =>
   cases hx:Av σ x with
   | none=>rw[ht,hx]at h;simp[Ht]at h
   | some xv =>
    cases hi:Av σ i with
    | none=>rw[ht,hx,hi]at h;simp[Ht]at h
    | some iv =>
     rw[ht,hx,hi]at h
     obtain⟨rfl,u,h2,h3⟩:=A3h (P:=P) (hT _ _ ht) hT hobj h (hev x _ hx) (hev i _ hi)
     exact A3 (u:=u) (w':=w) (by simp[execOp,h2]) (hn _ _ _ (QS.still h3))
 case call c =>
  obtain⟨callee,args,argTypes⟩:=c
  cases callee with
  | invoke r m=>simp[Cg]at h
  | value g =>
   simp only[Cg]at h
   exact A3j hF hobj hown hev (xs:=args.toList) (ts:=argTypes) (o:=⟨dst,.call ⟨.value g,args,argTypes⟩,type,pos,after,guard⟩) (by simp) h hvc hf hn
  | builtin b =>
   simp only[Cg]at h
   obtain⟨args⟩:=args
   obtain⟨argTypes⟩:=argTypes
   simp only at h
   unfold Cn at h
   split at h
   ·rename_i x t
    cases ht:lk t tb.ty with
    | none=>rw[ht]at h;simp[RH]at h
    | some ti =>
     cases hx:Av σ x with
     | none=>rw[ht,hx]at h;simp[RH]at h
     | some xv =>
      rw[ht,hx]at h
      obtain⟨rfl,u,h2,h3⟩:=A4a (P:=P) (ty:=type) (V:=vw w O0 σ ρ) hL (hT _ _ ht) w h (hev x _ hx)
      exact A3 (u:=u) (w':=w) (by simp[execOp,resolve,invoke,builtin,h2]) (hn _ _ _ (QS.still h3))
   ·rename_i x y t u
    cases hx:Av σ x with
    | none=>rw[hx]at h;simp[CP]at h
    | some xv =>
     cases hy:Av σ y with
     | none=>rw[hx,hy]at h;simp[CP]at h
     | some yv =>
      rw[hx,hy]at h
      obtain⟨z,ρ',w',h1,h2⟩:=uB (ty:=type) hT hobj h hvc (hev x _ hx) (hev y _ hy) hf
      exact A3 (u:=z) (w':=w') (by simp[execOp,resolve,invoke,builtin,h1]) (hn _ _ _ h2)
   ·rename_i x y t u
    cases hx:Av σ x with
    | none=>rw[hx]at h;simp[PA]at h
    | some xv =>
     cases hy:Av σ y with
     | none=>rw[hx,hy]at h;simp[PA]at h
     | some yv =>
      rw[hx,hy]at h
      obtain⟨rfl,z,h1,h2⟩:=A4b (P:=P) (ts:=#[t,u]) (ty:=type) w h (hev x _ hx) (hev y _ hy)
      exact A3 (u:=z) (w':=w) (by simp[execOp,resolve,invoke,builtin,h1]) (hn _ _ _ (QS.still h2))
   ·rename_i x y t u
    cases hx:Av σ x with
    | none=>rw[hx]at h;simp[PB]at h
    | some xv =>
     cases hy:Av σ y with
     | none=>rw[hx,hy]at h;simp[PB]at h
     | some yv =>
      rw[hx,hy]at h
      obtain⟨rfl,z,h1,h2⟩:=A4c (P:=P) (ts:=#[t,u]) (ty:=type) w h (hev x _ hx) (hev y _ hy)
      exact A3 (u:=z) (w':=w) (by simp[execOp,resolve,invoke,builtin,h1]) (hn _ _ _ (QS.still h2))
   ·cases h
end
end
/- Steps that turn memory, and an owned array given up: the abstract state holds behind them. -/
section
open Go Go.RowKit
section
variable {w0:World} {K O0:Nat→Prop} {nt:Nat} {ds:Fp} {σ:St} {ρ:Nat→Value} {a:Act} {w:World}
theorem A01 {n:Nat} {o:Obj} {env:List (Nat×AV)} (m:Nat):GZ ⟨env,upd n o σ.objs⟩ m↔GZ σ m:=by
 constructor
 ·rintro⟨x,hx⟩
  rw[Fz]at hx
  split at hx
  ·rename_i e
   subst e
   simp only[Option.map_eq_some_iff]at hx
   obtain⟨y,hy,_⟩:=hx
   exact⟨y,hy⟩
  ·exact⟨x,hx⟩
 ·rintro⟨x,hx⟩
  by_cases e:m=n
  ·subst e
   exact⟨o,by simp[Fz,hx]⟩
  ·exact⟨x,by simp[Fz,e,hx]⟩
theorem Bq.upd (h:Bq w0 K O0 nt ds σ ρ a w) (hK:∀b,K b→b<w0.heap.size) {n:Nat} {o o':Obj} (hn:lk n σ.objs=some o) {g:Nat} (hb:blk (ρ n)=some g) {w':World} (hg:w.grownBy w' (some g))
  (ho:A4 (vw w' O0 σ ρ) o' (ρ n)):Bq w0 K O0 nt ds ⟨σ.env,Fw.upd n o' σ.objs⟩ ρ a w':=by
 have hliv:GZ ⟨σ.env,Fw.upd n o' σ.objs⟩=GZ σ:=funext fun m=>propext (A01 m)
 have hvw:vw w' O0 ⟨σ.env,Fw.upd n o' σ.objs⟩ ρ=vw w' O0 σ ρ:=by
  have hown:own O0 ⟨σ.env,Fw.upd n o' σ.objs⟩ ρ=own O0 σ ρ:=by
   funext b
   simp only[own,hliv]
  simp only[vw,hliv,hown]
 have hgown:own O0 σ ρ g:=.inr ⟨n,⟨o,hn⟩,.inl hb⟩
 have hk:Ck (vw w O0 σ ρ) (vw w' O0 σ ρ):=⟨fun _ _ h=>h,fun _ h=>h,fun _ _=>rfl,fun b hlt hO=>hg.block b hlt (fun e=>by injection e with e;subst e;exact hO hgown)⟩
 refine⟨⟨hg.os.trans h.frm.os,hg.tape.trans h.frm.tape,hg.output.trans h.frm.output,Nat.le_trans h.frm.size hg.size,fun k hk'=>?_⟩,h.nt,h.defers,fun p hp=>by rw[hliv];exact h.pin p hp,?_,?_,?_,?_⟩
 ·refine(hg.block k (Nat.lt_of_lt_of_le (hK k hk') h.frm.size) (fun e=>?_)).trans (h.frm.block k hk')
  injection e with e
  subst e
  exact(h.free n k ⟨o,hn⟩ (.inl hb)).1 hk'
 ·intro m x hm
  rw[hvw]
  rw[Fz]at hm
  split at hm
  ·rename_i e
   subst e
   rw[hn]at hm
   simp only[Option.map_some]at hm
   cases hm
   exact ho
  ·rename_i e
   refine(h.objs m x hm).keeps hk fun b hb'=>?_
   refine hg.block b ((h.objs m x hm).block_lt hb') (fun e'=>?_)
   injection e' with e'
   subst e'
   exact e (h.dist m n b ⟨x,hm⟩ ⟨o,hn⟩ hb' (.inl hb))
 ·intro m b hl hb'
  rw[hliv]at hl
  exact h.free m b hl hb'
 ·intro m m' b hl hl' h1 h2
  rw[hliv]at hl hl'
  exact h.dist m m' b hl hl' h1 h2
 ·intro s v hs
  rw[hvw]
  exact(h.env s v hs).keeps hk
/-! ### What does not look at n -/
theorem Ip (n s:Nat):∀l:List (Nat×AV),lk s (FL n l)=(lk s l).map (AV.drp n)
 | []=>rfl
 | (j,v) :: l=>by
  simp only[FL,lk]
  split
  ·rfl
  ·exact Ip n s l
def Obj.drp (n:Nat):Obj→Obj
 | .arr et e xs=>.arr et e xs
 | .box et st fs=>.box et st (AV.drps n fs)
 | .mapo k v l=>.mapo k v l
 | .nest et iet k e xs h=>.nest et iet k e xs h
 | .frame tm fs=>.frame tm (FL n fs)
 | .loop L=>.loop L
 | .dfr=>.dfr
theorem Bl (n s:Nat):∀l:List (Nat×Obj),lk s (Bg n l)=(lk s l).map (Obj.drp n)
 | []=>rfl
 | (j,.arr et e xs) :: l=>by
  simp only[Bg,lk]
  split
  ·rfl
  ·exact Bl n s l
 | (j,.box et st fs) :: l=>by
  simp only[Bg,lk]
  split
  ·rfl
  ·exact Bl n s l
 | (j,.mapo k v x) :: l=>by
  simp only[Bg,lk]
  split
  ·rfl
  ·exact Bl n s l
 | (j,.nest et iet k e xs h) :: l=>by
  simp only[Bg,lk]
  split
  ·rfl
  ·exact Bl n s l
 | (j,.frame tm fs) :: l=>by
  simp only[Bg,lk]
  split
  ·rfl
  ·exact Bl n s l
 | (j,.loop L) :: l=>by
  simp only[Bg,lk]
  split
  ·rfl
  ·exact Bl n s l
 | (j,.dfr) :: l=>by
  simp only[Bg,lk]
  split
  ·rfl
  ·exact Bl n s l
def Vw.but (V:Vw) (n:Nat):Vw:=⟨V.w,V.O,fun m=>V.L m∧m≠n,V.ρ⟩
def seat (v:Value):Prop:=(∃a m c,v=.slice a m c)∨∃vs,v=.tuple vs
theorem Hu {V:Vw} {n:Nat} (hn:seat (V.ρ n)) {x:AV} {v:Value} (h:R7 V x v):R7 (V.but n) (x.drp n) v:=by
 cases x
 case sr m e lo hi =>
  simp only[AV.drp]
  split
  ·trivial
  ·rename_i hne;exact⟨⟨h.1,hne⟩,h.2⟩
 case ep m e i path off =>
  simp only[AV.drp]
  split
  ·trivial
  ·rename_i hne;exact⟨⟨h.1,hne⟩,h.2⟩
 case nin m e i len =>
  simp only[AV.drp]
  split
  ·trivial
  ·rename_i hne;exact⟨⟨h.1,hne⟩,h.2⟩
 case bp m path off =>
  simp only[AV.drp]
  refine⟨⟨h.1,fun e=>?_⟩,h.2⟩
  subst e
  obtain⟨_,b,hb,_⟩:=h
  rcases hn with ⟨a,m',c,hs⟩|⟨vs,hs⟩<;>(rw[hs]at hb;cases hb)
 case clo f ns =>
  simp only[AV.drp]
  refine⟨h.1,fun m hm=>?_⟩
  obtain⟨h1,b,hb⟩:=h.2 m hm
  refine⟨⟨h1,fun e=>?_⟩,b,hb⟩
  subst e
  rcases hn with ⟨a,m',c,hs⟩|⟨vs,hs⟩<;>(rw[hs]at hb;cases hb)
 case mp m =>
  simp only[AV.drp]
  refine⟨⟨h.1,fun e=>?_⟩,h.2⟩
  subst e
  obtain⟨_,b,hb,_⟩:=h
  rcases hn with ⟨a,m',c,hs⟩|⟨vs,hs⟩<;>(rw[hs]at hb;cases hb)
 case yl m =>
  simp only[AV.drp]
  refine⟨⟨h.1,fun e=>?_⟩,h.2⟩
  subst e
  obtain⟨_,b,hb,_⟩:=h
  rcases hn with ⟨a,m',c,hs⟩|⟨vs,hs⟩<;>(rw[hs]at hb;cases hb)
 case ag l=>exact h.elim
 case tup l=>exact h.elim
 all_goals simp only[AV.drp];exact h
theorem A02 {V:Vw} {n:Nat} (hn:seat (V.ρ n)) {x:AV} {cs:List Value} (h:MU V x cs):MU (V.but n) (x.drp n) cs:=by
 cases x
 case p t d=>simp only[AV.drp];exact h
 case ag l=>obtain⟨v,_,_,hf⟩:=h;exact hf.elim
 case tup l=>obtain⟨v,_,_,hf⟩:=h;exact hf.elim
 all_goals
  obtain⟨v,rfl,h1,h2⟩:=h
  have h3:=Hu hn h2
  simp only[AV.drp]at h3 ⊢
  first
   | exact⟨v,rfl,h1,h3⟩
   | (split at h3<;>rename_i hc<;>first|(rw[if_pos hc];exact⟨v,rfl,h1,h3⟩)|(rw[if_neg hc];exact⟨v,rfl,h1,h3⟩))
theorem SJ {V:Vw} {n:Nat} (hn:seat (V.ρ n)):∀ {l:List AV} {cs:List Value},DQ V l cs→DQ (V.but n) (AV.drps n l) cs
 | [],cs,h=>(h:cs=[])
 | x :: r,cs,h=>by
  obtain⟨c1,c2,rfl,h1,h2⟩:=h
  simp only[AV.drps]
  exact⟨c1,c2,rfl,A02 hn h1,SJ hn h2⟩
theorem Yo {V:Vw} {n:Nat} (hn:seat (V.ρ n)):∀ {l:List AV} {vs:List Value},Io V l vs→Io (V.but n) (AV.drps n l) vs
 | [],vs,h=>(h:vs=[])
 | x :: r,vs,h=>by
  obtain⟨v,vs',rfl,h1,h2⟩:=h
  simp only[AV.drps]
  exact⟨v,vs',rfl,Hu hn h1,Yo hn h2⟩
theorem pP {V:Vw} {x:AV} {v:Value} (h:R7 V x v):B5 V x v:=by
 cases x
 case ag l=>exact h.elim
 case tup l=>exact h.elim
 all_goals exact h
theorem gF {V:Vw} {n:Nat} (hn:seat (V.ρ n)) {x:AV} {v:Value} (h:B5 V x v):B5 (V.but n) (x.drp n) v:=by
 cases x
 case ag l=>obtain⟨cs,h1,h2⟩:=h;simp only[AV.drp];exact⟨cs,h1,SJ hn h2⟩
 case tup l=>obtain⟨vs,h1,h2⟩:=h;simp only[AV.drp];exact⟨vs,h1,Yo hn h2⟩
 all_goals exact pP (Hu hn h)
theorem Qa (n:Nat):∀l:List AV,(AV.drps n l).length=l.length
 | []=>rfl
 | _ :: r=>by simp[AV.drps,Qa n r]
theorem A03 {n:Nat} {o':Obj} {env:List (Nat×AV)} (m:Nat):GZ ⟨env,upd n o' (Bg n σ.objs)⟩ m↔GZ σ m:=by
 constructor
 ·rintro⟨x,hx⟩
  rw[Fz,Bl,Bl]at hx
  split at hx
  ·rename_i e
   subst e
   simp only[Option.map_map,Option.map_eq_some_iff]at hx
   obtain⟨y,hy,_⟩:=hx
   exact⟨y,hy⟩
  ·simp only[Option.map_eq_some_iff]at hx
   obtain⟨y,hy,_⟩:=hx
   exact⟨y,hy⟩
 ·rintro⟨x,hx⟩
  by_cases e:m=n
  ·subst e
   exact⟨o',by simp[Fz,Bl,hx]⟩
  ·exact⟨x.drp n,by simp[Fz,Bl,e,hx]⟩
theorem Bq.app (h:Bq w0 K O0 nt ds σ ρ a w) (hK:∀b,K b→b<w0.heap.size) (hO:∀b,O0 b→b<w0.heap.size) {n:Nat} (hfx:GF n=false) {et:TypeId} {e:Ty} {xs ys:List e.den} (hn:lk n σ.objs=some (.arr et e xs)) {loc:Value} {w':World} {cells:List Value}
  (hg:w.grownBy w' (blk (ρ n))) (hloc:blk loc=blk (ρ n)∨∀b,blk loc=some b→w.heap.size≤b) (hm:ys.length≤AP)
  (how:w'.ownsRow 0 et e.size loc ys.length cells) (hel:DR w (own O0 σ ρ) e cells ys) {d:Nat} (hd:d<nt) {hi:Nat} (hhi:hi=ys.length) :
  Bq w0 K O0 nt ds ⟨(d,.sr n e 0 hi) :: FL n σ.env,Fw.upd n (.arr et e ys) (Bg n σ.objs)⟩ (EV ρ n loc) (a.put (some d) loc) w':=by
 subst hhi
 have hns:∃a m c,(vw w O0 σ ρ).ρ n=.slice a m c:=by
  obtain⟨_,cells',how',_⟩:=h.objs n _ hn
  rcases how'.2 with ⟨he,_⟩|⟨g,cap,cur,he,_⟩
  ·exact⟨_,_,_,he⟩
  ·exact⟨_,_,_,he⟩
 let σ':St:=⟨(d,.sr n e 0 ys.length) :: FL n σ.env,Fw.upd n (.arr et e ys) (Bg n σ.objs)⟩
 have hliv:∀m,GZ σ' m↔GZ σ m:=fun m=>A03 m
 have hbl:∀b,bk loc b↔blk loc=some b:=fun b=>by
  rcases how.2 with ⟨he,_⟩|⟨g,cap,cur,he,_⟩
  ·rw[he];exact KZ
  ·rw[he];exact KZ
 have hbn:∀b,bk (ρ n) b↔blk (ρ n)=some b:=fun b=>by
  obtain⟨a2,m2,c2,h4⟩:=hns
  have h4:ρ n=_:=h4
  rw[h4];exact KZ
 have hnew:∀b,bk loc b→own O0 σ ρ b∨w.heap.size≤b:=by
  intro b hb
  replace hb:=(hbl b).1 hb
  rcases hloc with h1|h1
  ·exact .inl (.inr ⟨n,⟨_,hn⟩,.inl (by rw[←h1];exact hb)⟩)
  ·exact .inr (h1 b hb)
 have hk:Ck ((vw w O0 σ ρ).but n) (vw w' O0 σ' (EV ρ n loc)):=by
  refine⟨?_,fun m hm=>(hliv m).2 hm.1,fun m hm=>?_,?_⟩
  ·intro b hlt hb hb'
   rcases hb' with h0|⟨m,hl,hbm⟩
   ·exact hb (.inl h0)
   ·by_cases hmn:m=n
    ·subst hmn
     rw[Ba]at hbm
     rcases hnew b hbm with h1|h1
     ·exact hb h1
     ·have hlt:b<w.heap.size:=hlt
      omega
    ·have:EV ρ n loc m=ρ m:=by simp[EV,hmn]
     rw[this]at hbm
     exact hb (.inr ⟨m,(hliv m).1 hl,hbm⟩)
  ·have:m≠n:=hm.2
   show EV ρ n loc m=ρ m
   simp[EV,this]
  ·intro b hlt hb
   exact hg.block b hlt (fun e'=>hb (.inr ⟨n,⟨_,hn⟩,.inl e'.symm⟩))
 refine⟨⟨hg.os.trans h.frm.os,hg.tape.trans h.frm.tape,hg.output.trans h.frm.output,Nat.le_trans h.frm.size hg.size,fun k hk'=>?_⟩,by rw[Nk];exact h.nt,by rw[JU];exact h.defers,fun p hp=>?_,?_,?_,?_,?_⟩
 ·refine(hg.block k (Nat.lt_of_lt_of_le (hK k hk') h.frm.size) (fun e'=>?_)).trans (h.frm.block k hk')
  exact(h.free n k ⟨_,hn⟩ (.inl e'.symm)).1 hk'
 ·obtain⟨h1,h2,h3⟩:=h.pin p hp
  have hne:p.1≠n:=by
   intro e2
   obtain⟨a2,m2,c2,h4⟩:=hns
   have h4:ρ n=_:=h4
   rw[←e2,h2]at h4
   rw[h4]at h3
   rcases h3 with h3|h3
   ·cases h3
   ·rw[e2,hfx]at h3;cases h3
  exact⟨(hliv p.1).2 h1,by simp[EV,hne,h2],h3⟩
 ·intro m x hm'
  show A4 (vw w' O0 σ' (EV ρ n loc)) x (EV ρ n loc m)
  rw[Fz]at hm'
  split at hm'
  ·rename_i e'
   subst e'
   rw[Bl,hn]at hm'
   simp only[Option.map_some]at hm'
   cases hm'
   rw[Ba]
   exact⟨hm,cells,how,hel.keeps (V:=(vw w O0 σ ρ).but m) hk⟩
  ·rename_i e'
   rw[Bl]at hm'
   simp only[Option.map_eq_some_iff]at hm'
   obtain⟨y,hy,rfl⟩:=hm'
   have:EV ρ n loc m=ρ m:=by simp[EV,e']
   rw[this]
   have hb:∀b,bk (ρ m) b→w'.heap[b]?=w.heap[b]?:=fun b hb'=>by
    refine hg.block b ((h.objs m y hy).block_lt hb') (fun e2=>?_)
    exact e' (h.dist m n b ⟨y,hy⟩ ⟨_,hn⟩ hb' (.inl e2.symm))
   have hobj:=h.objs m y hy
   cases y with
   | arr et' e2 zs=>exact A4.keeps (V:=(vw w O0 σ ρ).but n) hk hb hobj
   | box et' st fs =>
    obtain⟨h0,b,cs,hl,hh,hcs⟩:=hobj
    exact A4.keeps (V:=(vw w O0 σ ρ).but n) (o:=.box et' st (AV.drps n fs)) hk hb ⟨fun hst=>by rw[Qa];exact h0 hst,b,cs,hl,hh,SJ (.inl hns) hcs⟩
   | mapo k v l=>exact A4.keeps (V:=(vw w O0 σ ρ).but n) hk hb hobj
   | nest et iet k e xs hl=>exact A4.keeps (V:=(vw w O0 σ ρ).but n) (o:=.nest et iet k e xs hl) hk hb (Lh (V:=vw w O0 σ ρ) (V':=(vw w O0 σ ρ).but n) rfl rfl hobj)
   | frame tm fs =>
    obtain⟨h0,h1⟩:=hobj
    refine A4.keeps (V:=(vw w O0 σ ρ).but n) (o:=.frame tm (FL n fs)) hk hb ⟨h0,fun s z hz=>?_⟩
    rw[Ip]at hz
    simp only[Option.map_eq_some_iff]at hz
    obtain⟨y,hy,rfl⟩:=hz
    exact gF (.inl hns) (h1 s y hy)
   | loop L=>exact A4.keeps (V:=(vw w O0 σ ρ).but n) hk hb hobj
   | dfr=>exact A4.keeps (V:=(vw w O0 σ ρ).but n) hk hb hobj
 ·intro m b hl hb
  replace hl:=(hliv m).1 hl
  by_cases e':m=n
  ·subst e'
   rw[Ba]at hb
   rcases hloc with h1|h1
   ·exact h.free m b hl (.inl (by rw[←h1];exact(hbl b).1 hb))
   ·have:=h1 b ((hbl b).1 hb)
    have:=h.frm.size
    exact⟨fun hk'=>by have:=hK b hk';omega,fun hk'=>by have:=hO b hk';omega⟩
  ·have:EV ρ n loc m=ρ m:=by simp[EV,e']
   rw[this]at hb
   exact h.free m b hl hb
 ·have key:∀m b,GZ σ m→m≠n→bk (ρ m) b→bk loc b→False:=by
   intro m b hl hmn hb hb'
   rcases hloc with h1|h1
   ·exact hmn (h.dist m n b hl ⟨_,hn⟩ hb (.inl (by rw[←h1];exact(hbl b).1 hb')))
   ·have h2:=h1 b ((hbl b).1 hb')
    obtain⟨y,hy⟩:=hl
    have:=(h.objs m y hy).block_lt hb
    have:b<w.heap.size:=this
    omega
  intro m m' b hl hl' h1 h2
  replace hl:=(hliv m).1 hl
  replace hl':=(hliv m').1 hl'
  by_cases e1:m=n<;>by_cases e2:m'=n
  ·rw[e1,e2]
  ·subst e1
   have:EV ρ m loc m'=ρ m':=by simp[EV,e2]
   rw[this]at h2
   rw[Ba]at h1
   exact(key m' b hl' e2 h2 h1).elim
  ·subst e2
   have:EV ρ m' loc m=ρ m:=by simp[EV,e1]
   rw[this]at h1
   rw[Ba]at h2
   exact(key m b hl e1 h1 h2).elim
  ·have e3:EV ρ n loc m=ρ m:=by simp[EV,e1]
   have e4:EV ρ n loc m'=ρ m':=by simp[EV,e2]
   rw[e3]at h1
   rw[e4]at h2
   exact h.dist m m' b hl hl' h1 h2
 ·intro s v hs
  show B5 (vw w' O0 σ' (EV ρ n loc)) v _
  rw[Lg a d loc s (by rw[h.nt];exact hd)]
  simp only[lk]at hs
  split at hs
  ·rename_i es
   cases hs
   rw[if_pos es]
   refine⟨(hliv n).2 ⟨_,hn⟩,?_⟩
   show DC (plc (EV ρ n loc n)) e.size 0 ys.length loc
   rw[Ba,Gn how]
   rcases how.2 with ⟨rfl,hnn⟩|⟨g,cap,cur,rfl,_,_,hcap,_⟩
   ·exact⟨none,0,0,rfl,by omega,by omega,none,0,by rw[hnn],by omega,fun _=>⟨rfl,rfl⟩,fun h=>by omega⟩
   ·exact⟨some ⟨g,0,none⟩,ys.length,cap,rfl,by omega,by omega,some ⟨g,0,none⟩,cap,by simp,by omega,fun _=>⟨rfl,rfl⟩,fun _=>by simp[Ld]⟩
  ·rename_i es
   rw[if_neg es]
   rw[Ip]at hs
   simp only[Option.map_eq_some_iff]at hs
   obtain⟨y,hy,rfl⟩:=hs
   exact(gF (.inl hns) (h.env s y hy)).keeps hk
end
end
/- Some objects in place of others: the abstract state holds behind it. -/
section
open Go Go.RowKit
def Vw.buts (V:Vw) (hs:List Nat):Vw:=⟨V.w,V.O,fun m=>V.L m∧Aa m hs=false,V.ρ⟩
theorem W8 {V:Vw} {hs:List Nat} {x:AV} {v:Value} (h:R7 V x v):R7 (V.buts hs) (x.fgt hs) v:=by
 cases x
 case clo f ns =>
  simp only[AV.fgt]
  split
  ·trivial
  ·rename_i hne
   refine⟨h.1,fun n hn=>⟨⟨(h.2 n hn).1,?_⟩,(h.2 n hn).2⟩⟩
   cases hm:Aa n hs with
   | false=>rfl
   | true=>exact absurd (List.any_eq_true.2 ⟨n,hn,hm⟩) hne
 case ag l=>exact h.elim
 case tup l=>exact h.elim
 case p t d=>simp only[AV.fgt];exact h
 case raw u=>simp only[AV.fgt];exact h
 case ip t d=>simp only[AV.fgt];exact h
 case fn f=>simp only[AV.fgt];exact h
 case top=>trivial
 all_goals
  simp only[AV.fgt]
  split
  ·trivial
  ·rename_i hne
   exact⟨⟨h.1,by simpa using hne⟩,h.2⟩
theorem A04 {V:Vw} {hs:List Nat} {x:AV} {cs:List Value} (h:MU V x cs):MU (V.buts hs) (x.fgt hs) cs:=by
 cases x
 case p t d=>simp only[AV.fgt];exact h
 case ag l=>obtain⟨v,_,_,hf⟩:=h;exact hf.elim
 case tup l=>obtain⟨v,_,_,hf⟩:=h;exact hf.elim
 all_goals
  obtain⟨v,rfl,h1,h2⟩:=h
  have h3:=W8 (hs:=hs) h2
  simp only[AV.fgt]at h3 ⊢
  first
   | exact⟨v,rfl,h1,h3⟩
   | (split at h3<;>rename_i hc<;>first|(rw[if_pos hc];exact⟨v,rfl,h1,h3⟩)|(rw[if_neg hc];exact⟨v,rfl,h1,h3⟩))
theorem SK {V:Vw} {hs:List Nat}:∀ {l:List AV} {cs:List Value},DQ V l cs→DQ (V.buts hs) (AV.fgts hs l) cs
 | [],cs,h=>(h:cs=[])
 | x :: r,cs,h=>by
  obtain⟨c1,c2,rfl,h1,h2⟩:=h
  simp only[AV.fgts]
  exact⟨c1,c2,rfl,A04 h1,SK h2⟩
theorem Yp {V:Vw} {hs:List Nat}:∀ {l:List AV} {vs:List Value},Io V l vs→Io (V.buts hs) (AV.fgts hs l) vs
 | [],vs,h=>(h:vs=[])
 | x :: r,vs,h=>by
  obtain⟨v,vs',rfl,h1,h2⟩:=h
  simp only[AV.fgts]
  exact⟨v,vs',rfl,W8 h1,Yp h2⟩
theorem RW {V:Vw} {hs:List Nat} {x:AV} {v:Value} (h:B5 V x v):B5 (V.buts hs) (x.fgt hs) v:=by
 cases x
 case ag l=>obtain⟨cs,h1,h2⟩:=h;simp only[AV.fgt];exact⟨cs,h1,SK h2⟩
 case tup l=>obtain⟨vs,h1,h2⟩:=h;simp only[AV.fgt];exact⟨vs,h1,Yp h2⟩
 all_goals exact pP (W8 h)
theorem EW (hs:List Nat) (s:Nat):∀l:List (Nat×AV),lk s (B7 hs l)=(lk s l).map (AV.fgt hs)
 | []=>rfl
 | (j,v) :: l=>by
  simp only[B7,lk]
  split
  ·rfl
  ·exact EW hs s l
theorem Qb (hs:List Nat):∀l:List AV,(AV.fgts hs l).length=l.length
 | []=>rfl
 | _ :: r=>by simp[AV.fgts,Qb hs r]
theorem Bp (hd hs:List Nat) (n:Nat):∀l:List (Nat×Obj),lk n (Au hd hs l)=if Aa n hd=true then none else (lk n l).map (Obj.fgt hs)
 | []=>by simp[Au,lk]
 | (j,o) :: l=>by
  simp only[Au]
  by_cases hj:Aa j hd=true
  ·rw[if_pos hj,Bp hd hs n l]
   by_cases hn:n=j
   ·subst hn;simp[hj]
   ·simp[lk,hn]
  ·rw[if_neg hj]
   simp only[lk]
   by_cases hn:n=j
   ·subst hn;simp[hj]
   ·simp[hn,Bp hd hs n l]
theorem W9 {V V':Vw} {hs:List Nat} (hk:Ck (V.buts hs) V') {o:Obj} {loc:Value} (hb:∀b,bk loc b→V'.w.heap[b]?=V.w.heap[b]?) (h:A4 V o loc):A4 V' (o.fgt hs) loc:=by
 cases o with
 | arr et e xs=>exact A4.keeps (V:=V.buts hs) hk hb h
 | box et st fs =>
  obtain⟨h0,b,cs,hl,hh,hcs⟩:=h
  exact A4.keeps (V:=V.buts hs) (o:=.box et st (AV.fgts hs fs)) hk hb ⟨fun hst=>by rw[Qb];exact h0 hst,b,cs,hl,hh,SK hcs⟩
 | mapo k v l=>exact A4.keeps (V:=V.buts hs) hk hb h
 | nest et iet k e xs hl=>exact A4.keeps (V:=V.buts hs) (o:=.nest et iet k e xs hl) hk hb (Lh (V:=V) (V':=V.buts hs) rfl rfl h)
 | frame tm fs =>
  obtain⟨h0,h1⟩:=h
  refine A4.keeps (V:=V.buts hs) (o:=.frame tm (B7 hs fs)) hk hb ⟨h0,fun s z hz=>?_⟩
  rw[EW]at hz
  simp only[Option.map_eq_some_iff]at hz
  obtain⟨y,hy,rfl⟩:=hz
  exact RW (h1 s y hy)
 | loop L=>exact A4.keeps (V:=V.buts hs) hk hb h
 | dfr=>exact A4.keeps (V:=V.buts hs) hk hb h
section
variable {w0:World} {K O0:Nat→Prop} {nt:Nat} {ds:Fp} {σ:St} {ρ:Nat→Value} {a:Act} {w:World}
theorem Bq.swap (h:Bq w0 K O0 nt ds σ ρ a w) (hK:∀b,K b→b<w0.heap.size) (hO:∀b,O0 b→b<w0.heap.size) {T:Nat→Prop} (hT:∀n,T n→GF n=false∧∃o,lk n σ.objs=some o∧seat (ρ n))
  {new:List (Nat×Obj)} {σ':St} {ρ':Nat→Value} {w':World} {dst:Option Nat} {u:Value}
  (hos:w'.os=w.os) (htape:w'.tape=w.tape) (hout:w'.output=w.output) (hsz:w.heap.size≤w'.heap.size)
  (hheap:∀b,b<w.heap.size→(∀n,T n→¬bk (ρ n) b)→w'.heap[b]?=w.heap[b]?)
  (hold:∀n o,lk n σ'.objs=some o→lk n new=none→¬T n∧∃o1,lk n σ.objs=some o1)
  (hkeep:∀n o,lk n σ.objs=some o→¬T n→lk n new=none∧∃o1,lk n σ'.objs=some o1)
  (hρ:∀n,lk n new=none→ρ' n=ρ n)
  (hpl:∀n o b,lk n new=some o→bk (ρ' n) b→(∃m,T m∧bk (ρ m) b)∨w.heap.size≤b)
  (hdist:∀n m o o' b,lk n new=some o→lk m new=some o'→bk (ρ' n) b→bk (ρ' m) b→n=m)
  (hobjs:∀n o,lk n σ'.objs=some o→A4 (vw w' O0 σ' ρ') o (ρ' n))
  (henv:∀s v,lk s σ'.env=some v→B5 (vw w' O0 σ' ρ') v ((a.put dst u).tmps.getD s undef)) :
  Bq w0 K O0 nt ds σ' ρ' (a.put dst u) w':=by
 have hblk:∀m,T m→∀b,bk (ρ m) b→b<w.heap.size:=fun m hm b hb=>by
  obtain⟨_,o,ho,_⟩:=hT m hm
  exact(h.objs m o ho).block_lt hb
 have hfree:∀m,T m→∀b,bk (ρ m) b→¬K b∧¬O0 b:=fun m hm b hb=>by
  obtain⟨_,o,ho,_⟩:=hT m hm
  exact h.free m b ⟨o,ho⟩ hb
 refine⟨⟨hos.trans h.frm.os,htape.trans h.frm.tape,hout.trans h.frm.output,Nat.le_trans h.frm.size hsz,fun k hk=>?_⟩,by rw[Nk];exact h.nt,by rw[JU];exact h.defers,fun p hp=>?_,hobjs,?_,?_,henv⟩
 ·exact(hheap k (Nat.lt_of_lt_of_le (hK k hk) h.frm.size) fun n hn hb=>(hfree n hn k hb).1 hk).trans (h.frm.block k hk)
 ·obtain⟨⟨o,h1⟩,h2,h3⟩:=h.pin p hp
  have hne:¬T p.1:=fun ht=>by
   obtain⟨hf,_,_,hs⟩:=hT _ ht
   rw[h2]at hs
   rcases h3 with h3|h3
   ·rcases hs with ⟨_,_,_,he⟩|⟨_,he⟩<;>rw[he]at h3<;>cases h3
   ·rw[hf]at h3;cases h3
  obtain⟨g1,g2⟩:=hkeep p.1 o h1 hne
  exact⟨g2,(hρ _ g1).trans h2,h3⟩
 ·intro n b hl hb
  obtain⟨o,ho⟩:=hl
  cases hn:lk n new with
  | none =>
   obtain⟨_,o1,h1⟩:=hold n o ho hn
   rw[hρ n hn]at hb
   exact h.free n b ⟨o1,h1⟩ hb
  | some o2 =>
   rcases hpl n o2 b hn hb with ⟨m,hm,hb'⟩|hge
   ·exact hfree m hm b hb'
   ·have:=h.frm.size
    exact⟨fun hk'=>by have:=hK b hk';omega,fun hk'=>by have:=hO b hk';omega⟩
 ·have key:∀n m o o2 b,lk n σ'.objs=some o→lk n new=none→lk m new=some o2→bk (ρ' n) b→bk (ρ' m) b→False:=by
   intro n m o o2 b ho hn hm h1 h2
   obtain⟨hnt,o1,ho1⟩:=hold n o ho hn
   rw[hρ n hn]at h1
   rcases hpl m o2 b hm h2 with ⟨m',hm',hb'⟩|hge
   ·obtain⟨_,o3,ho3,_⟩:=hT m' hm'
    have:=h.dist n m' b ⟨o1,ho1⟩ ⟨o3,ho3⟩ h1 hb'
    exact hnt (this▸hm')
   ·have hlt:b<w.heap.size:=(h.objs n o1 ho1).block_lt h1
    omega
  intro n m b hl hl' h1 h2
  obtain⟨o,ho⟩:=hl
  obtain⟨o',ho'⟩:=hl'
  cases hn:lk n new with
  | none =>
   cases hm:lk m new with
   | none =>
    obtain⟨_,o1,ho1⟩:=hold n o ho hn
    obtain⟨_,o2,ho2⟩:=hold m o' ho' hm
    rw[hρ n hn]at h1
    rw[hρ m hm]at h2
    exact h.dist n m b ⟨o1,ho1⟩ ⟨o2,ho2⟩ h1 h2
   | some o2=>exact(key n m o o2 b ho hn hm h1 h2).elim
  | some o1 =>
   cases hm:lk m new with
   | none=>exact(key m n o' o1 b ho' hm hn h2 h1).elim
   | some o2=>exact hdist n m o1 o2 b hn hm h1 h2
end
end
/- A nested array turned within: what looks at its rows stays. -/
section
open Go Go.RowKit
structure RJ (V V':Vw) (n:Nat) (hs:List Nat):Prop where
 O:∀b,b<V.w.heap.size→¬V.O b→¬V'.O b
 L:∀m,V.L m→Aa m hs=false→V'.L m
 ρ:∀m,V.L m→Aa m hs=false→m≠n→V'.ρ m=V.ρ m
 tup:∃vs,V.ρ n=.tuple vs
 plc:plc (V'.ρ n)=plc (V.ρ n)
 heap:∀b,b<V.w.heap.size→¬V.O b→V'.w.heap[b]?=V.w.heap[b]?
section
variable {V V':Vw} {n:Nat} {hs:List Nat}
theorem RJ.pl (h:RJ V V' n hs) {m:Nat} (hL:V.L m) (hm:Aa m hs=false):Fw.plc (V'.ρ m)=Fw.plc (V.ρ m):=by
 by_cases e:m=n
 ·subst e;exact h.plc
 ·rw[h.ρ m hL hm e]
theorem RJ.ptr (h:RJ V V' n hs) {m:Nat} (hL:V.L m) (hm:Aa m hs=false) {v:Value} (hv:V.ρ m=v) (hne:∀vs,v≠.tuple vs):V'.ρ m=v:=by
 have e:m≠n:=fun e=>by
  obtain⟨vs,h1⟩:=h.tup
  rw[←e,hv]at h1
  exact hne vs h1
 rw[h.ρ m hL hm e,hv]
theorem XA (h:RJ V V' n hs) {x:AV} {v:Value} (hx:R7 V x v):R7 V' (x.trn n hs) v:=by
 cases x
 case ag l=>exact hx.elim
 case tup l=>exact hx.elim
 case p t d=>simp only[AV.trn];exact Bk.mono h.O h.heap hx
 case raw u=>simp only[AV.trn];exact hx
 case fn f=>simp only[AV.trn];exact hx
 case top=>trivial
 case ip t d =>
  simp only[AV.trn]
  obtain⟨ad,cs,hv,hO,hc,hr⟩:=hx
  have hlt:ad.block<V.w.heap.size:=by
   have hp:=t.size_pos
   have hl:=hr.length
   have:=block_lt_of_cell (hc 0 (cs[0]'(by omega)) (List.getElem?_eq_getElem (by omega)))
   rwa [B3]at this
  refine⟨ad,cs,hv,h.O _ hlt hO,fun j u hj=>?_,Bj.mono h.O h.heap hr⟩
  rw[World.cell?_of_block (w:=V.w) (w':=V'.w)]
  ·exact hc j u hj
  ·rw[B3];exact h.heap _ hlt hO
 case sr m e lo hi =>
  simp only[AV.trn]
  split
  ·trivial
  ·rename_i hm
   have hm:Aa m hs=false:=by simpa using hm
   exact⟨h.L m hx.1 hm,by rw[h.pl hx.1 hm];exact hx.2⟩
 case ep m e i path off =>
  simp only[AV.trn]
  split
  ·trivial
  ·rename_i hm
   have hm:Aa m hs=false:=by simpa using hm
   exact⟨h.L m hx.1 hm,by rw[h.pl hx.1 hm];exact hx.2⟩
 case nin m e i len =>
  simp only[AV.trn]
  split
  ·trivial
  ·rename_i hm
   have hm1:m≠n:=fun e=>hm (.inl e)
   have hm2:Aa m hs=false:=by
    cases hb:Aa m hs with
    | false=>rfl
    | true=>exact absurd (.inr hb) hm
   exact⟨h.L m hx.1 hm2,by rw[h.ρ m hx.1 hm2 hm1];exact hx.2⟩
 case bp m path off =>
  simp only[AV.trn]
  split
  ·trivial
  ·rename_i hm
   have hm:Aa m hs=false:=by simpa using hm
   obtain⟨hL,b,hb,hv⟩:=hx
   exact⟨h.L m hL hm,b,h.ptr hL hm hb (fun _ e=>by cases e),hv⟩
 case mp m =>
  simp only[AV.trn]
  split
  ·trivial
  ·rename_i hm
   have hm:Aa m hs=false:=by simpa using hm
   obtain⟨hL,b,hb,hv⟩:=hx
   exact⟨h.L m hL hm,b,h.ptr hL hm hb (fun _ e=>by cases e),hv⟩
 case yl m =>
  simp only[AV.trn]
  split
  ·trivial
  ·rename_i hm
   have hm:Aa m hs=false:=by simpa using hm
   obtain⟨hL,b,hb,hv⟩:=hx
   exact⟨h.L m hL hm,b,h.ptr hL hm hb (fun _ e=>by cases e),hv⟩
 case clo f ns =>
  simp only[AV.trn]
  split
  ·trivial
  ·rename_i hne
   have hno:∀m∈ns,Aa m hs=false:=fun m hm=>by
    cases hb:Aa m hs with
    | false=>rfl
    | true=>exact absurd (List.any_eq_true.2 ⟨m,hm,hb⟩) hne
   have hpt:∀m∈ns,V'.ρ m=V.ρ m:=fun m hm=>by
    obtain⟨hL,b,hb⟩:=hx.2 m hm
    rw[h.ptr hL (hno m hm) hb (fun _ e=>by cases e),hb]
   refine⟨?_,fun m hm=>⟨h.L m (hx.2 m hm).1 (hno m hm),by rw[hpt m hm];exact(hx.2 m hm).2⟩⟩
   rw[hx.1]
   congr 2
   exact List.map_congr_left fun m hm=>(hpt m hm).symm
theorem A05 (h:RJ V V' n hs) {x:AV} {cs:List Value} (hx:MU V x cs):MU V' (x.trn n hs) cs:=by
 cases x
 case p t d=>simp only[AV.trn];exact(Bj.mono h.O h.heap hx:Bj V'.w V'.O t cs d)
 case ag l=>obtain⟨v,_,_,hf⟩:=hx;exact hf.elim
 case tup l=>obtain⟨v,_,_,hf⟩:=hx;exact hf.elim
 all_goals
  obtain⟨v,rfl,h1,h2⟩:=hx
  have h3:=XA h h2
  simp only[AV.trn]at h3 ⊢
  first
   | exact⟨v,rfl,h1,h3⟩
   | (split at h3<;>rename_i hc<;>first|(rw[if_pos hc];exact⟨v,rfl,h1,h3⟩)|(rw[if_neg hc];exact⟨v,rfl,h1,h3⟩))
theorem SL (h:RJ V V' n hs):∀ {l:List AV} {cs:List Value},DQ V l cs→DQ V' (AV.trns n hs l) cs
 | [],cs,hx=>(hx:cs=[])
 | x :: r,cs,hx=>by
  obtain⟨c1,c2,rfl,h1,h2⟩:=hx
  simp only[AV.trns]
  exact⟨c1,c2,rfl,A05 h h1,SL h h2⟩
theorem Yq (h:RJ V V' n hs):∀ {l:List AV} {vs:List Value},Io V l vs→Io V' (AV.trns n hs l) vs
 | [],vs,hx=>(hx:vs=[])
 | x :: r,vs,hx=>by
  obtain⟨v,vs',rfl,h1,h2⟩:=hx
  simp only[AV.trns]
  exact⟨v,vs',rfl,XA h h1,Yq h h2⟩
theorem XB (h:RJ V V' n hs) {x:AV} {v:Value} (hx:B5 V x v):B5 V' (x.trn n hs) v:=by
 cases x
 case ag l=>obtain⟨cs,h1,h2⟩:=hx;simp only[AV.trn];exact⟨cs,h1,SL h h2⟩
 case tup l=>obtain⟨vs,h1,h2⟩:=hx;simp only[AV.trn];exact⟨vs,h1,Yq h h2⟩
 all_goals exact pP (XA h hx)
theorem E9 (n:Nat) (hs:List Nat) (s:Nat):∀l:List (Nat×AV),lk s (Dy n hs l)=(lk s l).map (AV.trn n hs)
 | []=>rfl
 | (j,v) :: l=>by
  simp only[Dy,lk]
  split
  ·rfl
  ·exact E9 n hs s l
theorem Qc (n:Nat) (hs:List Nat):∀l:List AV,(AV.trns n hs l).length=l.length
 | []=>rfl
 | _ :: r=>by simp[AV.trns,Qc n hs r]
theorem DD (n:Nat) (hs:List Nat) (m:Nat):∀l:List (Nat×Obj),lk m (CO n hs l)=if Aa m (n :: hs)=true then none else (lk m l).map (Obj.trn n hs)
 | []=>by simp[CO,lk]
 | (j,o) :: l=>by
  simp only[CO]
  by_cases hj:Aa j (n :: hs)=true
  ·rw[if_pos hj,DD n hs m l]
   by_cases hm:m=j
   ·subst hm;simp[hj]
   ·simp[lk,hm]
  ·rw[if_neg hj]
   simp only[lk]
   by_cases hm:m=j
   ·subst hm;simp[hj]
   ·simp[hm,DD n hs m l]
theorem gG (h:RJ V V' n hs) {o:Obj} {loc:Value} (hb:∀b,bk loc b→V'.w.heap[b]?=V.w.heap[b]?) (hx:A4 V o loc):A4 V' (o.trn n hs) loc:=by
 have hk:Ck ⟨V.w,V.O,fun _=>False,V.ρ⟩ V':=⟨h.O,fun _ h=>h.elim,fun _ h=>h.elim,h.heap⟩
 cases o with
 | arr et e xs=>exact A4.keeps (V:=⟨V.w,V.O,fun _=>False,V.ρ⟩) (o:=.arr et e xs) hk hb hx
 | box et st fs =>
  obtain⟨h0,b,cs,rfl,h1,h2⟩:=hx
  exact⟨fun hst=>by rw[Qc];exact h0 hst,b,cs,rfl,(hb b (.inl rfl)).trans h1,SL h h2⟩
 | mapo k v l=>exact A4.keeps (V:=⟨V.w,V.O,fun _=>False,V.ρ⟩) (o:=.mapo k v l) hk hb hx
 | nest et iet k e xs hl=>exact A4.keeps (V:=⟨V.w,V.O,fun _=>False,V.ρ⟩) (o:=.nest et iet k e xs hl) hk hb (Lh (V:=V) (V':=⟨V.w,V.O,fun _=>False,V.ρ⟩) rfl rfl hx)
 | frame tm fs =>
  obtain⟨h0,h1⟩:=hx
  refine⟨h0,fun s z hz=>?_⟩
  rw[E9]at hz
  simp only[Option.map_eq_some_iff]at hz
  obtain⟨y,hy,rfl⟩:=hz
  exact XB h (h1 s y hy)
 | loop L=>exact A4.keeps (V:=⟨V.w,V.O,fun _=>False,V.ρ⟩) (o:=.loop L) hk hb hx
 | dfr=>exact A4.keeps (V:=⟨V.w,V.O,fun _=>False,V.ρ⟩) (o:=.dfr) hk hb hx
end
end
/- Stores. -/
section
open Go Go.RowKit
theorem cJ {t:Ty} (h:t.cell1=true):t.size=1:=by cases t<;>simp[Ty.cell1]at h<;>rfl
theorem VE {V:Vw} {ty:Ty} {x:AV} {es:List Value} (hx:MU V x es) (hf:MR ty x=true):es.length=ty.size:=by
 by_cases ht:x=.top
 ·subst ht
  obtain⟨v,rfl,_⟩:=hx
  simp only[MR]at hf
  rw[cJ hf];rfl
 ·have hf:CF ty x=true:=by cases x<;>first|exact hf|exact absurd rfl ht
  exact(cG hx hf).1
theorem pQ {V:Vw} {ty:Ty} {st:Bool} {fs fs':List AV} {path:List Nat} {off:Nat} {u v:AV} {cs vs:List Value} (hcs:DQ V fs cs) (hst:st=false→fs.length=1)
  (h:JP st fs v path=some fs') (ho:NZ fs path=some off) (hl:Ii st fs path=some u) (hu:MR ty u=true) (hv:CF ty v=true)
  (hag:∀l,v=.ag l→DQ V l vs) (hc:(∀l,v≠.ag l)→MU V v vs) (hlen:vs.length=ty.size) :
  off+vs.length≤cs.length∧DQ V fs' (Ay cs off vs)∧(st=false→fs'.length=1):=by
 unfold JP at h
 split at h
 ·simp only[NZ]at ho
  cases ho
  simp only[Ii]at hl
  cases st with
  | true =>
   simp only[if_true]at h hl
   cases hl
   have hsz:cs.length=ty.size:=by
    have:=hcs.length
    cases ty<;>simp only[MR,CF]at hu<;>try(cases hu;done)
    simp only[beq_iff_eq]at hu
    simp only[Ty.size]
    omega
   rw[Da (by omega)]
   split at h
   ·rename_i u' d
    cases h
    have h1:MU V (.p (.agg u') d) vs:=hc (by simp)
    have h1:Bj V.w V.O u' vs d:=h1
    exact⟨by omega,uA V u' d vs h1,by simp⟩
   ·rename_i l
    cases h
    exact⟨by omega,hag _ rfl,by simp⟩
   ·cases h
  | false =>
   simp only[Bool.false_eq_true,if_false]at h hl
   split at h
   ·rename_i hna
    have hna:∀l,v≠.ag l:=fun l e=>by subst e;simp[Nc]at hna
    cases h
    obtain⟨x,rfl⟩:=List.length_eq_one_iff.1 (hst rfl)
    simp at hl
    subst hl
    obtain⟨c1,c2,rfl,h1,h2⟩:=hcs
    have h2:c2=[]:=h2
    subst h2
    have h3:=VE h1 hu
    rw[List.append_nil,Da (by omega)]
    exact⟨by omega,⟨vs,[],by simp,hc hna,rfl⟩,by simp⟩
   ·cases h
 ·rename_i k
  split at h
  ·rename_i AA
   simp only[Bool.and_eq_true]at AA
   obtain⟨rfl,hna⟩:=AA
   have hna:∀l,v≠.ag l:=fun l e=>by subst e;simp[Nc]at hna
   cases h
   simp only[Ii,if_true]at hl
   obtain⟨h1,h2⟩:=hcs.get hl
   have h3:=VE h2 hu
   have h4:=h2.length
   have hoff:off=Bx fs k:=by
    simp only[NZ,hl]at ho
    cases u<;>simp only[KO,Option.map_some,List.isEmpty_nil,if_true]at ho<;>cases ho<;>rfl
   subst hoff
   have hvc:=hc hna
   have h5:=hvc.length
   exact⟨by omega,hcs.set hl hvc (by omega),by simp⟩
  ·cases h
 ·rename_i k r hr
  cases st with
  | false=>simp at h
  | true =>
   simp only[if_true]at h
   split at h
   ·rename_i t d u' x hk
    simp only[Option.map_eq_some_iff]at h
    obtain⟨y,hy,rfl⟩:=h
    simp only[NZ,hk,Option.map_eq_some_iff]at ho
    obtain⟨o',ho',rfl⟩:=ho
    obtain⟨h1,h2⟩:=hcs.get hk
    have h2':Bj V.w V.O t _ d:=h2
    have hvc:Bj V.w V.O u' vs x:=hc (by simp)
    obtain⟨h5,h6⟩:=SB hy ho' h2' hvc
    have hl2:=h2.length
    simp only[AV.cells]at h1 hl2 h6 h5
    have hset:=hcs.set (y:=.p t y) hk (h5:Bj V.w V.O t _ y) rfl
    rw[MW _ _ _ _ _ (by omega) h1]at hset
    exact⟨by omega,hset,by simp⟩
   ·cases h
section
variable {P:Program} {tb:Tb} {w0:World} {K O0:Nat→Prop} {nt:Nat} {ds:Fp} {σ σ':St} {ρ:Nat→Value} {a:Act} {w:World} {vc:Prop}
theorem Qd {n:Nat} {o:Obj} (hn:lk n σ.objs=some o) {g:Nat} (hb:blk (ρ n)=some g) {w':World} (hg:w.grownBy w' (some g)):Ck (vw w O0 σ ρ) (vw w' O0 σ ρ) :=
 ⟨fun _ _ h=>h,fun _ h=>h,fun _ _=>rfl,fun b hlt hO=>hg.block b hlt (fun e=>by injection e with e;subst e;exact hO (.inr ⟨n,⟨o,hn⟩,.inl hb⟩))⟩
theorem FU (w:World) (g:Nat) (cs:Array Value):w.grownBy (w.setRow g cs) (some g) :=
 ⟨rfl,rfl,rfl,by simp,fun k _ hk=>setRow_other w g k cs (fun e=>hk (by rw[e]))⟩
theorem Ke {id:TypeId} {ti:TI} (hT:ED P tb id ti) {g off:Nat} {cs:List Value} {et:TypeId} {xv:Value} (hh:w.heap[g]?=some (.cells cs.toArray et (0,0))) (hs:xv.cells.size=ti.ty.size)
  (hl:off+xv.cells.toList.length≤cs.length) (h1:∀u∈xv.cells.toList,u.oneCell'=true) :
  (Instr.storeAt id (.pointer (some ⟨g,off,none⟩)) xv).run P w=.ok () (w.setRow g (Ay cs off xv.cells.toList).toArray):=by
 have hst:=run_storeCells_at P g off et xv.cells.toList 0 cs.toArray w hh (by simpa using hl) h1
 simp only[Nat.add_zero]at hst
 have hne:¬xv.cells.size≠ti.ty.size:=by omega
 simp only[Instr.storeAt,Instr.sureAddr,storeVar,Sem.run_bind,Sem.run_pure,Result.andThen_ok,HB w hT,if_neg hne,hst]
 rfl
theorem gH {o:Oper} {w':World} {next:Act→World→Prop} {Q:Exit→Act→World→Prop} {r:Option Nat} (h:(execOp a.eval o).run P w=.ok .skip w') (hn:next (a.put o.dst undef) w') (hnd:∀c,o.op≠.defer c:=by intro c e;cases e):o.wpIn (FR r) 0 P a w next Q:=by
 refine⟨fun _ _=>trivial,?_⟩
 rw[GJ _ _ _ hnd,h]
 exact hn
theorem pR (hs:Bq w0 K O0 nt ds σ ρ a w) (hK:∀b,K b→b<w0.heap.size) (hT:Dp P tb) {id:TypeId} {x y:Operand} (hno:∀n e i path off,Av σ x=some (.ep n e i path off)→CX (lk n σ.objs)=false) (h:G9 σ (lk id tb.ty) (Av σ x) (Av σ y)=some (vc,σ')) (hvc:vc) :
  ∃w',(Instr.storeAt id (a.eval x) (a.eval y)).run P w=.ok () w'∧Bq w0 K O0 nt ds σ' ρ a w':=by
 have hev:Hj (vw w O0 σ ρ) σ a.eval:=F1 hs.env
 unfold G9 at h
 split at h
 ·rename_i ti n path off v ht hx hy
  have hxv:=hev x _ hx
  have hyv:=hev y _ hy
  cases hn:lk n σ.objs with
  | none=>rw[hn]at h;simp[DX]at h
  | some o =>
   rw[hn]at h
   cases o with
   | arr et e xs=>simp[DX]at h
   | mapo k v l=>simp[DX]at h
   | frame tm fs=>simp[DX]at h
   | loop L=>simp[DX]at h
   | dfr=>simp[DX]at h
   | nest et iet k e xs hl=>simp[DX]at h
   | box et st fs =>
    simp only[DX]at h
    cases hlb:Ii st fs path with
    | none=>rw[hlb]at h;simp[Em]at h
    | some u =>
     cases hsb:JP st fs v path with
     | none=>rw[hlb,hsb]at h;simp[Em]at h
     | some fs' =>
      rw[hlb,hsb]at h
      simp only[Em]at h
      split at h
      ·rename_i AA
       obtain⟨hu,hv,ho,_⟩:=AA
       cases h
       obtain⟨hst,b,cs,hloc,hheap,hcs⟩:=hs.objs n _ hn
       obtain⟨hL,b',hρ,hxe⟩:=hxv
       have hρ:ρ n=_:=hρ
       rw[hloc]at hρ
       injection hρ with hρ
       injection hρ with hρ
       injection hρ with hρ
       subst hρ
       have hfc:=tZ hyv hv (MX hyv hv)
       have hag:∀l,v=.ag l→DQ (vw w O0 σ ρ) l (a.eval y).cells.toList:=by
        intro l e
        subst e
        obtain⟨cs',he,hcs'⟩:=hyv
        rw[he]
        simpa[Value.cells] using hcs'
       obtain⟨h1,h2,h3⟩:=pQ hcs hst hsb ho hlb hu hv hag (fun hna=>hfc.2 hna) (by simpa using hfc.1)
       have hone:∀z∈(a.eval y).cells.toList,z.oneCell'=true:=by
        by_cases hna:∃l,v=.ag l
        ·obtain⟨l,e⟩:=hna
         exact(hag l e).one
        ·exact(hfc.2 (fun l e=>hna ⟨l,e⟩)).one
       have hrun:=Ke (hT _ _ ht) hheap hfc.1 h1 hone
       rw[hxe]
       refine⟨_,hrun,?_⟩
       have hb:blk (ρ n)=some b:=by rw[hloc];rfl
       refine hs.upd hK hn hb (FU w b _) ⟨h3,b,_,hloc,setRow_heap w b _ _ et _ hheap,?_⟩
       exact h2.keeps (Qd hn hb (FU w b _))
      ·cases h
 ·rename_i ti n e i path off v ht hx hy
  have hxv:=hev x _ hx
  have hyv:=hev y _ hy
  cases hn:lk n σ.objs with
  | none=>rw[hn]at h;simp[DY]at h
  | some o =>
   rw[hn]at h
   cases o with
   | box et st fs=>simp[DY]at h
   | mapo k v l=>simp[DY]at h
   | frame tm fs=>simp[DY]at h
   | loop L=>simp[DY]at h
   | dfr=>simp[DY]at h
   | nest et iet k e xs hl=>have:=hno _ _ _ _ _ hx;rw[hn]at this;cases this
   | arr et e' xs =>
    simp only[DY]at h
    cases hc:BL (.slice e) ⟨.slice e',xs⟩ with
    | none=>rw[hc]at h;simp[EH]at h
    | some ys =>
     obtain⟨rfl,h2⟩:=BW hc
     cases h2
     rw[hc]at h
     cases has:Ml false σ ti.ty v with
     | none=>rw[has]at h;simp[EH]at h
     | some wd =>
      rw[has]at h
      simp only[EH]at h
      cases hsp:R3 path e' (xs.getD i e'.dflt) ⟨ti.ty,wd⟩ with
      | none=>rw[hsp]at h;simp[FQ]at h
      | some z =>
       rw[hsp]at h
       simp only[FQ]at h
       split at h
       ·rename_i hoff
        cases h
        obtain⟨hmx,cells,how,hel⟩:=hs.objs n _ hn
        obtain⟨hL,g,m,c,hρ,hlt,hxe⟩:=hxv
        have hρ:plc (ρ n)=_:=hρ
        have how:w.ownsRow 0 et e'.size (ρ n) xs.length cells:=how
        rw[Gn how]at hρ
        have hel:DR w (own O0 σ ρ) e' cells xs:=hel
        have hvr:=MV (V:=vw w O0 σ ρ) (O':=own O0 σ ρ) (fun _ h=>h) (fun h=>by cases h) hs.objs has hyv
        obtain⟨hsz,hrep⟩:=Uz hvr
        obtain⟨hlen,how2⟩:=how
        rcases how2 with ⟨he,_⟩|⟨g',cap,cur,he,hg0,hheap,hcap,hcapm,hcur,htake⟩
        ·rw[hρ]at he;cases he
        ·rw[hρ]at he
         injection he with he1 he2 he3
         injection he1 with he1
         injection he1 with he1
         subst he1
         subst he2
         have hxi:xs[i]?=some (xs.getD i e'.dflt):=by
          rw[List.getElem?_eq_getElem hlt,List.getD_eq_getElem?_getD,List.getElem?_eq_getElem hlt];rfl
         obtain⟨es,hes,hec,her⟩:=hel i _ hxi
         obtain⟨h5,h6⟩:=SB hsp hoff her hrep
         have hcl:cells.length=xs.length*e'.size:=hlen
         have hi1:(i+1)*e'.size≤xs.length*e'.size:=Nat.mul_le_mul_right _ hlt
         have hic:xs.length*e'.size≤cap*e'.size:=Nat.mul_le_mul_right _ hcap
         rw[Nat.succ_mul]at hi1
         have hb1:i*e'.size+off+(a.eval y).cells.toList.length≤cur.toList.length:=by
          have hl1:cur.toList.length=cap*e'.size:=by rw[←hcur];simp
          have hl2:(a.eval y).cells.toList.length=ti.ty.size:=by rw[←hsz];simp
          omega
         have hheap':w.heap[g]?=some (.cells cur.toList.toArray et (0,0)):=by simpa using hheap
         have hrun:=Ke (hT _ _ ht) hheap' hsz hb1 hrep.one
         rw[hxe]
         refine⟨_,hrun,?_⟩
         have hb:blk (ρ n)=some g:=by rw[hρ];rfl
         have hspl:(Ay cur.toList (i*e'.size+off) (a.eval y).cells.toList).length=cur.size:=by rw[Eq hb1];simp
         have htk:(Ay cur.toList (i*e'.size+off) (a.eval y).cells.toList).take (xs.length*e'.size)=Ay cells (i*e'.size+off) (a.eval y).cells.toList:=by
          rw[←htake]
          apply List.ext_getElem?
          intro j
          simp only[Ay,List.append_assoc,List.getElem?_take,List.getElem?_append,List.length_take,List.getElem?_drop,List.take_take]
          have q1:min (i*e'.size+off) cur.toList.length=i*e'.size+off:=by omega
          have q2:min (i*e'.size+off) (xs.length*e'.size)=i*e'.size+off:=by omega
          have q3:min (xs.length*e'.size) cur.toList.length=xs.length*e'.size:=by
           have hl1:cur.toList.length=cap*e'.size:=by rw[←hcur];simp
           omega
          simp only[q1,q2,q3]
          by_cases c1:j<i*e'.size+off
          ·simp[c1,show j<xs.length*e'.size by omega]
          ·by_cases c2:j-(i*e'.size+off)<(a.eval y).cells.toList.length
           ·simp only[c1,c2,if_false,if_true,show j<xs.length*e'.size by omega]
           ·simp only[c1,c2,if_false]
            by_cases c3:j<xs.length*e'.size
            ·rw[if_pos c3,if_pos (by omega)]
            ·rw[if_neg c3,if_neg (by omega)]
         refine hs.upd hK hn hb (FU w g _) ⟨by simpa using hmx,Ay cells (i*e'.size+off) (a.eval y).cells.toList,⟨?_,.inr ⟨g,cap,_,by rw[hρ,he3];simp,Nat.zero_le _,setRow_heap w g _ _ et _ hheap,by simpa using hcap,hcapm,by simp[hspl,hcur],?_⟩⟩,?_⟩
         ·rw[Eq (by omega)];simpa using hlen
         ·simpa using htk
         ·have hk:=Qd (O0:=O0) hn hb (FU w g (Ay cur.toList (i*e'.size+off) (a.eval y).cells.toList).toArray)
          have hnew:DR (vw w O0 σ ρ).w (vw w O0 σ ρ).O e' (Ay cells (i*e'.size+off) (a.eval y).cells.toList) (xs.set i z):=by
           intro k q hq
           rw[List.getElem?_set]at hq
           split at hq
           ·rename_i hik
            subst hik
            cases hq
            refine⟨Ay es off (a.eval y).cells.toList,by rw[Eq h6];exact hes,fun j u hj=>?_,h5⟩
            simp only[Ay,List.append_assoc,List.getElem?_append,List.length_take,List.getElem?_take,List.getElem?_drop]at hj ⊢
            have q1:min off es.length=off:=by omega
            have q2:min (i*e'.size+off) cells.length=i*e'.size+off:=by omega
            simp only[q1]at hj
            simp only[q2]
            by_cases c1:j<off
            ·simp only[c1,if_true]at hj
             simp only[show i*e'.size+j<i*e'.size+off by omega,if_true]
             exact hec _ _ hj
            ·simp only[c1,if_false]at hj
             simp only[show ¬i*e'.size+j<i*e'.size+off by omega,if_false]
             rw[show i*e'.size+j-(i*e'.size+off)=j-off by omega]
             by_cases c2:j-off<(a.eval y).cells.toList.length
             ·simp only[c2,if_true]at hj ⊢
              exact hj
             ·simp only[c2,if_false]at hj ⊢
              have:=hec _ _ hj
              rw[←this]
              congr 1
              omega
           ·rename_i hik
            obtain⟨es',g1,g2,g3⟩:=hel k q hq
            refine⟨es',g1,fun j u hj=>?_,g3⟩
            have hj':=(List.getElem?_eq_some_iff.1 hj).1
            have hcc:=g2 j u hj
            simp only[Ay,List.append_assoc,List.getElem?_append,List.length_take,List.getElem?_take,List.getElem?_drop]
            have q2:min (i*e'.size+off) cells.length=i*e'.size+off:=by omega
            simp only[q2]
            rcases Nat.lt_or_ge k i with hki|hki
            ·have:(k+1)*e'.size≤i*e'.size:=Nat.mul_le_mul_right _ hki
             rw[Nat.succ_mul]at this
             simp only[show k*e'.size+j<i*e'.size+off by omega,if_true]
             exact hcc
            ·have:(i+1)*e'.size≤k*e'.size:=Nat.mul_le_mul_right _ (by omega)
             rw[Nat.succ_mul]at this
             simp only[show ¬k*e'.size+j<i*e'.size+off by omega,if_false,show ¬k*e'.size+j-(i*e'.size+off)<(a.eval y).cells.toList.length by omega]
             rw[←hcc]
             congr 1
             omega
          exact hnew.keeps hk
       ·cases h
 ·cases h
theorem pS (hs:Bq w0 K O0 nt ds σ ρ a w) (hK:∀b,K b→b<w0.heap.size) (hTb:Dp P tb) {t:TypeId} {m x y:Operand} (h:JS tb σ (lk t tb.ty) (Av σ m) (Av σ x) (Av σ y)=some (vc,σ')) :
  ∃w',(Instr.mapUpdate t (a.eval m) (a.eval x) (a.eval y)).run P w=.ok () w'∧Bq w0 K O0 nt ds σ' ρ a w':=by
 have hev:Hj (vw w O0 σ ρ) σ a.eval:=F1 hs.env
 unfold JS at h
 split at h
 ·rename_i k e _ _ n xv yv ht hm hx hy
  have hxv:=hev x _ hx
  have hyv:=hev y _ hy
  obtain⟨hL,b,hρ,hme⟩:=hev m _ hm
  have hρ:ρ n=_:=hρ
  cases hn:lk n σ.objs with
  | none=>rw[hn]at h;simp[QQX]at h
  | some o =>
   rw[hn]at h
   cases o with
   | mapo kt vt l =>
    cases htk:lk k tb.ty with
    | none=>simp[QQX,htk]at h
    | some tk =>
     simp only[QQX,htk,Option.map_some,Option.some.injEq]at h
     split at h
     ·rename_i hc
      obtain⟨rfl,hel⟩:=hc
      cases hkx:Ml false σ tk.ty xv with
      | none=>rw[hkx]at h;simp[GC]at h
      | some kd =>
       cases hvy:Ml false σ vt yv with
       | none=>rw[hkx,hvy]at h;simp[GC]at h
       | some vd =>
        rw[hkx,hvy]at h
        simp only[GC]at h
        split at h
        ·rename_i hkt
         cases h
         have h1:=MV (V:=vw w O0 σ ρ) (O':=own O0 σ ρ) (fun _ h=>h) (fun h=>by cases h) hs.objs hkx hxv
         have h2:=MV (V:=vw w O0 σ ρ) (O':=own O0 σ ρ) (fun _ h=>h) (fun h=>by cases h) hs.objs hvy hyv
         obtain⟨b',es',cl',hloc,hrun,⟨o',ho'⟩,hents⟩:=A3g (w:=w) (V:=vw w O0 σ ρ) hTb (hTb _ _ ht) (n:=n) rfl rfl htk rfl (hs.objs n _ hn) hel hkt h1 h2
         have hloc:ρ n=_:=hloc
         rw[hρ]at hloc
         injection hloc with hloc
         injection hloc with hloc
         subst hloc
         rw[hme]
         refine⟨_,hrun,?_⟩
         have hblk:blk (ρ n)=some b:=by rw[hρ];rfl
         have hg:w.grownBy { w with heap:=w.heap.setIfInBounds b (.map es' cl') } (some b) :=
          ⟨rfl,rfl,rfl,by simp,fun i _ hi=>(MapKept.heap_set ho').2 i (fun e=>hi (by rw[e]))⟩
         refine hs.upd hK hn hblk hg ⟨b,es',cl',hρ,(MapKept.heap_set ho').1,?_⟩
         exact hents.mono (fun _ _ h=>h) (fun b2 hlt hO=>hg.block b2 hlt (fun e=>by injection e with e;subst e;exact hO (.inr ⟨n,⟨_,hn⟩,.inl hblk⟩)))
        ·cases h
     ·cases h
   | _=>simp[QQX]at h
 ·cases h
end
end
/- append onto an owned array; an owned array given up. -/
section
open Go Go.RowKit
section
variable {P:Program} {tb:Tb} {w0:World} {K O0:Nat→Prop} {nt:Nat} {ds:Fp} {σ σ':St} {ρ:Nat→Value} {a:Act} {w:World} {vc:Prop} {id:TypeId}
theorem RY {w:World} {base:Nat} {et:TypeId} {sz n:Nat} {s:Value} {xs:List Value} (h:w.ownsRow base et sz s n xs):s.ownBlock=blk s:=by
 rcases h.2 with ⟨rfl,_⟩|⟨g,cap,cur,rfl,_⟩<;>rfl
theorem Gp (hTb:Dp P tb) {el:TypeId} {e:Ty} (hu:P.underlying id=some (.slice el)) {te:TI} (hte:lk el tb.ty=some te) (hee:te.ty=e) {base ty:Nat} {s xv:Value} {n:Nat} {xs news:List Value}
  (hown:w.ownsRow base el e.size s n xs) {O:Nat→Prop} {ys:List e.den} (hsrc:Src w O e xv ys news) (hvc:(n+ys.length)*te.bytes≤AP) {s':Value} {w':World}
  (hr:(Builtin.append_ #[id,id] ty #[s,xv]).run P w=.ok s' w'):blk s'=blk s∨∀b,blk s'=some b→w.heap.size≤b:=by
 subst hee
 obtain⟨⟨⟨_,hbpos,_⟩,i,z,hi,hsz,hby,hz,hzc⟩,_⟩:=hTb _ _ hte
 have hnm:n+ys.length≤AP:=by
  have:(n+ys.length)*1≤(n+ys.length)*te.bytes:=Nat.mul_le_mul_left _ hbpos
  omega
 have hmx:AP=140737488355328:=rfl
 obtain⟨⟨a,c,rfl,hac⟩,hlen,hel,hone,hmax⟩:=hsrc
 have hs:(sizeOf el).run P w=.ok te.ty.size w:=HB w (hTb _ _ hte)
 have newb:∀ {l cp:Nat} {W:World},Result.ok (Value.slice (some ⟨w.heap.size,0,none⟩) l cp) W=Result.ok s' w'→blk s'=blk s∨∀b,blk s'=some b→w.heap.size≤b:=by
  intro l cp W he
  injection he with h1 h2
  subst h1
  exact .inr (fun b hb=>by simp[blk]at hb;omega)
 have main:∀(ad:Addr) (m:Nat) (nw:List Value),nw.length=m*te.ty.size→(∀(j:Nat) (u:Value),nw[j]?=some u→w.cell? (ad.add j)=some u)→(∀u∈nw,u.oneCell'=true)→n+m≤AP→(n+m)*te.bytes≤AP →
   (Builtin.append_ #[id,id] ty #[s,.slice (some ad) m c]).run P w=.ok s' w'→blk s'=blk s∨∀b,blk s'=some b→w.heap.size≤b:=by
  intro ad m nw hl hc h1 hle hb hr
  rcases hown.2 with ⟨rfl,rfl⟩|⟨g,cap,cur,rfl,hbg,hg,hnc,hcm,hcs,htake⟩
  ·by_cases hm:m=0
   ·subst hm
    have:nw=[]:=List.eq_nil_of_length_eq_zero (by simpa using hl)
    simp[Builtin.append_,run_underlying hu,hs,Builtin.lenOf,Builtin.firstCells,loadCells,loadCellsFrom]at hr
    rw[←hr.1]
    exact .inl rfl
   ·have:=run_append_nil (P:=P) w id ty el i z hu hi hz ad m c nw (by rw[hsz];exact hl) hc (by omega) (by omega) (by rw[hby];simp at hb;omega)
    rw[this]at hr
    exact newb hr
  ·by_cases hroom:n+m≤cap
   ·have hfit:n*i.size+nw.length≤cur.size:=by
     rw[hl,hsz,hcs,←Nat.add_mul];exact Nat.mul_le_mul_right _ hroom
    have:=run_append_room (P:=P) w id ty el i hu hi g n cap cur hg ad m c nw (by rw[hsz];exact hl) hc h1 hroom hfit
    rw[this]at hr
    injection hr with h2 h3
    subst h2
    exact .inl rfl
   ·have holds:∀j u,xs[j]?=some u→w.cell? ((⟨g,0,none⟩:Addr).add j)=some u:=hown.cells (g:=g) rfl
    have:=run_append_grow (P:=P) w id ty el i z hu hi hz ⟨g,0,none⟩ n cap xs (by rw[hsz];exact hown.1) holds ad m c nw (by rw[hsz];exact hl) hc (by omega) (by omega) (by rw[hby];exact growslice_fits (by omega) (by omega))
    rw[this]at hr
    exact newb hr
 rcases hac with rfl|⟨ad,rfl,hc⟩
 ·have hn0:news=[]:=List.eq_nil_of_length_eq_zero (by simpa using hlen)
  subst hn0
  cases a with
  | none =>
   have:=QW (P:=P) (ty:=ty) hu hs hown c
   rw[show ([]:List te.ty.den).length=0 from rfl,this]at hr
   injection hr with h2 h3
   subst h2
   exact .inl rfl
  | some ad=>exact main ad 0 [] (by simp) (by simp) (by simp) (by simpa using hnm) (by simpa using hvc) hr
 ·exact main ad ys.length news hlen hc hone hnm hvc hr
theorem Nt {w:World} {O:Nat→Prop} {e:Ty} {c1 c2:List Value} {xs ys:List e.den} (h1:DR w O e c1 xs) (h2:DR w O e c2 ys) (hl:c1.length=xs.length*e.size):DR w O e (c1++c2) (xs++ys):=by
 intro i x hi
 rw[List.getElem?_append]at hi
 split at hi
 ·obtain⟨es,g1,g2,g3⟩:=h1 i x hi
  refine⟨es,g1,fun j u hj=>?_,g3⟩
  have:=g2 j u hj
  rw[List.getElem?_append_left (List.getElem?_eq_some_iff.1 this).1]
  exact this
 ·rename_i hlt
  obtain⟨es,g1,g2,g3⟩:=h2 _ x hi
  refine⟨es,g1,fun j u hj=>?_,g3⟩
  have hmul:xs.length*e.size≤i*e.size:=Nat.mul_le_mul_right _ (by omega)
  rw[List.getElem?_append_right (by omega),hl]
  have:=g2 j u hj
  rw[Nat.sub_mul]at this
  rw[←this]
  congr 1
  omega
theorem cK {w:World} {O:Nat→Prop} {e:Ty} {c:List Value} {xs:List e.den} (h:DR w O e c xs) (n:Nat):DR w O e (c.take (n*e.size)) (xs.take n):=by
 intro i x hi
 rw[List.getElem?_take]at hi
 split at hi
 ·rename_i hlt
  obtain⟨es,g1,g2,g3⟩:=h i x hi
  refine⟨es,g1,fun j u hj=>?_,g3⟩
  have hj':=(List.getElem?_eq_some_iff.1 hj).1
  have:(i+1)*e.size≤n*e.size:=Nat.mul_le_mul_right _ hlt
  rw[Nat.succ_mul]at this
  rw[List.getElem?_take,if_pos (by omega)]
  exact g2 j u hj
 ·cases hi
theorem cL (hs:Bq w0 K O0 nt ds σ ρ a w) (hK:∀b,K b→b<w0.heap.size) (hO:∀b,O0 b→b<w0.heap.size) (hT:Dp P tb) {d:Option Nat} (hd:∀k,d=some k→k<nt) {t u ty:TypeId} {x y:Operand}
  (h:Co tb σ d t u (Av σ x) (Av σ y)=some (vc,σ')) (hvc:vc) (harr:∃n e hi,Av σ x=some (.sr n e 0 hi)∧CX (lk n σ.objs)=false) :
  ∃z w' ρ',(Builtin.append_ #[t,u] ty #[a.eval x,a.eval y]).run P w=.ok z w'∧Bq w0 K O0 nt ds σ' ρ' (a.put d z) w':=by
 have hev:Hj (vw w O0 σ ρ) σ a.eval:=F1 hs.env
 obtain⟨n0,e0,hi0,hx0,hno0⟩:=harr
 unfold Co at h
 split at h
 ·rename_i n e hi v hx hy
  obtain⟨rfl,rfl,rfl⟩:n=n0∧e=e0∧hi=hi0:=by rw[hx]at hx0;cases hx0;exact⟨rfl,rfl,rfl⟩
  split at h
  ·rename_i d
   split at h
   ·rename_i htu
    obtain⟨htu,hfx⟩:=htu
    subst htu
    cases hti:lk t tb.ty with
    | none=>rw[hti]at h;simp[EI]at h
    | some ti =>
     rw[hti]at h
     unfold EI at h
     split at h
     ·rename_i e' offs el b he
      cases he
      split at h
      ·rename_i hee
       subst hee
       obtain⟨hu,hsz,te,hte,hte2⟩:=Cm (hT _ _ hti) hT
       rw[hte]at h
       cases hn:lk n σ.objs with
       | none=>rw[hn]at h;cases hys:RF σ e' v<;>rw[hys]at h<;>simp[CY]at h
       | some o =>
        rw[hn]at h
        cases o with
        | box et st fs=>cases hys:RF σ e' v<;>rw[hys]at h<;>simp[CY]at h
        | mapo k1 v1 l=>cases hys:RF σ e' v<;>rw[hys]at h<;>simp[CY]at h
        | frame tm fs=>cases hys:RF σ e' v<;>rw[hys]at h<;>simp[CY]at h
        | loop L=>cases hys:RF σ e' v<;>rw[hys]at h<;>simp[CY]at h
        | nest et iet k1 e1 xs hl=>rw[hn]at hno0;cases hno0
        | dfr=>cases hys:RF σ e' v<;>rw[hys]at h<;>simp[CY]at h
        | arr et e2 xs =>
         simp only[CY]at h
         split at h
         ·rename_i hetel
          subst hetel
          cases hc:BL (.slice e') ⟨.slice e2,xs⟩ with
          | none=>rw[hc]at h;simp[Eo]at h
          | some zs =>
           obtain⟨rfl,h2⟩:=BW hc
           cases h2
           rw[hc]at h
           cases hys:RF σ e2 v with
           | none=>rw[hys]at h;simp[Eo]at h
           | some ys =>
            rw[hys]at h
            simp only[Eo]at h
            cases h
            obtain⟨news,hsrc⟩:=Wx hs.objs hys (hev y _ hy)
            obtain⟨hmx,cells,how,hel⟩:=hs.objs n _ hn
            have how:w.ownsRow 0 et e2.size (ρ n) xs.length cells:=how
            have hel:DR w (own O0 σ ρ) e2 cells xs:=hel
            obtain⟨hL,a0,m,c,hρ,hlo,hhi,a',c',hxe,hc',h0,h1⟩:=hev x _ hx
            have hρ:plc (ρ n)=.slice a0 m c:=hρ
            rw[Gn how]at hρ
            obtain⟨rfl,rfl⟩:=h0 rfl
            simp only[Nat.sub_zero]at hxe
            have hlen0:=how.1
            have hhx:hi≤xs.length:=by
             rcases how.2 with ⟨he,hnn⟩|⟨g,cap,cur,he,_⟩
             ·rw[hρ]at he;injection he;omega
             ·rw[hρ]at he;injection he;omega
            have hmul:hi*e2.size≤xs.length*e2.size:=Nat.mul_le_mul_right _ hhx
            have hpre:w.ownsRow 0 et e2.size (a.eval x) hi (cells.take (hi*e2.size)):=by
             rw[hxe]
             refine⟨by rw[List.length_take];omega,?_⟩
             rcases how.2 with ⟨he,hnn⟩|⟨g,cap,cur,he,r1,r2,r3,r4,r5,r6⟩
             ·rw[hρ]at he
              injection he with e1 e2 e3
              subst e1;subst e3
              have:hi=0:=by omega
              subst this
              exact .inl ⟨rfl,rfl⟩
             ·rw[hρ]at he
              injection he with e1 e2 e3
              subst e1;subst e3
              refine .inr ⟨g,c',cur,rfl,r1,r2,by omega,r4,r5,?_⟩
              rw[←r6,List.take_take,Nat.min_eq_left hmul]
            have hvc':(hi+ys.length)*te.bytes≤AP:=hvc
            obtain⟨z,w',hrun,hown',hgr,hmax⟩:=HC (ty:=ty) hT hu hte hte2 hpre hsrc hvc' (Nat.zero_le _)
            have hwh:=Gp (ty:=ty) hT hu hte hte2 hpre hsrc hvc' hrun
            have hblk:blk (a.eval x)=blk (ρ n):=by
             rw[hxe,hρ]
             cases a'<;>rfl
            rw[hblk]at hwh
            rw[RY hpre,hblk]at hgr
            refine⟨z,w',EV ρ n z,hrun,?_⟩
            have hl2:(xs.take hi++ys).length=hi+ys.length:=by simp;omega
            exact hs.app hK hO hfx hn hgr hwh (by rw[hl2];exact hmax) (by rw[hl2];exact hown') (Nt (cK hel hi) hsrc.elems (by rw[List.length_take,List.length_take];rw[Nat.min_eq_left hhx];omega)) (hd d rfl) hl2.symm
         ·cases h
      ·cases h
     ·cases h
   ·cases h
  ·cases h
 ·rename_i hx _;rw[hx]at hx0;cases hx0
 ·rename_i hx _;rw[hx]at hx0;cases hx0
 ·cases h
/-! ### An owned array given up -/
theorem Lk (n:Nat) (e:Ty) (xs:List e.den) (s:Nat):∀l:List (Nat×AV),lk s (DA n e xs l)=(lk s l).map (AV.frz n e xs)
 | []=>rfl
 | (j,v) :: l=>by
  simp only[DA,lk]
  split
  ·rfl
  ·exact Lk n e xs s l
def Obj.frz (n:Nat) (e:Ty) (xs:List e.den):Obj→Obj
 | .arr et e' ys=>.arr et e' ys
 | .box et st fs=>.box et st (AV.frzs n e xs fs)
 | .mapo k v l=>.mapo k v l
 | .nest et iet k e ys h=>.nest et iet k e ys h
 | .frame tm fs=>.frame tm (DA n e xs fs)
 | .loop L=>.loop L
 | .dfr=>.dfr
theorem Ca (n:Nat) (e:Ty) (xs:List e.den) (s:Nat):∀l:List (Nat×Obj),lk s (A5 n e xs l)=(lk s l).map (Obj.frz n e xs)
 | []=>rfl
 | (j,.arr et e' ys) :: l=>by
  simp only[A5,lk]
  split
  ·rfl
  ·exact Ca n e xs s l
 | (j,.box et st fs) :: l=>by
  simp only[A5,lk]
  split
  ·rfl
  ·exact Ca n e xs s l
 | (j,.mapo k v x) :: l=>by
  simp only[A5,lk]
  split
  ·rfl
  ·exact Ca n e xs s l
 | (j,.nest _ _ _ _ _ _) :: l=>by
  simp only[A5,lk]
  split
  ·rfl
  ·exact Ca n e xs s l
 | (j,.frame tm fs) :: l=>by
  simp only[A5,lk]
  split
  ·rfl
  ·exact Ca n e xs s l
 | (j,.loop L) :: l=>by
  simp only[A5,lk]
  split
  ·rfl
  ·exact Ca n e xs s l
 | (j,.dfr) :: l=>by
  simp only[A5,lk]
  split
  ·rfl
  ·exact Ca n e xs s l
theorem Qf (n:Nat) (e:Ty) (xs:List e.den):∀l:List AV,(AV.frzs n e xs l).length=l.length
 | []=>rfl
 | _ :: r=>by simp[AV.frzs,Qf n e xs r]
section
variable {V V':Vw} {n:Nat} {et:TypeId} {e:Ty} {xs:List e.den}
structure pT (V V':Vw) (n:Nat):Prop where
 w:V'.w=V.w
 ρ:V'.ρ=V.ρ
 L:∀m,V.L m→m≠n→V'.L m
 O:∀b,¬V.O b→¬V'.O b
 n:∀b,bk (V.ρ n) b→¬V'.O b
theorem pT.keeps (h:pT V V' n):Ck (V.but n) V':=⟨fun b _ hb=>h.O b hb,fun m hm=>h.L m hm.1 hm.2,fun m _=>by rw[h.ρ];rfl,fun b _ _=>by rw[h.w];rfl⟩
structure Qg (V V':Vw) (n:Nat) (e:Ty) (xs:List e.den):Prop where
 seat:seat (V.ρ n)
 read:∀lo hi v,DC (plc (V.ρ n)) e.size lo hi v→Bj V'.w V'.O (.slice e) [v] (sub xs lo hi)
theorem Yr {V:Vw} {et:TypeId} {e:Ty} {xs:List e.den} {loc:Value} (ho:A4 V (.arr et e xs) loc):seat loc:=by
 obtain⟨_,cells',how',_⟩:=ho
 rcases how'.2 with ⟨he,_⟩|⟨g,cap,cur,he,_⟩
 ·exact .inl ⟨_,_,_,he⟩
 ·exact .inl ⟨_,_,_,he⟩
theorem pT.arr (h:pT V V' n) (ho:A4 V (.arr et e xs) (V.ρ n)):Qg V V' n e xs:=⟨Yr ho,fun lo hi v hv=>by
 have hr:=Wr (V:=V) (O':=V'.O) h.O (fun b hb=>h.n b (.inl hb)) ho hv
 rwa [←h.w]at hr⟩
theorem pT.nest (h:pT V V' n) {iet:TypeId} {k e:Ty} {xs:List (k.den×List e.den)} (ho:A4 V (.nest et iet k e xs none) (V.ρ n)):Qg V V' n (.agg (.prod k (.slice e))) xs:=⟨by
 obtain⟨o,ins,cells,hl,_⟩:=ho
 exact hl.elim (fun h=>.inr ⟨_,h⟩) (fun h=>.inl ⟨_,_,_,h.1⟩),fun lo hi v hv=>by
 have hr:=Yb (V:=V) (O':=V'.O) h.O h.n ho hv
 rwa [←h.w]at hr⟩
theorem XC (h:pT V V' n) (ho:Qg V V' n e xs) {x:AV} {v:Value} (hx:R7 V x v):R7 V' (x.frz n e xs) v∧((∀t d,x≠.p t d)→∀t d,x.frz n e xs=.p t d→t.wrap [v]=v∧Bj V'.w V'.O t [v] d):=by
 have hk:=h.keeps
 have hns:=ho.seat
 cases x
 case sr m e' lo hi =>
  simp only[AV.frz]
  split
  ·rename_i hmn
   subst hmn
   split
   ·rename_i hee
    subst hee
    obtain⟨hL,hv⟩:=hx
    have hr:=ho.read lo hi v hv
    obtain⟨_,_,_,_,_,_,a',c',hve,_⟩:=hv
    refine⟨⟨[v],hr,by rw[hve];rfl⟩,fun _ t d h=>?_⟩
    injection h with h1 h2
    subst h1
    cases h2
    exact⟨by rw[hve];rfl,hr⟩
   ·exact⟨trivial,fun _ t d h=>by cases h⟩
  ·rename_i hmn
   have:=Hu hns hx
   simp only[AV.drp,if_neg hmn]at this
   exact⟨this.keeps hk,fun _ t d h=>by cases h⟩
 case ep m e' i path off =>
  have:=Hu hns hx
  simp only[AV.drp]at this
  simp only[AV.frz]
  split
  ·exact⟨trivial,fun _ t d h=>by cases h⟩
  ·rename_i hmn
   rw[if_neg hmn]at this
   exact⟨this.keeps hk,fun _ t d h=>by cases h⟩
 case nin m e' i len =>
  have:=Hu hns hx
  simp only[AV.drp]at this
  simp only[AV.frz]
  split
  ·exact⟨trivial,fun _ t d h=>by cases h⟩
  ·rename_i hmn
   rw[if_neg hmn]at this
   exact⟨this.keeps hk,fun _ t d h=>by cases h⟩
 case p t d=>exact⟨(Hu hns hx).keeps hk,fun hp=>absurd rfl (hp t d)⟩
 all_goals
  have:=Hu hns hx
  simp only[AV.drp]at this
  simp only[AV.frz]
  exact⟨this.keeps hk,fun _ t d h=>by cases h⟩
theorem A06 (h:pT V V' n) (ho:Qg V V' n e xs) {x:AV} {cs:List Value} (hx:MU V x cs):MU V' (x.frz n e xs) cs:=by
 by_cases hp:∃t d,x=.p t d
 ·obtain⟨t,d,rfl⟩:=hp
  simp only[AV.frz]
  have hx:Bj V.w V.O t cs d:=hx
  have:Bj V'.w V'.O t cs d:=hx.mono (fun b _ hb=>h.O b hb) (fun b _ _=>by rw[h.w])
  exact this
 ·have hx':∃v,cs=[v]∧v.oneCell'=true∧R7 V x v:=by
   cases x
   case p t d=>exact absurd ⟨t,d,rfl⟩ hp
   all_goals exact hx
  obtain⟨v,rfl,h1,h2⟩:=hx'
  obtain⟨h3,h4⟩:=XC h ho h2
  have h4:=h4 (fun t d e=>hp ⟨t,d,e⟩)
  generalize hy:x.frz n e xs=y at h3 h4
  cases y
  case p t d=>exact(h4 t d rfl).2
  all_goals exact⟨v,rfl,h1,h3⟩
theorem SM (h:pT V V' n) (ho:Qg V V' n e xs):∀ {l:List AV} {cs:List Value},DQ V l cs→DQ V' (AV.frzs n e xs l) cs
 | [],cs,hx=>(hx:cs=[])
 | x :: r,cs,hx=>by
  obtain⟨c1,c2,rfl,h1,h2⟩:=hx
  simp only[AV.frzs]
  exact⟨c1,c2,rfl,A06 h ho h1,SM h ho h2⟩
theorem Ys (h:pT V V' n) (ho:Qg V V' n e xs):∀ {l:List AV} {vs:List Value},Io V l vs→Io V' (AV.frzs n e xs l) vs
 | [],vs,hx=>(hx:vs=[])
 | x :: r,vs,hx=>by
  obtain⟨v,vs',rfl,h1,h2⟩:=hx
  simp only[AV.frzs]
  exact⟨v,vs',rfl,(XC h ho h1).1,Ys h ho h2⟩
theorem gI (h:pT V V' n) (ho:Qg V V' n e xs) {x:AV} {v:Value} (hx:B5 V x v):B5 V' (x.frz n e xs) v:=by
 cases x
 case ag l=>obtain⟨cs,h1,h2⟩:=hx;simp only[AV.frz];exact⟨cs,h1,SM h ho h2⟩
 case tup l=>obtain⟨vs,h1,h2⟩:=hx;simp only[AV.frz];exact⟨vs,h1,Ys h ho h2⟩
 all_goals
  simp only[B5]at hx
  exact pP (XC h ho hx).1
end
theorem Yt (hs:Bq w0 K O0 nt ds σ ρ a w) (n:Nat) (hfx:¬GF n=true) {ob:Obj} (hn:lk n σ.objs=some ob) {e:Ty} {xs:List e.den}
  (hrd:pT (vw w O0 σ ρ) (vw w O0 ⟨DA n e xs σ.env,A5 n e xs (Ua n σ.objs)⟩ ρ) n→Qg (vw w O0 σ ρ) (vw w O0 ⟨DA n e xs σ.env,A5 n e xs (Ua n σ.objs)⟩ ρ) n e xs) :
  Bq w0 K O0 nt ds ⟨DA n e xs σ.env,A5 n e xs (Ua n σ.objs)⟩ ρ a w:=by
 have hobjs:∀m x,lk m (A5 n e xs (Ua n σ.objs))=some x→m≠n∧∃y,lk m σ.objs=some y∧x=y.frz n e xs:=by
  intro m x hm
  rw[Ca,PD]at hm
  split at hm
  ·simp at hm
  ·rename_i hne
   simp only[Option.map_eq_some_iff]at hm
   obtain⟨y,hy,rfl⟩:=hm
   exact⟨hne,y,hy,rfl⟩
 have hliv:∀m,GZ ⟨DA n e xs σ.env,A5 n e xs (Ua n σ.objs)⟩ m↔(GZ σ m∧m≠n):=by
  intro m
  constructor
  ·rintro⟨x,hx⟩
   obtain⟨h1,y,h2,_⟩:=hobjs m x hx
   exact⟨⟨y,h2⟩,h1⟩
  ·rintro⟨⟨x,hx⟩,hne⟩
   exact⟨x.frz n e xs,by simp[Ca,PD,hne,hx]⟩
 have hF:pT (vw w O0 σ ρ) (vw w O0 ⟨DA n e xs σ.env,A5 n e xs (Ua n σ.objs)⟩ ρ) n:=by
  refine⟨rfl,rfl,fun m h1 h2=>(hliv m).2 ⟨h1,h2⟩,fun b hb hb'=>?_,fun b hb hb'=>?_⟩
  ·rcases hb' with h0|⟨m,hl,hm⟩
   ·exact hb (.inl h0)
   ·exact hb (.inr ⟨m,((hliv m).1 hl).1,hm⟩)
  ·have hb:bk (ρ n) b:=hb
   rcases hb' with h0|⟨m,hl,hm⟩
   ·exact(hs.free n b ⟨_,hn⟩ hb).2 h0
   ·exact((hliv m).1 hl).2 (hs.dist m n b ((hliv m).1 hl).1 ⟨_,hn⟩ hm hb)
 have ho:=hrd hF
 have hpin:∀p∈ds.pin,GZ ⟨DA n e xs σ.env,A5 n e xs (Ua n σ.objs)⟩ p.1∧ρ p.1=p.2∧(A36 p.2=true∨GF p.1=true):=by
  intro p hp
  obtain⟨h1,h2,h3⟩:=hs.pin p hp
  refine⟨(hliv p.1).2 ⟨h1,fun e2=>?_⟩,h2,h3⟩
  have h3:A36 p.2=true:=h3.resolve_right (by rw[e2];exact hfx)
  have h4:seat (ρ n):=ho.seat
  rw[←e2,h2]at h4
  rcases h4 with ⟨_,_,_,he⟩|⟨_,he⟩<;>rw[he]at h3<;>cases h3
 refine⟨hs.frm,hs.nt,hs.defers,hpin,?_,?_,?_,?_⟩
 ·intro m x hm
  obtain⟨hne,y,hy,rfl⟩:=hobjs m x hm
  have hob:=hs.objs m y hy
  cases y with
  | arr et' e2 zs=>exact A4.keeps (V:=(vw w O0 σ ρ).but n) hF.keeps (fun _ _=>rfl) hob
  | box et' st fs =>
   obtain⟨h0,b,cs,hl,hh,hcs⟩:=hob
   exact⟨fun hst=>by rw[Qf];exact h0 hst,b,cs,hl,hh,SM hF ho hcs⟩
  | nest et' iet' k' e2 zs hl=>exact A4.keeps (V:=(vw w O0 σ ρ).but n) (o:=.nest et' iet' k' e2 zs hl) hF.keeps (fun _ _=>rfl) (Lh (V:=vw w O0 σ ρ) (V':=(vw w O0 σ ρ).but n) rfl rfl hob)
  | mapo k v l=>exact A4.keeps (V:=(vw w O0 σ ρ).but n) hF.keeps (fun _ _=>rfl) hob
  | frame tm fs =>
   obtain⟨h0,h1⟩:=hob
   refine⟨h0,fun s z hz=>?_⟩
   simp only[Lk,Option.map_eq_some_iff]at hz
   obtain⟨y,hy,rfl⟩:=hz
   exact gI hF ho (h1 s y hy)
  | loop L=>exact A4.keeps (V:=(vw w O0 σ ρ).but n) hF.keeps (fun _ _=>rfl) hob
  | dfr=>exact A4.keeps (V:=(vw w O0 σ ρ).but n) hF.keeps (fun _ _=>rfl) hob
 ·intro m b hl hb
  exact hs.free m b ((hliv m).1 hl).1 hb
 ·intro m m' b hl hl' h1 h2
  exact hs.dist m m' b ((hliv m).1 hl).1 ((hliv m').1 hl').1 h1 h2
 ·intro s v hv
  simp only[Lk,Option.map_eq_some_iff]at hv
  obtain⟨y,hy,rfl⟩:=hv
  exact gI hF ho (hs.env s y hy)
theorem A07 (hs:Bq w0 K O0 nt ds σ ρ a w) (n:Nat):Bq w0 K O0 nt ds (frz n σ) ρ a w:=by
 unfold frz
 split
 ·exact hs
 rename_i hfx
 cases hn:lk n σ.objs with
 | none=>exact hs
 | some ob =>
 cases ob with
 | box et st fs=>exact hs
 | mapo k v l=>exact hs
 | frame tm fs=>exact hs
 | loop L=>exact hs
 | dfr=>exact hs
 | arr et e xs=>exact Yt hs n hfx hn fun h=>h.arr (hs.objs n _ hn)
 | nest et iet k e xs hl =>
  cases hl with
  | some i=>exact hs
  | none=>exact Yt hs n hfx hn fun h=>h.nest (hs.objs n _ hn)
theorem JW:∀ {l:List Nat} {σ:St},Bq w0 K O0 nt ds σ ρ a w→Bq w0 K O0 nt ds (CZ l σ) ρ a w
 | [],_,h=>h
 | n :: r,σ,h=>JW (l:=r) (σ:=frz n σ) (A07 h n)
end
end
/- Append to a nested array's row. -/
section
open Go Go.RowKit
section
variable {P:Program} {tb:Tb} {w0:World} {K O0:Nat→Prop} {nt:Nat} {ds:Fp} {σ σ':St} {ρ:Nat→Value} {a:Act} {w:World} {vc:Prop}
theorem A08 (hs:Bq w0 K O0 nt ds σ ρ a w) (hK:∀b,K b→b<w0.heap.size) (hO:∀b,O0 b→b<w0.heap.size) (hT:Dp P tb) {d:Nat} (hd:d<nt) {t ty:TypeId} {x y:Operand} {n i len:Nat} {e:Ty} {v:AV}
  (hx:Av σ x=some (.nin n e i len)) (hy:Av σ y=some v) {et el:TypeId} {k:Ty} {xs:List (k.den×List e.den)} (hn:lk n σ.objs=some (.nest et el k e xs none)) (hfx:GF n=false)
  (hu:P.underlying t=some (.slice el)) {te:TI} (hte:lk el tb.ty=some te) (hte2:te.ty=e) (h:KV σ d n et el k e xs i te.bytes (RF σ e v)=some (vc,σ')) (hvc:vc) :
  ∃z w' ρ',(Builtin.append_ #[t,t] ty #[a.eval x,a.eval y]).run P w=.ok z w'∧Bq w0 K O0 nt ds σ' ρ' (a.put (some d) z) w':=by
 have hev:Hj (vw w O0 σ ρ) σ a.eval:=F1 hs.env
 cases hys:RF σ e v with
 | none=>rw[hys]at h;simp[KV]at h
 | some ys =>
  rw[hys]at h
  simp only[KV]at h
  split at h
  ·rename_i hfr
   have hdn:lk d σ.objs=none:=by simpa using hfr
   cases h
   obtain⟨news,hsrc⟩:=Wx hs.objs hys (hev y _ hy)
   obtain⟨hL,vs,ad,c,hvs,hvi,hve⟩:=hev x _ hx
   have hvs:ρ n=.tuple vs:=hvs
   have hobj:=hs.objs n _ hn
   have hg:=Ws (z:=(k.dflt,[])) hobj hvs hvi
   obtain⟨o,ins,cells,hshp,hN⟩:=hobj
   obtain rfl:=hshp.tup hvs
   have hvi:ins[i]?=some (a.eval x):=by simpa using hvi
   obtain⟨c1,v',hc1,hr1,h3⟩:=hN.row i _ _ hg hvi
   rcases h3 with ⟨h3,_⟩|⟨_,rfl,hm,ic,how,hel⟩
   ·cases h3
   generalize hrow:xs.getD i (k.dflt,[])=row at *
   obtain⟨z,w',hrun,hown',hgr,hmax⟩:=HC (ty:=ty) hT hu hte hte2 how hsrc hvc (Nat.zero_le _)
   have hwh:=Gp (ty:=ty) hT hu hte hte2 how hsrc hvc hrun
   rw[RY how]at hgr
   have hbn:∀b,bk (ρ n) b↔blk o=some b∨∃(j:Nat) (u:Value),ins[j]?=some u∧blk u=some b:=fun b=>by rw[hvs];exact A2
   have hli:i<ins.length:=(List.getElem?_eq_some_iff.1 hvi).1
   have hnd:n≠d:=fun e1=>by rw[e1,hdn]at hn;cases hn
   generalize hloc:(Value.tuple (o :: ins.set i (.slice none 0 0)).toArray)=loc
   have hρn:EV (EV ρ n loc) d z n=loc:=by simp[EV,hnd]
   have hρd:EV (EV ρ n loc) d z d=z:=Ba _ _ _
   have hρo:∀m,m≠n→m≠d→EV (EV ρ n loc) d z m=ρ m:=fun m h1 h2=>by simp[EV,h1,h2]
   generalize EV (EV ρ n loc) d z=ρ' at hρn hρd hρo
   have hset:∀(j:Nat) (u:Value),(ins.set i (.slice none 0 0))[j]?=some u→(j=i∧u=.slice none 0 0)∨(j≠i∧ins[j]?=some u):=by
    intro j u hj
    rw[List.getElem?_set]at hj
    split at hj
    ·rename_i e1
     have hj:(some (Value.slice none 0 0))=some u:=by
      first|exact hj|(split at hj<;>first|exact hj|cases hj)
     cases hj;exact .inl ⟨e1.symm,rfl⟩
    ·rename_i e1;exact .inr ⟨fun e2=>e1 e2.symm,hj⟩
   have hbl:∀b,bk loc b→blk o=some b∨∃(j:Nat) (u:Value),j≠i∧ins[j]?=some u∧blk u=some b:=by
    intro b hb
    rw[←hloc,A2]at hb
    rcases hb with hb|⟨j,u,hj,hb⟩
    ·exact .inl hb
    ·rcases hset j u hj with ⟨_,rfl⟩|⟨h1,h2⟩
     ·simp[blk]at hb
     ·exact .inr ⟨j,u,h1,h2,hb⟩
   have hbl2:∀b,bk loc b→bk (ρ n) b:=fun b hb=>(hbn b).2 ((hbl b hb).imp id fun⟨j,u,_,h1,h2⟩=>⟨j,u,h1,h2⟩)
   have hbx:∀b,blk (a.eval x)=some b→bk (ρ n) b:=fun b hb=>(hbn b).2 (.inr ⟨i,_,hvi,hb⟩)
   have hblz:∀b,bk z b→blk z=some b:=fun b hb=>by
    rcases hown'.2 with ⟨he,_⟩|⟨g,cap,cur,he,_⟩<;>rw[he]at hb ⊢<;>exact KZ.1 hb
   have hzn:∀b,bk z b→blk (a.eval x)=some b∨w.heap.size≤b:=fun b hb=>by
    rcases hwh with h1|h1
    ·exact .inl (by rw[←h1];exact hblz b hb)
    ·exact .inr (h1 b (hblz b hb))
   have hlt:∀b,bk (ρ n) b→b<w.heap.size:=fun b hb=>(hs.objs n _ hn).block_lt hb
   have hnx:∀b,bk loc b→blk (a.eval x)≠some b:=by
    intro b hb he
    rcases hbl b hb with h1|⟨j,u,h1,h2,h3⟩
    ·exact hN.out i b _ hvi he h1
    ·exact h1 (hN.dist j i b u _ h2 hvi h3 he)
   have hl2:(row.2++ys).length=row.2.length+ys.length:=by simp
   let S:St:=⟨(d,.sr d e 0 (row.2.length+ys.length)) :: Dy n [] σ.env,(d,.arr el e (row.2++ys)) :: (n,.nest et el k e xs (some i)) :: CO n [] σ.objs⟩
   have hSo:∀m ob,lk m S.objs=some ob→(m=d∧ob=.arr el e (row.2++ys))∨(m=n∧m≠d∧ob=.nest et el k e xs (some i))∨(m≠d∧m≠n∧∃o1,lk m σ.objs=some o1∧ob=o1.trn n []):=by
    intro m ob hm
    simp only[S,lk]at hm
    split at hm
    ·rename_i e1;cases hm;exact .inl ⟨e1,rfl⟩
    ·rename_i e1
     split at hm
     ·rename_i e2;cases hm;exact .inr (.inl ⟨e2,e1,rfl⟩)
     ·rename_i e2
      rw[DD]at hm
      split at hm
      ·cases hm
      ·simp only[Option.map_eq_some_iff]at hm
       obtain⟨o1,h1,rfl⟩:=hm
       exact .inr (.inr ⟨e1,e2,o1,h1,rfl⟩)
   have hSl:∀m,m≠d→m≠n→∀o1,lk m σ.objs=some o1→lk m S.objs=some (o1.trn n []):=by
    intro m h1 h2 o1 h3
    simp only[S,lk,if_neg h1,if_neg h2,DD,h3]
    simp[Aa,h2]
   have hownS:∀b,b<w.heap.size→¬own O0 σ ρ b→¬own O0 S ρ' b:=by
    intro b hb hno hyes
    rcases hyes with h0|⟨m,⟨ob,hob⟩,hbm⟩
    ·exact hno (.inl h0)
    ·rcases hSo m ob hob with ⟨rfl,_⟩|⟨rfl,_,_⟩|⟨h1,h2,o1,h3,_⟩
     ·rw[hρd]at hbm
      rcases hzn b hbm with h4|h4
      ·exact hno (.inr ⟨n,⟨_,hn⟩,hbx b h4⟩)
      ·omega
     ·rw[hρn]at hbm
      exact hno (.inr ⟨_,⟨_,hn⟩,hbl2 b hbm⟩)
     ·rw[hρo m h2 h1]at hbm
      exact hno (.inr ⟨m,⟨o1,h3⟩,hbm⟩)
   have hplc:plc loc=o:=by rw[←hloc];rfl
   have hTn:RJ (vw w O0 σ ρ) (vw w' O0 S ρ') n []:=by
    refine⟨hownS,fun m hm _=>?_,fun m hm _ hne=>?_,⟨_,hvs⟩,?_,fun b hb hno=>hgr.block b hb fun e1=>hno (.inr ⟨n,⟨_,hn⟩,hbx b e1.symm⟩)⟩
    ·obtain⟨o1,h1⟩:=hm
     by_cases hmn:m=n
     ·subst hmn;exact⟨.nest et el k e xs (some i),by simp[S,lk,hnd]⟩
     ·have hmd:m≠d:=fun e1=>by rw[e1,hdn]at h1;cases h1
      exact⟨_,hSl m hmd hmn o1 h1⟩
    ·obtain⟨o1,h1⟩:=hm
     exact hρo m hne (fun e1=>by rw[e1,hdn]at h1;cases h1)
    ·show plc (ρ' n)=plc (ρ n)
     rw[hρn,hplc,hvs];rfl
   have hk0:Ck ⟨w,own O0 σ ρ,fun _=>False,ρ⟩ (vw w' O0 S ρ'):=⟨hTn.O,fun _ h=>h.elim,fun _ h=>h.elim,hTn.heap⟩
   refine⟨z,w',ρ',hrun,hs.swap hK hO (T:=fun m=>m=n) (fun m hm=>by obtain rfl:m=n:=hm;exact⟨hfx,_,hn,by rw[hvs];exact .inr ⟨_,rfl⟩⟩) (new:=[(d,.arr el e (row.2++ys)),(n,.nest et el k e xs (some i))]) hgr.os hgr.tape hgr.output hgr.size ?_ ?_ ?_ ?_ ?_ ?_ ?_ ?_⟩
   ·exact fun b hb hno=>hgr.block b hb fun e1=>hno n rfl (hbx b e1.symm)
   ·intro m ob hm hnew
    rcases hSo m ob hm with ⟨rfl,_⟩|⟨rfl,h1,_⟩|⟨h1,h2,o1,h3,_⟩
    ·simp[lk]at hnew
    ·simp[lk,h1]at hnew
    ·exact⟨h2,o1,h3⟩
   ·intro m o1 hm hne
    have hmd:m≠d:=fun e1=>by rw[e1,hdn]at hm;cases hm
    exact⟨by simp[lk,hmd,hne],_,hSl m hmd hne o1 hm⟩
   ·intro m hm
    have hmd:m≠d:=fun e1=>by simp[lk,e1]at hm
    have hmn:m≠n:=fun e1=>by simp[lk,e1,hnd]at hm
    exact hρo m hmn hmd
   ·intro m ob b hm hb
    by_cases hmd:m=d
    ·rw[hmd,hρd]at hb
     exact(hzn b hb).imp (fun h4=>⟨n,rfl,hbx b h4⟩) id
    ·by_cases hmn:m=n
     ·rw[hmn,hρn]at hb
      exact .inl ⟨n,rfl,hbl2 b hb⟩
     ·simp[lk,hmd,hmn]at hm
   ·have key:∀b,bk z b→bk loc b→False:=fun b h1 h2=>by
     rcases hzn b h1 with h3|h3
     ·exact hnx b h2 h3
     ·have:=hlt b (hbl2 b h2);omega
    intro m m' ob ob' b hm hm' hb hb'
    have h1:m=d∨m=n:=by
     by_cases h1:m=d
     ·exact .inl h1
     ·by_cases h2:m=n
      ·exact .inr h2
      ·simp[lk,h1,h2]at hm
    have h2:m'=d∨m'=n:=by
     by_cases h1:m'=d
     ·exact .inl h1
     ·by_cases h2:m'=n
      ·exact .inr h2
      ·simp[lk,h1,h2]at hm'
    rcases h1 with rfl|rfl<;>rcases h2 with h2|h2
    ·exact h2.symm
    ·rw[hρd]at hb;rw[h2,hρn]at hb';exact(key b hb hb').elim
    ·rw[hρn]at hb;rw[h2,hρd]at hb';exact(key b hb' hb).elim
    ·exact h2.symm
   ·intro m ob hm
    rcases hSo m ob hm with ⟨rfl,rfl⟩|⟨rfl,_,rfl⟩|⟨h1,h2,o1,h3,rfl⟩
    ·rw[hρd]
     refine⟨by rw[hl2];exact hmax,_,by rw[hl2];exact hown',?_⟩
     exact DR.keeps hk0 (Nt hel hsrc.elems how.1)
    ·rw[hρn]
     refine⟨o,ins.set i (.slice none 0 0),cells,.inl hloc.symm,hN.max,by rw[List.length_set];exact hN.len,IJ (fun b hb=>hgr.block b (hlt b ((hbn b).2 (.inl hb))) fun e1=>hN.out i b _ hvi e1.symm hb) hN.own,fun j x2 u h1 h2=>?_,?_,?_⟩
     ·rcases hset j u h2 with ⟨rfl,rfl⟩|⟨h3,h4⟩
      ·rw[hg]at h1
       cases h1
       exact⟨c1,_,hc1,Bj.mono hk0.O hk0.heap hr1,.inl ⟨by simp,rfl⟩⟩
      ·obtain⟨c2,v2,g1,g2,g3⟩:=hN.row j x2 u h1 h4
       rcases g3 with ⟨g3,_⟩|⟨_,g4,g5⟩
       ·cases g3
       ·refine⟨c2,v2,g1,Bj.mono hk0.O hk0.heap g2,.inr ⟨beq_eq_false_iff_ne.2 (fun e1=>h3 (by injection e1 with e1;exact e1.symm)),g4,?_⟩⟩
        exact Uf.keeps (V:=⟨w,own O0 σ ρ,fun _=>False,ρ⟩) hk0 (fun b hb=>hgr.block b (hlt b ((hbn b).2 (.inr ⟨j,u,h4,hb⟩))) fun e1=>h3 (hN.dist j i b u _ h4 hvi hb e1.symm)) g5
     ·intro j1 j2 b u1 u2 h1 h2 h3 h4
      rcases hset j1 u1 h1 with ⟨_,rfl⟩|⟨_,h5⟩
      ·simp[blk]at h3
      ·rcases hset j2 u2 h2 with ⟨_,rfl⟩|⟨_,h6⟩
       ·simp[blk]at h4
       ·exact hN.dist j1 j2 b u1 u2 h5 h6 h3 h4
     ·intro j b u h1 h2
      rcases hset j u h1 with ⟨_,rfl⟩|⟨_,h5⟩
      ·simp[blk]at h2
      ·exact hN.out j b u h5 h2
    ·rw[hρo m h2 h1]
     refine gG hTn (fun b hb=>hgr.block b ((hs.objs m o1 h3).block_lt hb) fun e1=>h2 (hs.dist m n b ⟨_,h3⟩ ⟨_,hn⟩ hb (hbx b e1.symm))) (hs.objs m o1 h3)
   ·intro s2 v2 hsv
    rw[Lg a d z s2 (by rw[hs.nt];exact hd)]
    simp only[S,lk]at hsv
    split at hsv
    ·rename_i es
     cases hsv
     rw[if_pos es]
     refine⟨⟨.arr el e (row.2++ys),by simp[S,lk]⟩,?_⟩
     show DC (plc (ρ' d)) e.size 0 _ z
     rw[hρd,Gn hown']
     exact F0 hown'
    ·rename_i es
     rw[if_neg es]
     rw[E9]at hsv
     simp only[Option.map_eq_some_iff]at hsv
     obtain⟨y2,hy2,rfl⟩:=hsv
     exact XB hTn (hs.env s2 y2 hy2)
  ·cases h
end
end
/- A row's own slice laid back into the nested array. -/
section
open Go Go.RowKit
theorem XD {w:World} {et:TypeId} {sz len g m c:Nat} {cells:List Value} (h:w.ownsRow 0 et sz (.slice (some ⟨g,0,none⟩) m c) len cells) {p:Nat} (hp:p<len*sz) (v:Value) :
  ∃cur:List Value,w.heap[g]?=some (.cells cur.toArray et (0,0))∧p+1≤cur.length∧(w.setRow g (Ay cur p [v]).toArray).ownsRow 0 et sz (.slice (some ⟨g,0,none⟩) m c) len (cells.set p v):=by
 obtain⟨hlen,h2⟩:=h
 rcases h2 with ⟨he,_⟩|⟨g',cap,cur,he,hg0,hheap,hcap,hcapm,hcur,htake⟩
 ·cases he
 ·injection he with he1 he2 he3
  injection he1 with he1
  injection he1 with he1
  subst he1
  have hic:len*sz≤cap*sz:=Nat.mul_le_mul_right _ hcap
  have hl1:cur.toList.length=cap*sz:=by rw[←hcur];simp
  have hb1:p + [v].length≤cur.toList.length:=by simp only[List.length_singleton];omega
  have hheap':w.heap[g]?=some (.cells cur.toList.toArray et (0,0)):=by simpa using hheap
  have hset:Ay cur.toList p [v]=cur.toList.set p v:=by
   apply List.ext_getElem?
   intro j
   simp only[Ay,List.append_assoc,List.getElem?_append,List.length_take,List.getElem?_take,List.getElem?_drop,List.length_singleton,List.getElem?_set]
   have q1:min p cur.toList.length=p:=by omega
   simp only[q1]
   by_cases c1:j<p
   ·simp only[c1,if_true]
    rw[if_neg (by omega)]
   ·by_cases c2:j=p
    ·subst c2
     simp only[Nat.lt_irrefl,if_false,Nat.sub_self,Nat.lt_one_iff,if_true]
     rw[if_pos (by omega)];rfl
    ·simp only[c1,if_false,show ¬j-p<1 by omega]
     rw[if_neg (fun e=>c2 e.symm)]
     congr 1
     omega
  refine⟨cur.toList,hheap',by simpa using hb1,?_,.inr ⟨g,cap,_,by rw[he2,he3],Nat.zero_le _,setRow_heap w g _ _ et _ hheap,hcap,hcapm,?_,?_⟩⟩
  ·rw[List.length_set];exact hlen
  ·rw[hset];simp[hcur]
  ·rw[hset,←htake]
   simp[List.take_set]
section
variable {P:Program} {tb:Tb} {w0:World} {K O0:Nat→Prop} {nt:Nat} {ds:Fp} {σ σ':St} {ρ:Nat→Value} {a:Act} {w:World} {vc:Prop}
theorem uH (hs:Bq w0 K O0 nt ds σ ρ a w) (hK:∀b,K b→b<w0.heap.size) (hO:∀b,O0 b→b<w0.heap.size) (hT:Dp P tb) {id:TypeId} {ti:TI} (ht:lk id tb.ty=some ti) {x y:Operand} {n m i hi:Nat} {k e:Ty} (hty:ti.ty=.slice e) {path:List Nat}
  (hx:Av σ x=some (.ep n (.agg (.prod k (.slice e))) i path k.size)) (hy:Av σ y=some (.sr m e 0 hi)) {et iet:TypeId} {xs:List (k.den×List e.den)} {ys:List e.den} (hn:lk n σ.objs=some (.nest et iet k e xs (some i))) (hm:lk m σ.objs=some (.arr iet e ys))
  (hfn:GF n=false) (hfm:GF m=false) (hvc:hi=ys.length) :
  ∃w' ρ',(Instr.storeAt id (a.eval x) (a.eval y)).run P w=.ok () w'∧Bq w0 K O0 nt ds ⟨Dy n [m] σ.env,(n,.nest et iet k e (xs.set i ((xs.getD i (k.dflt,[])).1,ys)) none) :: CO n [m] σ.objs⟩ ρ' a w':=by
 have hev:Hj (vw w O0 σ ρ) σ a.eval:=F1 hs.env
 have hnm:m≠n:=fun e1=>by rw[e1,hn]at hm;cases hm
 obtain⟨hL,g,mm,c,hpl,hlt0,hxe⟩:=hev x _ hx
 obtain⟨hLm,a1,m1,c1',hplm,_,hle,a2,c2',hye,_,h0,_⟩:=hev y _ hy
 obtain⟨o,ins,cells,hshp,hN⟩:=hs.objs n _ hn
 have hArr:Uf (vw w O0 σ ρ) iet e ys (ρ m):=hs.objs m _ hm
 have hobm:=hs.objs m _ hm
 have hplm:plc (ρ m)=.slice a1 m1 c1':=hplm
 rw[RT hobm]at hplm
 have hyv:a.eval y=ρ m:=by
  obtain⟨rfl,rfl⟩:=h0 rfl
  obtain⟨_,ic,how,_⟩:=hArr
  rw[hplm]at how
  rw[hye,hplm,RU how,hvc,Nat.sub_zero]
 have hpl:plc (ρ n)=.slice (some ⟨g,0,none⟩) mm c:=hpl
 have ho:o=.slice (some ⟨g,0,none⟩) mm c:=by rw[←hshp.plc];exact hpl
 subst ho
 have hmm:=RU hN.own
 subst hmm
 have hltx:i<xs.length:=hlt0
 have hli:i<ins.length:=by rw[hN.len];exact hltx
 have hvs:ρ n=.tuple ((.slice (some ⟨g,0,none⟩) xs.length c) :: ins).toArray:=hshp.resolve_right fun h=>by rw[h.2.2]at hli;simp at hli
 have hp:i*(k.size+1)+k.size<xs.length*(k.size+1):=by
  have:(i+1)*(k.size+1)≤xs.length*(k.size+1):=Nat.mul_le_mul_right _ hltx
  rw[Nat.succ_mul]at this
  omega
 obtain⟨cur,hheap,hcl,hown'⟩:=XD hN.own hp (ρ m)
 have hone:(ρ m).oneCell'=true:=by rw[hplm];rfl
 have hcell1:(a.eval y).cells=#[ρ m]:=by rw[hyv,hplm];rfl
 have hrun:=Ke (P:=P) (xv:=a.eval y) (hT _ _ ht) hheap (off:=i*(k.size+1)+k.size) (by rw[hcell1,hty];rfl) (by rw[hcell1];simpa using hcl) (by rw[hcell1];intro u hu;simp at hu;subst hu;exact hone)
 rw[hcell1]at hrun
 refine⟨_,EV ρ n (.tuple ((.slice (some ⟨g,0,none⟩) xs.length c) :: ins.set i (ρ m)).toArray),by rw[hxe];exact hrun,?_⟩
 have hgr:=FU w g (Ay cur (i*(k.size+1)+k.size) [ρ m]).toArray
 change Bq w0 K O0 nt ds _ _ a (w.setRow g (Ay cur (i*(k.size+1)+k.size) [ρ m]).toArray)
 have hown':(w.setRow g (Ay cur (i*(k.size+1)+k.size) [ρ m]).toArray).ownsRow 0 et (k.size+1) (.slice (some ⟨g,0,none⟩) xs.length c) xs.length (cells.set (i*(k.size+1)+k.size) (ρ m)):=hown'
 generalize w.setRow g (Ay cur (i*(k.size+1)+k.size) [ρ m]).toArray=w' at hgr hown'
 generalize hloc:(Value.tuple ((.slice (some ⟨g,0,none⟩) xs.length c) :: ins.set i (ρ m)).toArray)=loc
 have hρn:EV ρ n loc n=loc:=Ba _ _ _
 have hρo:∀j,j≠n→EV ρ n loc j=ρ j:=fun j h1=>by simp[EV,h1]
 generalize EV ρ n loc=ρ' at hρn hρo
 have hbn:∀b,bk (ρ n) b↔blk (.slice (some ⟨g,0,none⟩) xs.length c)=some b∨∃(j:Nat) (u:Value),ins[j]?=some u∧blk u=some b:=fun b=>by rw[hvs];exact A2
 have hset:∀(j:Nat) (u:Value),(ins.set i (ρ m))[j]?=some u→(j=i∧u=ρ m)∨(j≠i∧ins[j]?=some u):=by
  intro j u hj
  rw[List.getElem?_set]at hj
  split at hj
  ·rename_i e1
   have hj:(some (ρ m))=some u:=by
    first|exact hj|(split at hj<;>first|exact hj|cases hj)
   cases hj;exact .inl ⟨e1.symm,rfl⟩
  ·rename_i e1;exact .inr ⟨fun e2=>e1 e2.symm,hj⟩
 have hbm:∀b,blk (ρ m)=some b→bk (ρ m) b:=fun b hb=>.inl hb
 have hbl:∀b,bk loc b→bk (ρ n) b∨blk (ρ m)=some b:=by
  intro b hb
  rw[←hloc,A2]at hb
  rcases hb with hb|⟨j,u,hj,hb⟩
  ·exact .inl ((hbn b).2 (.inl hb))
  ·rcases hset j u hj with ⟨_,rfl⟩|⟨_,h2⟩
   ·exact .inr hb
   ·exact .inl ((hbn b).2 (.inr ⟨j,u,h2,hb⟩))
 have hdis:∀b,bk (ρ n) b→blk (ρ m)=some b→False:=fun b h1 h2=>hnm (hs.dist m n b ⟨_,hm⟩ ⟨_,hn⟩ (hbm b h2) h1)
 have hg0:bk (ρ n) g:=(hbn g).2 (.inl rfl)
 have hlt:∀b,bk (ρ n) b→b<w.heap.size:=fun b hb=>(hs.objs n _ hn).block_lt hb
 have hltm:∀b,blk (ρ m)=some b→b<w.heap.size:=fun b hb=>hobm.block_lt (hbm b hb)
 let S:St:=⟨Dy n [m] σ.env,(n,.nest et iet k e (xs.set i ((xs.getD i (k.dflt,[])).1,ys)) none) :: CO n [m] σ.objs⟩
 have hSo:∀j ob,lk j S.objs=some ob→(j=n∧ob=.nest et iet k e (xs.set i ((xs.getD i (k.dflt,[])).1,ys)) none)∨(j≠n∧j≠m∧∃o1,lk j σ.objs=some o1∧ob=o1.trn n [m]):=by
  intro j ob hj
  simp only[S,lk]at hj
  split at hj
  ·rename_i e1;cases hj;exact .inl ⟨e1,rfl⟩
  ·rename_i e1
   rw[DD]at hj
   split at hj
   ·cases hj
   ·rename_i e2
    simp only[Option.map_eq_some_iff]at hj
    obtain⟨o1,h1,rfl⟩:=hj
    exact .inr ⟨e1,fun e3=>e2 (by simp[Aa,e3]),o1,h1,rfl⟩
 have hSl:∀j,j≠n→j≠m→∀o1,lk j σ.objs=some o1→lk j S.objs=some (o1.trn n [m]):=by
  intro j h1 h2 o1 h3
  simp only[S,lk,if_neg h1,DD,h3]
  simp[Aa,h1,h2]
 have hownS:∀b,b<w.heap.size→¬own O0 σ ρ b→¬own O0 S ρ' b:=by
  intro b hb hno hyes
  rcases hyes with h0|⟨j,⟨ob,hob⟩,hbj⟩
  ·exact hno (.inl h0)
  ·rcases hSo j ob hob with ⟨rfl,_⟩|⟨h1,h2,o1,h3,_⟩
   ·rw[hρn]at hbj
    rcases hbl b hbj with h4|h4
    ·exact hno (.inr ⟨_,⟨_,hn⟩,h4⟩)
    ·exact hno (.inr ⟨m,⟨_,hm⟩,hbm b h4⟩)
   ·rw[hρo j h1]at hbj
    exact hno (.inr ⟨j,⟨o1,h3⟩,hbj⟩)
 have hTn:RJ (vw w O0 σ ρ) (vw w' O0 S ρ') n [m]:=by
  refine⟨hownS,fun j hj hjm=>?_,fun j _ _ hne=>hρo j hne,⟨_,hvs⟩,?_,fun b hb hno=>hgr.block b hb fun e1=>?_⟩
  ·obtain⟨o1,h1⟩:=hj
   by_cases hjn:j=n
   ·exact⟨.nest et iet k e (xs.set i ((xs.getD i (k.dflt,[])).1,ys)) none,by simp[S,lk,hjn]⟩
   ·exact⟨_,hSl j hjn (fun e1=>by simp[Aa,e1]at hjm) o1 h1⟩
  ·show plc (ρ' n)=plc (ρ n)
   rw[hρn,←hloc,hvs];rfl
  ·injection e1 with e1
   subst e1
   exact hno (.inr ⟨n,⟨_,hn⟩,hg0⟩)
 have hk0:Ck ⟨w,own O0 σ ρ,fun _=>False,ρ⟩ (vw w' O0 S ρ'):=⟨hTn.O,fun _ h=>h.elim,fun _ h=>h.elim,hTn.heap⟩
 have hgm:∀b,b<w.heap.size→b≠g→w'.heap[b]?=w.heap[b]?:=fun b h1 h2=>hgr.block b h1 fun e1=>h2 (by injection e1)
 refine hs.swap hK hO (T:=fun j=>j=n∨j=m) (dst:=none) (u:=undef) (fun j hj=>?_) (new:=[(n,.nest et iet k e (xs.set i ((xs.getD i (k.dflt,[])).1,ys)) none)]) hgr.os hgr.tape hgr.output hgr.size ?_ ?_ ?_ ?_ ?_ ?_ ?_ ?_
 ·rcases hj with rfl|rfl
  ·exact⟨hfn,_,hn,by rw[hvs];exact .inr ⟨_,rfl⟩⟩
  ·exact⟨hfm,_,hm,Yr hobm⟩
 ·exact fun b hb hno=>hgm b hb fun e1=>hno n (.inl rfl) (by rw[e1];exact hg0)
 ·intro j ob hj hnew
  rcases hSo j ob hj with ⟨rfl,_⟩|⟨h1,h2,o1,h3,_⟩
  ·simp[lk]at hnew
  ·exact⟨fun h=>h.elim h1 h2,o1,h3⟩
 ·intro j o1 hj hne
  have h1:j≠n:=fun e1=>hne (.inl e1)
  have h2:j≠m:=fun e1=>hne (.inr e1)
  exact⟨by simp[lk,h1],_,hSl j h1 h2 o1 hj⟩
 ·intro j hj
  exact hρo j fun e1=>by simp[lk,e1]at hj
 ·intro j ob b hj hb
  have h1:j=n:=by
   by_cases h1:j=n
   ·exact h1
   ·simp[lk,h1]at hj
  rw[h1,hρn]at hb
  exact .inl ((hbl b hb).elim (fun h=>⟨n,.inl rfl,h⟩) fun h=>⟨m,.inr rfl,hbm b h⟩)
 ·intro j j' ob ob' b hj hj' _ _
  have key:∀j ob,lk j [(n,Obj.nest et iet k e (xs.set i ((xs.getD i (k.dflt,[])).1,ys)) none)]=some ob→j=n:=fun j ob hj=>by
   by_cases h1:j=n
   ·exact h1
   ·simp[lk,h1]at hj
  rw[key j ob hj,key j' ob' hj']
 ·intro j ob hj
  rcases hSo j ob hj with ⟨rfl,rfl⟩|⟨h1,h2,o1,h3,rfl⟩
  ·rw[hρn]
   have hcells:cells.length=xs.length*(k.size+1):=hN.own.1
   refine⟨_,ins.set i (ρ m),cells.set (i*(k.size+1)+k.size) (ρ m),.inl hloc.symm,by rw[List.length_set];exact hN.max,by rw[List.length_set,List.length_set];exact hN.len,by rw[List.length_set];exact hown',fun j x2 u h1 h2=>?_,?_,?_⟩
   ·have hfar:∀(c2:List Value) (v2:Value),j≠i→c2.length=k.size→(∀(q:Nat) (z:Value),(c2++[v2])[q]?=some z→cells[j*(k.size+1)+q]?=some z)→∀(q:Nat) (z:Value),(c2++[v2])[q]?=some z→(cells.set (i*(k.size+1)+k.size) (ρ m))[j*(k.size+1)+q]?=some z:=by
     intro c2 v2 hji hl g1 q z hq
     have hql:=(List.getElem?_eq_some_iff.1 hq).1
     simp only[List.length_append,List.length_singleton,hl]at hql
     have hne:i*(k.size+1)+k.size≠j*(k.size+1)+q:=by
      intro e1
      rcases Nat.lt_or_ge i j with h3|h3
      ·have:(i+1)*(k.size+1)≤j*(k.size+1):=Nat.mul_le_mul_right _ h3
       rw[Nat.succ_mul]at this
       omega
      ·have:(j+1)*(k.size+1)≤i*(k.size+1):=Nat.mul_le_mul_right _ (by omega)
       rw[Nat.succ_mul]at this
       omega
     rw[List.getElem?_set,if_neg hne]
     exact g1 q z hq
    rcases hset j u h2 with ⟨rfl,rfl⟩|⟨h3,h4⟩
    ·have hxj:xs[j]?=some (xs.getD j (k.dflt,[])):=by
      rw[List.getElem?_eq_getElem hltx,List.getD_eq_getElem?_getD,List.getElem?_eq_getElem hltx];rfl
     obtain⟨c2,v2,g1,g2,_⟩:=hN.row j _ ins[j] hxj (List.getElem?_eq_getElem hli)
     have hx2:x2=((xs.getD j (k.dflt,[])).1,ys):=by
      rw[List.getElem?_set_self hltx]at h1
      exact(Option.some.inj h1).symm
     subst hx2
     have hl:c2.length=k.size:=g2.length
     refine⟨c2,ρ m,fun q z hq=>?_,Bj.mono hk0.O hk0.heap g2,.inr ⟨rfl,rfl,?_⟩⟩
     ·have hql:=(List.getElem?_eq_some_iff.1 hq).1
      simp only[List.length_append,List.length_singleton,hl]at hql
      rw[List.getElem?_set]
      by_cases hqk:q=k.size
      ·rw[hqk,if_pos rfl,if_pos (by rw[hcells];exact hp)]
       rw[hqk,←hl,List.getElem?_append_right (Nat.le_refl _),Nat.sub_self]at hq
       exact hq
      ·rw[if_neg (by omega)]
       refine g1 q z ?_
       rw[List.getElem?_append_left (by omega)]at hq ⊢
       exact hq
     ·exact Uf.keeps (V:=⟨w,own O0 σ ρ,fun _=>False,ρ⟩) hk0 (fun b hb=>hgm b (hltm b hb) fun e1=>hdis b (by rw[e1];exact hg0) hb) hArr
    ·have h1:xs[j]?=some x2:=by
      rw[List.getElem?_set,if_neg (fun e1=>h3 e1.symm)]at h1
      exact h1
     obtain⟨c2,v2,g1,g2,g3⟩:=hN.row j x2 u h1 h4
     rcases g3 with ⟨g3,_⟩|⟨_,g4,g5⟩
     ·exact absurd (by simpa using g3) (fun e1:i=j=>h3 e1.symm)
     ·refine⟨c2,v2,hfar c2 v2 h3 g2.length g1,Bj.mono hk0.O hk0.heap g2,.inr ⟨rfl,g4,?_⟩⟩
      exact Uf.keeps (V:=⟨w,own O0 σ ρ,fun _=>False,ρ⟩) hk0 (fun b hb=>hgm b (hlt b ((hbn b).2 (.inr ⟨j,u,h4,hb⟩))) fun e1=>hN.out j b u h4 hb (by rw[e1];rfl)) g5
   ·intro j1 j2 b u1 u2 h1 h2 h3 h4
    rcases hset j1 u1 h1 with ⟨h5,rfl⟩|⟨_,h5⟩<;>rcases hset j2 u2 h2 with ⟨h6,rfl⟩|⟨_,h6⟩
    ·rw[h5,h6]
    ·exact(hdis b ((hbn b).2 (.inr ⟨j2,u2,h6,h4⟩)) h3).elim
    ·exact(hdis b ((hbn b).2 (.inr ⟨j1,u1,h5,h3⟩)) h4).elim
    ·exact hN.dist j1 j2 b u1 u2 h5 h6 h3 h4
   ·intro j b u h1 h2 h3
    rcases hset j u h1 with ⟨_,rfl⟩|⟨_,h5⟩
    ·exact hdis b ((hbn b).2 (.inl h3)) h2
    ·exact hN.out j b u h5 h2 h3
  ·rw[hρo j h1]
   refine gG hTn (fun b hb=>hgm b ((hs.objs j o1 h3).block_lt hb) fun e1=>h1 (hs.dist j n b ⟨_,h3⟩ ⟨_,hn⟩ hb (by rw[e1];exact hg0))) (hs.objs j o1 h3)
 ·intro s2 v2 hsv
  simp only[E9,Option.map_eq_some_iff]at hsv
  obtain⟨y2,hy2,rfl⟩:=hsv
  exact XB hTn (hs.env s2 y2 hy2)
end
end
/- Rows of one nested array behind those of another. -/
section
open Go Go.RowKit
section
variable {P:Program} {tb:Tb} {w0:World} {K O0:Nat→Prop} {nt:Nat} {ds:Fp} {σ σ':St} {ρ:Nat→Value} {a:Act} {w:World} {vc:Prop}
theorem Bq.swap1 (h:Bq w0 K O0 nt ds σ ρ a w) (hK:∀b,K b→b<w0.heap.size) (hO:∀b,O0 b→b<w0.heap.size) {tl:List Nat} (hT:∀n,n∈tl→GF n=false∧∃o,lk n σ.objs=some o∧seat (ρ n))
  {nn:Nat} (hnn:nn∈tl∨lk nn σ.objs=none) {ob:Obj} {loc:Value} {w':World}
  (hos:w'.os=w.os) (htape:w'.tape=w.tape) (hout:w'.output=w.output) (hsz:w.heap.size≤w'.heap.size)
  (hheap:∀b,b<w.heap.size→(∀n,n∈tl→¬bk (ρ n) b)→w'.heap[b]?=w.heap[b]?)
  (hloc:∀b,bk loc b→(∃m,m∈tl∧bk (ρ m) b)∨w.heap.size≤b)
  (hob:∀V':Vw,V'.w=w'→Ck ⟨w,own O0 σ ρ,fun _=>False,ρ⟩ V'→A4 V' ob loc)
  {d:Nat} (hd:d<nt) {v:AV} {u:Value} (hav:∀V':Vw,V'.L nn→V'.ρ nn=loc→B5 V' v u) :
  Bq w0 K O0 nt ds ⟨(d,v) :: B7 tl σ.env,(nn,ob) :: Au tl tl σ.objs⟩ (EV ρ nn loc) (a.put (some d) u) w':=by
 let S:St:=⟨(d,v) :: B7 tl σ.env,(nn,ob) :: Au tl tl σ.objs⟩
 have hSo:∀m o,lk m S.objs=some o→(m=nn∧o=ob)∨(m≠nn∧m∉tl∧∃o1,lk m σ.objs=some o1∧o=o1.fgt tl):=by
  intro m o hm
  simp only[S,lk]at hm
  split at hm
  ·rename_i e1;cases hm;exact .inl ⟨e1,rfl⟩
  ·rename_i e1
   rw[Bp]at hm
   split at hm
   ·cases hm
   ·rename_i e2
    simp only[Option.map_eq_some_iff]at hm
    obtain⟨o1,h1,rfl⟩:=hm
    exact .inr ⟨e1,fun h=>e2 ((Ag _ _).2 h),o1,h1,rfl⟩
 have hSl:∀m,m≠nn→m∉tl→∀o1,lk m σ.objs=some o1→lk m S.objs=some (o1.fgt tl):=by
  intro m h1 h2 o1 h3
  simp only[S,lk,if_neg h1,Bp,h3]
  rw[if_neg fun h=>h2 ((Ag _ _).1 h)];rfl
 have hne:∀m,m∉tl→(∃o,lk m σ.objs=some o)→m≠nn:=by
  rintro m h1 ⟨o,h2⟩ rfl
  rcases hnn with h3|h3
  ·exact h1 h3
  ·rw[h3]at h2;cases h2
 have hρn:EV ρ nn loc nn=loc:=Ba _ _ _
 have hρo:∀m,m≠nn→EV ρ nn loc m=ρ m:=fun m h1=>by simp[EV,h1]
 generalize EV ρ nn loc=ρ' at hρn hρo
 have hownS:∀b,b<w.heap.size→¬own O0 σ ρ b→¬own O0 S ρ' b:=by
  intro b hb hno hyes
  rcases hyes with h0|⟨m,⟨o,ho⟩,hbm⟩
  ·exact hno (.inl h0)
  ·rcases hSo m o ho with ⟨rfl,_⟩|⟨h1,h2,o1,h3,_⟩
   ·rw[hρn]at hbm
    rcases hloc b hbm with ⟨t,ht,h4⟩|h4
    ·obtain⟨_,o1,h5,_⟩:=hT t ht
     exact hno (.inr ⟨t,⟨o1,h5⟩,h4⟩)
    ·omega
   ·rw[hρo m h1]at hbm
    exact hno (.inr ⟨m,⟨o1,h3⟩,hbm⟩)
 have hheap':∀b,b<w.heap.size→¬own O0 σ ρ b→w'.heap[b]?=w.heap[b]?:=fun b hb hno=>hheap b hb fun n hn hbn=>by
  obtain⟨_,o1,h5,_⟩:=hT n hn
  exact hno (.inr ⟨n,⟨o1,h5⟩,hbn⟩)
 have hk0:Ck ⟨w,own O0 σ ρ,fun _=>False,ρ⟩ (vw w' O0 S ρ'):=⟨hownS,fun _ h=>h.elim,fun _ h=>h.elim,hheap'⟩
 have hk:Ck ((vw w O0 σ ρ).buts tl) (vw w' O0 S ρ'):=by
  refine⟨hownS,fun m hm=>?_,fun m hm=>?_,hheap'⟩
  ·obtain⟨⟨o1,h1⟩,h2⟩:=hm
   have h3:m∉tl:=fun h=>by rw[(Ag _ _).2 h]at h2;cases h2
   exact⟨_,hSl m (hne m h3 ⟨o1,h1⟩) h3 o1 h1⟩
  ·obtain⟨⟨o1,h1⟩,h2⟩:=hm
   have h3:m∉tl:=fun h=>by rw[(Ag _ _).2 h]at h2;cases h2
   exact hρo m (hne m h3 ⟨o1,h1⟩)
 refine h.swap hK hO (T:=fun m=>m∈tl) hT (new:=[(nn,ob)]) hos htape hout hsz hheap ?_ ?_ ?_ ?_ ?_ ?_ ?_
 ·intro m o hm hnew
  rcases hSo m o hm with ⟨rfl,_⟩|⟨h1,h2,o1,h3,_⟩
  ·simp[lk]at hnew
  ·exact⟨h2,o1,h3⟩
 ·intro m o1 hm hnt
  have h1:=hne m hnt ⟨o1,hm⟩
  exact⟨by simp[lk,h1],_,hSl m h1 hnt o1 hm⟩
 ·intro m hm
  exact hρo m fun e1=>by simp[lk,e1]at hm
 ·intro m o b hm hb
  have h1:m=nn:=by
   by_cases h1:m=nn
   ·exact h1
   ·simp[lk,h1]at hm
  rw[h1,hρn]at hb
  exact hloc b hb
 ·intro m m' o o' b hm hm' _ _
  have key:∀j o,lk j [(nn,ob)]=some o→j=nn:=fun j o hj=>by
   by_cases h1:j=nn
   ·exact h1
   ·simp[lk,h1]at hj
  rw[key m o hm,key m' o' hm']
 ·intro m o hm
  rcases hSo m o hm with ⟨rfl,rfl⟩|⟨h1,h2,o1,h3,rfl⟩
  ·rw[hρn];exact hob _ rfl hk0
  ·rw[hρo m h1]
   refine W9 hk (fun b hb=>hheap b ((h.objs m o1 h3).block_lt hb) fun n hn hbn=>?_) (h.objs m o1 h3)
   obtain⟨_,o2,h5,_⟩:=hT n hn
   exact h2 ((h.dist m n b ⟨_,h3⟩ ⟨_,h5⟩ hb hbn)▸hn)
 ·intro s x hs
  rw[Lg a d u s (by rw[h.nt];exact hd)]
  simp only[S,lk]at hs
  split at hs
  ·rename_i es
   cases hs
   rw[if_pos es]
   exact hav _ ⟨ob,by simp[S,lk]⟩ hρn
  ·rename_i es
   rw[if_neg es]
   rw[EW]at hs
   simp only[Option.map_eq_some_iff]at hs
   obtain⟨y,hy,rfl⟩:=hs
   exact(RW (h.env s y hy)).keeps hk
theorem Wo.move {V:Vw} {iet:TypeId} {k e:Ty} {hole:Bool} {cells cells':List Value} {i i':Nat} {x:k.den×List e.den} {u:Value} (h:Wo V iet k e hole cells i x u)
  (hc:∀(j:Nat) (z:Value),cells[i*(k.size+1)+j]?=some z→cells'[i'*(k.size+1)+j]?=some z):Wo V iet k e hole cells' i' x u :=
 let ⟨c1,v,h1,h2⟩:=h
 ⟨c1,v,fun j z hj=>hc j z (h1 j z hj),h2⟩
theorem VG {V V':Vw} {et et2 iet:TypeId} {k e:Ty} {xs ys:List (k.den×List e.den)} {o o2 z:Value} {ins ins2 cells cells2:List Value} (h1:J5 V et iet k e xs none o ins cells) (h2:J5 V et2 iet k e ys none o2 ins2 cells2)
  (hdis:∀b,bk (.tuple (o :: ins).toArray) b→bk (.tuple (o2 :: ins2).toArray) b→False)
  (hown:V'.w.ownsRow 0 et (k.size+1) z (xs.length+ys.length) (cells++cells2)) (hz:blk z=blk o∨∀b,blk z=some b→V.w.heap.size≤b)
  (hg:∀b,b<V.w.heap.size→blk o≠some b→V'.w.heap[b]?=V.w.heap[b]?) (hk:Ck ⟨V.w,V.O,fun _=>False,V.ρ⟩ V') (hmax:xs.length+ys.length≤AP) :
  J5 V' et iet k e (xs++ys) none z (ins++ins2) (cells++cells2):=by
 have hc1:cells.length=xs.length*(k.size+1):=h1.own.1
 have hlt1:∀(i b:Nat) (u:Value),ins[i]?=some u→blk u=some b→b<V.w.heap.size:=fun i b u hi hb=>h1.block_lt (A2.2 (.inr ⟨i,u,hi,hb⟩))
 have hlt2:∀(i b:Nat) (u:Value),ins2[i]?=some u→blk u=some b→b<V.w.heap.size:=fun i b u hi hb=>h2.block_lt (A2.2 (.inr ⟨i,u,hi,hb⟩))
 have hof:∀(i b:Nat) (u:Value),ins2[i]?=some u→blk u=some b→blk o≠some b:=fun i b u hi hb ho=>hdis b (A2.2 (.inl ho)) (A2.2 (.inr ⟨i,u,hi,hb⟩))
 have hsp:∀(i:Nat) (u:Value),(ins++ins2)[i]?=some u→(i<xs.length∧ins[i]?=some u)∨(xs.length≤i∧ins2[i-xs.length]?=some u):=by
  intro i u hi
  rw[List.getElem?_append]at hi
  split at hi
  ·rename_i h;rw[h1.len]at h;exact .inl ⟨h,hi⟩
  ·rename_i h;rw[h1.len]at h hi;exact .inr ⟨by omega,hi⟩
 have hnew:∀b,blk z=some b→(∃(i:Nat) (u:Value),ins[i]?=some u∧blk u=some b)∨(∃(i:Nat) (u:Value),ins2[i]?=some u∧blk u=some b)→False:=by
  intro b hb hi
  rcases hz with h3|h3
  ·rw[h3]at hb
   rcases hi with ⟨i,u,h4,h5⟩|⟨i,u,h4,h5⟩
   ·exact h1.out i b u h4 h5 hb
   ·exact hof i b u h4 h5 hb
  ·have:=h3 b hb
   rcases hi with ⟨i,u,h4,h5⟩|⟨i,u,h4,h5⟩
   ·have:=hlt1 i b u h4 h5;omega
   ·have:=hlt2 i b u h4 h5;omega
 refine⟨by rw[List.length_append];exact hmax,by rw[List.length_append,List.length_append,h1.len,h2.len],by rw[List.length_append];exact hown,fun i x u hx hu=>?_,fun i j b u v hi hj hu hv=>?_,fun i b u hi hb hzb=>?_⟩
 ·rcases hsp i u hu with ⟨h3,h4⟩|⟨h3,h4⟩
  ·have hx:xs[i]?=some x:=by rwa [List.getElem?_append_left h3]at hx
   have hr:=(h1.row i x u hx h4).move (cells':=cells++cells2) (i':=i) fun j z hj=>by
    rw[List.getElem?_append_left (List.getElem?_eq_some_iff.1 hj).1];exact hj
   exact Wo.keeps (V:=⟨V.w,V.O,fun _=>False,V.ρ⟩) hk (fun b hb=>hg b (hlt1 i b u h4 hb) (h1.out i b u h4 hb)) hr
  ·have hx:ys[i-xs.length]?=some x:=by rwa [List.getElem?_append_right h3]at hx
   have hr:=(h2.row _ x u hx h4).move (cells':=cells++cells2) (i':=i) fun j z hj=>by
    have h5:i*(k.size+1)=cells.length+(i-xs.length)*(k.size+1):=by
     rw[hc1,←Nat.add_mul];congr 1;omega
    rw[List.getElem?_append_right (by omega),h5,←hj]
    congr 1
    omega
   exact Wo.keeps (V:=⟨V.w,V.O,fun _=>False,V.ρ⟩) hk (fun b hb=>hg b (hlt2 _ b u h4 hb) (hof _ b u h4 hb)) hr
 ·rcases hsp i u hi with ⟨h3,h4⟩|⟨h3,h4⟩<;>rcases hsp j v hj with ⟨h5,h6⟩|⟨h5,h6⟩
  ·exact h1.dist i j b u v h4 h6 hu hv
  ·exact(hdis b (A2.2 (.inr ⟨i,u,h4,hu⟩)) (A2.2 (.inr ⟨_,v,h6,hv⟩))).elim
  ·exact(hdis b (A2.2 (.inr ⟨j,v,h6,hv⟩)) (A2.2 (.inr ⟨_,u,h4,hu⟩))).elim
  ·have:=h2.dist _ _ b u v h4 h6 hu hv
   omega
 ·rcases hsp i u hi with ⟨h3,h4⟩|⟨h3,h4⟩
  ·exact hnew b hzb (.inl ⟨i,u,h4,hb⟩)
  ·exact hnew b hzb (.inr ⟨_,u,h4,hb⟩)
theorem uI (V:Vw) (et iet:TypeId) (k e:Ty):J5 V et iet k e [] none (.slice none 0 0) [] [] :=
 ⟨by simp[AP],rfl,World.ownsRow_nil V.w 0 et _,fun i x u h=>by simp at h,fun i j b u v h=>by simp at h,fun i b u h=>by simp at h⟩
theorem Kg {w:World} {base:Nat} {et:TypeId} {sz sz' n:Nat} {loc v:Value} {cells:List Value} (how:w.ownsRow base et sz loc n cells) (h:DC loc sz' 0 n v):v=loc:=by
 obtain⟨a,m,c,rfl,_,_,a',c',rfl,_,h0,_⟩:=h
 obtain⟨rfl,rfl⟩:=h0 rfl
 rw[RU how,Nat.sub_zero]
theorem A09 {w:World} {O:Nat→Prop} {et:TypeId} {e:Ty} {xs:List e.den} {loc:Value} {cells:List Value} (hm:xs.length≤AP) (how:w.ownsRow 0 et e.size loc xs.length cells) (hel:DR w O e cells xs):Src w O e loc xs cells:=by
 refine⟨?_,how.1,hel,VA (V:=⟨w,O,fun _=>False,fun _=>undef⟩) how hel,hm⟩
 rcases how.2 with ⟨he,hn⟩|⟨g,cap,cur,he,_⟩
 ·exact⟨none,0,by rw[he,hn],.inl (List.eq_nil_of_length_eq_zero hn)⟩
 ·subst he
  exact⟨some ⟨g,0,none⟩,cap,rfl,.inr ⟨_,rfl,how.cells (g:=g) rfl⟩⟩
theorem Nu {V:Vw} {et iet:TypeId} {k e:Ty} {xs:List (k.den×List e.den)} {o:Value} {ins cells:List Value} (h:J5 V et iet k e xs none o ins cells):Src V.w (fun _=>False) (.agg (.prod k (.slice e))) o xs cells :=
 A09 (e:=.agg (.prod k (.slice e))) (xs:=xs) h.max h.own (Mp (fun _ _ h=>h) h fun _ _ _ _ _ h=>h)
theorem PG {V:Vw} {et iet:TypeId} {k e:Ty} {xs:List (k.den×List e.den)} {hl:Option Nat} {loc:Value} (ho:A4 V (.nest et iet k e xs hl) loc):seat loc:=by
 obtain⟨o,ins,cells,hl,_⟩:=ho
 exact hl.elim (fun h=>.inr ⟨_,h⟩) (fun h=>.inl ⟨_,_,_,h.1⟩)
theorem uJ (hs:Bq w0 K O0 nt ds σ ρ a w) (hK:∀b,K b→b<w0.heap.size) (hO:∀b,O0 b→b<w0.heap.size) (hT:Dp P tb) {d:Nat} (hd:d<nt) {t ty:TypeId} {x y:Operand} {n m hi hi':Nat} {E E':Ty} {k e:Ty}
  (hx:Av σ x=some (.sr n E 0 hi)) (hy:Av σ y=some (.sr m E' 0 hi')) {et et2 iet:TypeId} {xs ys:List (k.den×List e.den)} (hn:lk n σ.objs=some (.nest et iet k e xs none)) (hm:lk m σ.objs=some (.nest et2 iet k e ys none)) (hnm:n≠m)
  (hfn:GF n=false) (hfm:GF m=false) (hu:P.underlying t=some (.slice et)) {te:TI} (hte:lk et tb.ty=some te) (hte2:te.ty=.agg (.prod k (.slice e))) (hv1:hi=xs.length) (hv2:hi'=ys.length) (hv3:(xs.length+ys.length)*te.bytes≤AP) :
  ∃z w' ρ',(Builtin.append_ #[t,t] ty #[a.eval x,a.eval y]).run P w=.ok z w' ∧
   Bq w0 K O0 nt ds ⟨(d,.sr n (.agg (.prod k (.slice e))) 0 (xs.length+ys.length)) :: B7 [n,m] σ.env,(n,.nest et iet k e (xs++ys) none) :: Au [n,m] [n,m] σ.objs⟩ ρ' (a.put (some d) z) w':=by
 subst hv1 hv2
 have hev:Hj (vw w O0 σ ρ) σ a.eval:=F1 hs.env
 have ho1:=hs.objs n _ hn
 have ho2:=hs.objs m _ hm
 have hs1:=PG ho1
 have hs2:=PG ho2
 obtain⟨o,ins,cells,hsh1,hN1⟩:=ho1
 obtain⟨o2,ins2,cells2,hsh2,hN2⟩:=ho2
 obtain⟨_,hx⟩:=hev x _ hx
 obtain⟨_,hy⟩:=hev y _ hy
 have hx:DC (plc (ρ n)) E.size 0 xs.length (a.eval x):=hx
 have hy:DC (plc (ρ m)) E'.size 0 ys.length (a.eval y):=hy
 rw[hsh1.plc]at hx
 rw[hsh2.plc]at hy
 have hx:=Kg hN1.own hx
 have hy:=Kg hN2.own hy
 rw[hx,hy]
 obtain⟨z,w',hrun,hown',hgr,hmax⟩:=HC (ty:=ty) hT hu hte hte2 hN1.own (Nu hN2) hv3 (Nat.zero_le _)
 have hwh:=Gp (ty:=ty) hT hu hte hte2 hN1.own (Nu hN2) hv3 hrun
 rw[RY hN1.own]at hgr
 refine⟨z,w',_,hrun,hs.swap1 (loc:=.tuple (z :: (ins++ins2)).toArray) hK hO (tl:=[n,m]) (fun j hj=>?_) (.inl (by simp)) hgr.os hgr.tape hgr.output hgr.size ?_ ?_ ?_ hd ?_⟩
 ·simp only[List.mem_cons,List.not_mem_nil,or_false]at hj
  rcases hj with rfl|rfl
  ·exact⟨hfn,_,hn,hs1⟩
  ·exact⟨hfm,_,hm,hs2⟩
 ·exact fun b hb hno=>hgr.block b hb fun e1=>hno n (by simp) (hsh1.bk.2 (A2.2 (.inl e1.symm)))
 ·intro b hb
  rcases A2.1 hb with hb|⟨i,u,hi,hb⟩
  ·rcases hwh with h1|h1
   ·exact .inl ⟨n,by simp,hsh1.bk.2 (A2.2 (.inl (by rw[←h1];exact hb)))⟩
   ·exact .inr (h1 b hb)
  ·rw[List.getElem?_append]at hi
   split at hi
   ·exact .inl ⟨n,by simp,hsh1.bk.2 (A2.2 (.inr ⟨_,u,hi,hb⟩))⟩
   ·exact .inl ⟨m,by simp,hsh2.bk.2 (A2.2 (.inr ⟨_,u,hi,hb⟩))⟩
 ·intro V' hw hk
  subst hw
  refine⟨z,ins++ins2,cells++cells2,.inl rfl,VG hN1 hN2 (fun b h1 h2=>?_) hown' hwh (fun b hb hne=>hgr.block b hb fun e1=>hne e1.symm) hk hmax⟩
  exact hnm (hs.dist n m b ⟨_,hn⟩ ⟨_,hm⟩ (hsh1.bk.2 h1) (hsh2.bk.2 h2))
 ·intro V' hL hρ
  refine⟨hL,?_⟩
  show DC (plc (V'.ρ n)) _ 0 _ z
  rw[hρ]
  exact F0 hown'
theorem A0a (hs:Bq w0 K O0 nt ds σ ρ a w) (hK:∀b,K b→b<w0.heap.size) (hO:∀b,O0 b→b<w0.heap.size) (hT:Dp P tb) {d:Nat} (hd:d<nt) {t ty:TypeId} {x y:Operand} {m hi':Nat} {E':Ty} {k e:Ty}
  (hx:Av σ x=some (.raw (.slice none 0 0))) (hy:Av σ y=some (.sr m E' 0 hi')) {et et2 iet:TypeId} {ys:List (k.den×List e.den)} (hm:lk m σ.objs=some (.nest et2 iet k e ys none)) (hdn:lk d σ.objs=none)
  (hfm:GF m=false) (hu:P.underlying t=some (.slice et)) {te:TI} (hte:lk et tb.ty=some te) (hte2:te.ty=.agg (.prod k (.slice e))) (hv2:hi'=ys.length) (hv3:ys.length*te.bytes≤AP) :
  ∃z w' ρ',(Builtin.append_ #[t,t] ty #[a.eval x,a.eval y]).run P w=.ok z w' ∧
   Bq w0 K O0 nt ds ⟨(d,.sr d (.agg (.prod k (.slice e))) 0 ys.length) :: B7 [m] σ.env,(d,.nest et iet k e ys none) :: Au [m] [m] σ.objs⟩ ρ' (a.put (some d) z) w':=by
 subst hv2
 have hev:Hj (vw w O0 σ ρ) σ a.eval:=F1 hs.env
 have ho2:=hs.objs m _ hm
 have hs2:=PG ho2
 obtain⟨o2,ins2,cells2,hsh2,hN2⟩:=ho2
 have hx:a.eval x=.slice none 0 0:=hev x _ hx
 obtain⟨_,hy⟩:=hev y _ hy
 have hy:DC (plc (ρ m)) E'.size 0 ys.length (a.eval y):=hy
 rw[hsh2.plc]at hy
 have hy:=Kg hN2.own hy
 rw[hx,hy]
 have hN1:=uI (vw w O0 σ ρ) et iet k e
 obtain⟨z,w',hrun,hown',hgr,hmax⟩:=HC (ty:=ty) hT hu hte hte2 hN1.own (Nu hN2) (by simpa using hv3) (Nat.zero_le _)
 have hwh:=Gp (ty:=ty) hT hu hte hte2 hN1.own (Nu hN2) (by simpa using hv3) hrun
 rw[RY hN1.own]at hgr
 refine⟨z,w',_,hrun,hs.swap1 (loc:=.tuple (z :: ([]++ins2)).toArray) hK hO (tl:=[m]) (fun j hj=>?_) (.inr hdn) hgr.os hgr.tape hgr.output hgr.size ?_ ?_ ?_ hd ?_⟩
 ·simp only[List.mem_cons,List.not_mem_nil,or_false]at hj
  subst hj
  exact⟨hfm,_,hm,hs2⟩
 ·exact fun b hb hno=>hgr.block b hb fun e1=>by simp[blk]at e1
 ·intro b hb
  rcases A2.1 hb with hb|⟨i,u,hi,hb⟩
  ·rcases hwh with h1|h1
   ·rw[h1]at hb;simp[blk]at hb
   ·exact .inr (h1 b hb)
  ·exact .inl ⟨m,by simp,hsh2.bk.2 (A2.2 (.inr ⟨_,u,by simpa using hi,hb⟩))⟩
 ·intro V' hw hk
  subst hw
  refine⟨z,[]++ins2,[]++cells2,.inl rfl,?_⟩
  have:=VG hN1 hN2 (fun b h1 h2=>?_) hown' hwh (fun b hb hne=>hgr.block b hb fun e1=>hne e1.symm) hk hmax
  ·simpa using this
  ·rw[A2]at h1
   simp[blk]at h1
 ·intro V' hL hρ
  refine⟨hL,?_⟩
  show DC (plc (V'.ρ d)) _ 0 _ z
  rw[hρ]
  have h5:=F0 hown'
  simp only[List.length_nil,Nat.zero_add]at h5
  exact h5
theorem cM (hs:Bq w0 K O0 nt ds σ ρ a w) (hK:∀b,K b→b<w0.heap.size) (hO:∀b,O0 b→b<w0.heap.size) (hT:Dp P tb) {d:Option Nat} (hd:∀k,d=some k→k<nt) {t u ty:TypeId} {x y:Operand}
  (h:Co tb σ d t u (Av σ x) (Av σ y)=some (vc,σ')) (hvc:vc) :
  ∃z w' ρ',(Builtin.append_ #[t,u] ty #[a.eval x,a.eval y]).run P w=.ok z w'∧Bq w0 K O0 nt ds σ' ρ' (a.put d z) w':=by
 by_cases harr:∃n e hi,Av σ x=some (.sr n e 0 hi)∧CX (lk n σ.objs)=false
 ·exact cL hs hK hO hT hd h hvc harr
 unfold Co at h
 split at h
 ·rename_i n e hi v hx hy
  split at h
  ·rename_i d
   split at h
   ·rename_i htu
    obtain⟨rfl,hfx⟩:=htu
    cases hti:lk t tb.ty with
    | none=>rw[hti]at h;simp[EI]at h
    | some ti =>
     rw[hti]at h
     unfold EI at h
     split at h
     ·rename_i e' offs el b he
      cases he
      split at h
      ·rename_i hee
       subst hee
       obtain⟨hu,hsz,te,hte,hte2⟩:=Cm (hT _ _ hti) hT
       rw[hte]at h
       unfold CY at h
       split at h
       ·rename_i ti et e2 xs h1 hn
        exact absurd ⟨n,_,hi,hx,by rw[hn];rfl⟩ harr
       ·rename_i ti et iet k e2 xs h1 hn
        cases h1
        split at h
        ·rename_i hc
         obtain⟨rfl,rfl⟩:=hc
         unfold QT at h
         split at h
         ·rename_i m E hi'
          unfold KX at h
          split at h
          ·rename_i et2 iet2 k2 e3 ys hm
           split at h
           ·rename_i hc
            obtain⟨rfl,hnm,hfm⟩:=hc
            cases hcast:BL (.slice (.agg (.prod k (.slice e2)))) ⟨.slice (.agg (.prod k2 (.slice e3))),ys⟩ with
            | none=>rw[hcast]at h;simp[JR]at h
            | some zs =>
             obtain⟨g1,g2⟩:=BW hcast
             injection g1 with g1
             injection g1 with g1 g3
             injection g3 with g3
             subst g1 g3
             cases g2
             rw[hcast]at h
             simp only[JR]at h
             cases h
             obtain⟨hv1,hv2,hv3⟩:=hvc
             exact uJ hs hK hO hT (hd _ rfl) hx hy hn hm hnm hfx hfm hu hte hte2 hv1 hv2 hv3
           ·cases h
          ·cases h
         ·cases h
        ·cases h
       ·cases h
      ·cases h
     ·cases h
   ·cases h
  ·cases h
 ·rename_i n e i len v hx hy
  split at h
  ·rename_i d
   split at h
   ·rename_i htu
    subst htu
    cases hti:lk t tb.ty with
    | none=>rw[hti]at h;simp[MT]at h
    | some ti =>
     rw[hti]at h
     unfold MT at h
     split at h
     ·rename_i e' offs el b he
      cases he
      split at h
      ·rename_i hee
       subst hee
       obtain⟨hu,hsz,te,hte,hte2⟩:=Cm (hT _ _ hti) hT
       rw[hte]at h
       unfold Nf at h
       split at h
       ·rename_i ti et iet k e1 xs h1 hn
        cases h1
        split at h
        ·rename_i hc
         obtain⟨rfl,rfl,hfx⟩:=hc
         exact A08 hs hK hO hT (hd _ rfl) hx hy hn hfx hu hte hte2 h hvc
        ·cases h
       ·cases h
      ·cases h
     ·cases h
   ·cases h
  ·cases h
 ·rename_i v hx hy
  split at h
  ·rename_i d
   split at h
   ·rename_i htu
    subst htu
    unfold Wn at h
    split at h
    ·rename_i m E hi' t1 offs el b hti
     obtain⟨hu,hsz,te,hte,hte2⟩:=Cm (hT _ _ hti) hT
     rw[hte]at h
     unfold Nh at h
     split at h
     ·rename_i ti et2 iet k e ys h1 hm
      cases h1
      split at h
      ·rename_i hc
       subst hc
       unfold Ng at h
       split at h
       ·rename_i hc
        obtain⟨hdn,hfm⟩:=hc
        cases h
        exact A0a hs hK hO hT (hd _ rfl) hx hy hm (by simpa using hdn) hfm hu hte hte2 hvc.1 hvc.2
       ·cases h
      ·cases h
     ·cases h
    ·cases h
   ·cases h
  ·cases h
 ·cases h
theorem cN (hs:Bq w0 K O0 nt ds σ ρ a w) (hK:∀b,K b→b<w0.heap.size) (hO:∀b,O0 b→b<w0.heap.size) (hT:Dp P tb) {id:TypeId} {x y:Operand} (h:G9 σ (lk id tb.ty) (Av σ x) (Av σ y)=some (vc,σ')) (hvc:vc) :
  ∃w' ρ',(Instr.storeAt id (a.eval x) (a.eval y)).run P w=.ok () w'∧Bq w0 K O0 nt ds σ' ρ' a w':=by
 by_cases hno:∃n e i path off,Av σ x=some (.ep n e i path off)∧CX (lk n σ.objs)=true
 ·obtain⟨n,e,i,path,off,hx,hnest⟩:=hno
  unfold G9 at h
  split at h
  ·rename_i hx' _;rw[hx]at hx';cases hx'
  ·rename_i ti n' e' i' path' off' v ht hx' hy
   rw[hx]at hx'
   cases hx'
   unfold DY at h
   split at h
   ·rename_i hn;rw[hn]at hnest;cases hnest
   ·rename_i et iet k e1 xs j hn
    split at h
    ·rename_i m E hi
     split at h
     ·rename_i hc
      obtain⟨rfl,rfl,hE⟩:=hc
      subst hE
      unfold KY at h
      split at h
      ·rename_i hc
       obtain⟨hty,rfl,rfl⟩:=hc
       unfold KW at h
       split at h
       ·rename_i jet e2 ys hm
        split at h
        ·rename_i hc
         obtain⟨rfl,hfm,hfn⟩:=hc
         cases hcast:BL (.slice E) ⟨.slice e2,ys⟩ with
         | none=>rw[hcast]at h;simp[JQ]at h
         | some zs =>
          obtain⟨g1,g2⟩:=BW hcast
          subst g1
          cases g2
          rw[hcast]at h
          simp only[JQ]at h
          cases h
          exact uH hs hK hO hT ht hty hx hy hn hm hfn hfm hvc
        ·cases h
       ·cases h
      ·cases h
     ·cases h
    ·cases h
   ·cases h
  ·cases h
 ·obtain⟨w',h1,h2⟩:=pR (P:=P) hs hK hT (fun n e i path off hx=>by
   cases hb:CX (lk n σ.objs) with
   | false=>rfl
   | true=>exact absurd ⟨n,e,i,path,off,hx,hb⟩ hno) h hvc
  exact⟨w',ρ,h1,h2⟩
end
end
end Go.Proofs.YtebfihindnhccaaGreat.Fw
