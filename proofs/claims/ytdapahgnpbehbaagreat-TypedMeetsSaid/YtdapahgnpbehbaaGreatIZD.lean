/- Calls by contract; stores; appends. -/
import Derived.Test.YtdapahgnpbehbaaGreatIZC
import Derived.CallsIn
import Derived.TacticsIn
import Derived.OrdersIn
import Derived.RangeFuncCalls
set_option linter.unusedVariables false
set_option linter.unusedSimpArgs false
namespace Go.Proofs.YtdapahgnpbehbaaGreat.Fw
section
open Go Go.RowKit
abbrev ACa:=@Go.MapKept.heap_set
abbrev ACy:=@Go.Oper.uponIn_enter
def Rz (w:World) (O:Nat→Prop):(ts:List Ty)→List Value→Kj ts→Prop
 | [],a,_=>a=[]
 | t :: ts,a,ds=>∃(v:Value) (r:List Value),a=v :: r∧BX w O t v ds.1∧Rz w O ts r ds.2
def FR (r:Option Nat):Fence:={ fn:=fun _=>True,depth:=none,alive:=false,round:=r }
theorem Kw {r:Option Nat} {n:Nat} {P:Program} {f:FuncId} {args:Array Value} {w:World} {R:Ending→World→Prop} (h:Calls P f args w R):CallsIn (FR r) n P f args w R:=by
 cases r with
 | none=>exact callsIn_wide.2 h
 | some l=>exact((callsIn_wide.2 h:CallsIn Fence.wide n P f args w R).inRound l:CallsIn _ n P f args w R)
theorem Fe (r:Option Nat) (ρ:Operand→Value) (o:Oper) (h:∀c,o.op≠.defer c):o.semAt r ρ=execOp ρ o:=by
 cases r with
 | none=>exact Oper.semAt_none ρ o
 | some l=>exact Oper.semAt_some l ρ o h
def wU (w:World) (O:Nat→Prop) (a:List RV) (u:Value) (w':World):Prop :=
 ∀nm:Nat,∃ρ',QS w O ⟨[],[]⟩ (fun _=>undef) (I4 nm a) (Cm nm a) u ρ' w'
def A4M (P:Program) (f:FuncId) (sp:Ae):Prop :=
 ∀(w:World) (O:Nat→Prop) (a:List Value) (ds:Kj sp.ins),(∀b,O b→b<w.heap.size)→Rz w O sp.ins a ds→sp.pre ds →
  Calls P f a.toArray w fun e w'=>∃u,e=.returned u∧wU w O (sp.out ds) u w'
def Ao (P:Program) (f:FuncId) (sp:Ae):Prop :=
 (∃ fn : Func, P.funcs[f]? = some fn ∧ (fn.name == "runtime.NumGoroutine") = false ∧ fn.body.isNone = false) ∧ A4M P f sp
def I8 (P:Program) (tb:Tb):Prop:=∀f sp,lk f tb.fns=some sp→Ao P f sp
theorem KB {w w':World} {O O':Nat→Prop}:∀ {t:Ty} {cs:List Value} {d:t.den},t.flat=true→Bo w O t cs d→Bo w' O' t cs d
 | .int _,_,_,_,h=>h
 | .bool,_,_,_,h=>h
 | .str,_,_,_,h=>h
 | .ref _,_,_,_,h=>h
 | .slice _,_,_,hf,_=>by simp[Ty.flat]at hf
 | .prod a b,_,_,hf,h=>by
  simp only[Ty.flat,AT]at hf;obtain⟨c1,c2,rfl,h1,c⟩:=h;exact⟨c1,c2,rfl,KB hf.1 h1,KB hf.2 c⟩
 | .agg t,cs,d,hf,h=>by
  simp only[Ty.flat]at hf;have h:Bo w O t cs d:=h;exact(KB hf h:Bo w' O' t cs d)
theorem Wg {w w':World} {O O':Nat→Prop} {t:Ty} {v:Value} {d:t.den} (hf:t.flat=true) (h:BX w O t v d):BX w' O' t v d :=
 let ⟨cs,h1,a⟩:=h
 ⟨cs,KB hf h1,a⟩
theorem R0:∀ {l:List RV} (nm:Nat),l.all RV.flat=true→Cm nm l=[]
 | [],_,_=>rfl
 | .p t d :: l,nm,h=>by
  simp only[AB4,AT]at h;simp[Cm,O3,R0 (nm+10000) h.2]
 | .own _ _ _ :: l,nm,h=>by simp[RV.flat]at h
theorem wV {r:RV} (h:r.flat=true) (nm:Nat):∃t d,YK nm r=.p t d∧t.flat=true:=by
 cases r with
 | p t d=>exact⟨t,d,rfl,h⟩
 | own _ _ _=>simp[RV.flat]at h
theorem wW {V V':Vw}:∀ {l:List RV} {nm:Nat} {a:List Value},l.all RV.flat=true→J7 V (Ls nm l) a→J7 V' (Ls nm l) a
 | [],_,_,_,h=>h
 | r :: l,nm,a,hf,h=>by
  simp only[AB4,AT]at hf;obtain⟨v,f,rfl,h1,b⟩:=h;obtain⟨t,d,e,c⟩:=wV hf.1 nm;refine⟨v,f,rfl,?_,wW hf.2 b⟩;rw[e]at h1 ⊢;exact Wg c h1
theorem wX {V V':Vw} {l:List RV} {nm:Nat} {u:Value} (hf:l.all RV.flat=true) (h:B0 V (I4 nm l) u):B0 V' (I4 nm l) u:=by
 match l,hf,h with
 | [],_,h=>exact h
 | [r],hf,h =>
  simp only[AB4,List.all_nil,Bool.and_true]at hf;obtain⟨t,d,e,a⟩:=wV hf nm;simp only[I4]at h ⊢;rw[e]at h ⊢;exact Wg a h
 | c :: f :: l,hf,h =>
  obtain⟨b,rfl,h1⟩:=h;exact⟨b,rfl,wW hf h1⟩
section
variable {P:Program} {tb:Tb} {w:World} {O0:Nat→Prop} {σ:St} {ρ:Nat→Value} {vc:Prop} {v:AV} {obs:List (Nat×Obj)}
theorem QS.call {c:List RV} {nm:Nat} {u:Value} {ρ':Nat→Value} {w':World} (hf:Ba (Cm nm c) σ=true)
  (h:QS w (own O0 σ ρ) ⟨[],[]⟩ (fun _=>undef) (I4 nm c) (Cm nm c) u ρ' w') :
  QS w O0 σ ρ (I4 nm c) (Cm nm c) u (fun n=>if (lk n (Cm nm c)).isSome then ρ' n else ρ n) w':=by
 have f:∀n,Gn (ET ⟨[],[]⟩ (Cm nm c)) n↔∃o,lk n (Cm nm c)=some o:=fun n=>by simp[Gn,ET]
 have hk:CR (vw w' (own O0 σ ρ) (ET ⟨[],[]⟩ (Cm nm c)) ρ') (vw w' O0 (ET σ (Cm nm c)) (fun n=>if (lk n (Cm nm c)).isSome then ρ' n else ρ n)):=by
  refine⟨?_,?_,?_,fun _ _ _=>rfl⟩
  ·intro b _ d e;rcases e with h0|⟨n,i,hn⟩
   ·exact d (.inl (.inl h0))
   ·rcases Lw i with ⟨o,a⟩|⟨k,j⟩
    ·refine d (.inr ⟨n,(f n).2 ⟨o,a⟩,?_⟩);simpa[a] using hn
    ·refine d (.inl (.inr ⟨n,j,?_⟩));simpa[k] using hn
  ·intro n hn;obtain⟨o,a⟩:=(f n).1 hn;exact⟨o,by simp[ET,A0,a]⟩
  ·intro n hn;obtain⟨o,a⟩:=(f n).1 hn;simp[vw,a]
 refine⟨h.below,fun n hn=>by simp[hn],h.av.keeps hk,fun n o a=>?_,fun n o b a d=>?_,fun n m o l b a g d e=>?_⟩
 ·simp only[a,ACj,AAH];exact(h.obj n o a).keeps hk (fun _ _=>rfl)
 ·simp only[a,ACj,AAH]at d;exact h.new n o b a d
 ·simp only[a,g,ACj,AAH]at d e;exact h.dist n m o l b a g d e
theorem YU {V:Vw} {O':Nat→Prop} {l:Bool} (c:∀b,¬V.O b→¬O' b) (f:l=true→∀b,¬O' b) (e:∀n o,lk n σ.objs=some o→A3 V o (V.ρ n)) {ev:Operand→Value} (d:GH V σ ev) :
  ∀ {ts:List Ty} {xs:List Operand} {ds:Kj ts},Fy l σ ts xs=some ds→Rz V.w O' ts (xs.map ev) ds
 | [],[],ds,h=>rfl
 | [],_ :: _,ds,h=>by simp[Fy]at h
 | _ :: _,[],ds,h=>by simp[Fy]at h
 | t :: ts,x :: xs,ds,h=>by
  simp only[Fy]at h;cases a:Ah σ x with
  | none=>rw[a]at h;cases h
  | some av =>
   rw[a]at h;simp only at h;split at h
   ·rename_i y ys g i;cases h;exact⟨ev x,xs.map ev,rfl,KA c f e g (d x av a),YU c f e d i⟩
   ·cases h
theorem A4N (H:I8 P tb) (z:∀n o,lk n σ.objs=some o→A3 (vw w O0 σ ρ) o (ρ n)) (M:∀b,own O0 σ ρ b→b<w.heap.size) {a:Act} (m:GH (vw w O0 σ ρ) σ a.eval) {d:Nat} {xs:List Operand} {g:Operand}
  {o:Oper} {ts:Array TypeId} (y:o.op=.call { callee:=.value g,args:=xs.toArray,argTypes:=ts })
  (h:LW tb σ d xs (Ah σ g)=some (vc,v,obs)) (B:vc) (hf:Ba obs σ=true) {next:Act→World→Prop} {Q:Exit→Act→World→Prop} {r:Option Nat}
  (hn:∀u ρ' w',QS w O0 σ ρ v obs u ρ' w'→next (a.put o.dst u) w'):o.wpIn (FR r) 0 P a w next Q:=by
 cases p:Ah σ g with
 | none=>rw[p]at h;simp[LW]at h
 | some C =>
  rw[p]at h;have J:=m g C p;unfold LW at h;split at h
  ·rename_i f F;cases F;have I:a.eval g=.func (.func f) #[] #[]:=J;cases t:lk f tb.fns with
   | none=>rw[t]at h;simp[IB]at h
   | some sp =>
    rw[t]at h;simp only[IB]at h;cases i:Fy sp.lend σ sp.ins xs with
    | none=>rw[i]at h;simp[Je]at h
    | some ds =>
     rw[i]at h;simp only[Je]at h;split at h
     ·rename_i j;cases h;obtain⟨⟨fn,G,L,E⟩,A⟩:=H f sp t;have N:(execOp a.eval o).run P w=.ok (.enter f (xs.map a.eval).toArray) w:=by
       have h1 : ¬ fn.name = "runtime.NumGoroutine" := by simpa using L
       have D:¬fn.body=none:=by intro e;simp[e]at E
       simp[execOp,y,resolve,Deferred.ofValue,I,invoke,callFunc,G,h1,D]
      refine⟨fun _ _=>trivial,?_⟩;rw[Fe _ _ _ (fun c e=>by rw[y]at e;cases e),N,ACy];refine⟨fun h=>(by simp[FR]at h),Kw ?_⟩;by_cases q:sp.lend=true
      ·rw[q]at i;have x:(sp.out ds).all RV.flat=true:=by
        rcases j with j|j
        ·rw[q]at j;cases j
        ·exact j
       have l:=YU (V:=vw w O0 σ ρ) (O':=fun _=>False) (fun _ _ h=>h) (fun _ _ h=>h) z m i;refine(A w (fun _=>False) _ ds (fun _ h=>h.elim) l B).mono fun e w' hh=>?_;obtain⟨u,rfl,s⟩:=hh;obtain⟨ρ',k⟩:=s d;refine hn u ρ w' ?_;rw[R0 d x]at k ⊢;exact⟨k.below,fun _ _=>rfl,wX x k.av,(fun _ _ h=>by cases h),(fun _ _ _ h=>by cases h),(fun _ _ _ _ _ h=>by cases h)⟩
      ·have K:sp.lend=false:=by simpa using q
       rw[K]at i;have l:=YU (V:=vw w O0 σ ρ) (O':=own O0 σ ρ) (fun _ h=>h) (fun h=>by cases h) z m i;refine(A w (own O0 σ ρ) _ ds M l B).mono fun e w' hh=>?_;obtain⟨u,rfl,s⟩:=hh;obtain⟨ρ',k⟩:=s d;exact hn u _ w' (QS.call hf k)
     ·cases h
  ·cases h
end
end
section
open Go Go.RowKit
section
variable {P:Program} {tb:Tb} {w:World} {O0:Nat→Prop} {σ:St} {ρ:Nat→Value} {vc:Prop} {v:AV} {obs:List (Nat×Obj)}
theorem Aq {o:Oper} {a:Act} {u:Value} {w':World} {next:Act→World→Prop} {Q:Exit→Act→World→Prop} {r:Option Nat} (h:(execOp a.eval o).run P w=.ok (.value u) w') (hn:next (a.put o.dst u) w') (b:∀c,o.op≠.defer c:=by intro c e;cases e):o.wpIn (FR r) 0 P a w next Q:=by
 refine⟨fun _ _=>trivial,?_⟩;rw[Fe _ _ _ b,h];exact hn
theorem wY {V:Vw} (x:Value):B0 V (Gm x) x:=by
 unfold Gm;split
 ·rename_i k n;split
  ·rename_i h;exact BN h
  ·exact(rfl:(Value.int k n)=_)
 ·exact Be _
 ·rename_i s;split
  ·rename_i h;exact Td h
  ·exact(rfl:(Value.string s)=_)
 ·exact(rfl:x=x)
theorem Du {V:Vw} {a:Act} (h:∀s v,lk s σ.env=some v→B0 V v (a.tmps.getD s undef)):GH V σ a.eval:=by
 intro x v b;cases x with
 | tmp t=>exact h t v b
 | const c=>simp only[Ah]at b;cases b;exact wY c
 | global g=>simp[Ah]at b
 | func f=>simp only[Ah]at b;cases b;rfl
structure A5V (P:Program) (tb:Tb) (w:World) (O0:Nat→Prop) (σ:St) (ρ:Nat→Value) (a:Act):Prop where
 hT:DF P tb
 hF:I8 P tb
 obj:∀n o,lk n σ.objs=some o→A3 (vw w O0 σ ρ) o (ρ n)
 own:∀b,own O0 σ ρ b→b<w.heap.size
 ev:GH (vw w O0 σ ρ) σ a.eval
theorem QS.toP {d n:Nat} {el:TypeId} {e:Ty} {xs:List e.den} {u:Value} {ρ':Nat→Value} {w':World} (hown:∀b,own O0 σ ρ b→b<w.heap.size) (hf:Ba [(d,.arr el e xs)] σ=true)
  (hq:QS w O0 σ ρ (.sr d e 0 n) [(d,.arr el e xs)] u ρ' w') (hn:n=xs.length):QS w O0 σ ρ (.p (.slice e) xs) [] u ρ w' where
 below:=hq.below
 rho:=fun _ _=>rfl
 av:=by
  have hO:∀b,¬own O0 (ET σ [(d,.arr el e xs)]) ρ' b→¬own O0 (ET σ []) ρ b:=by
   intro b hb hb';rcases hb' with h0|⟨m,⟨o,hm⟩,hmb⟩
   ·exact hb (.inl h0)
   ·have hm:lk m σ.objs=some o:=hm;have hne:lk m [(d,Obj.arr el e xs)]=none:=by
     cases h':lk m [(d,Obj.arr el e xs)] with
     | none=>rfl
     | some o'=>have:=Nz hf h';rw[this]at hm;cases hm
    refine hb (.inr ⟨m,⟨o,by simp only[ET,A0,hne];simpa using hm⟩,?_⟩);rw[hq.rho m hne];exact hmb
  have hd:lk d [(d,Obj.arr el e xs)]=some (.arr el e xs):=by simp[lk]
  have hb:∀b,bk (ρ' d) b→¬own O0 (ET σ []) ρ b:=fun b hb hb'=>by
   have h1:=hq.new d _ b hd hb;have h2:=hown b hb';omega
  have hr:=YO (V:=vw w' O0 (ET σ [(d,.arr el e xs)]) ρ') hO (fun b hb'=>hb b (.inl hb')) (hq.obj d _ hd) hq.av.2;rw[hn,He]at hr;obtain⟨_,_,_,_,_,_,a',c',hve,_⟩:=hq.av.2;exact⟨[u],hr,by rw[hve];rfl⟩
 obj:=fun _ _ h=>by cases h
 new:=fun _ _ _ h=>by cases h
 dist:=fun _ _ _ _ _ h=>by cases h
theorem WJ {id:TypeId} {ti:TI} (hT:ED P tb id ti) (g:DF P tb) (r:∀n o,lk n σ.objs=some o→A3 (vw w O0 σ ρ) o (ρ n)) (A:∀b,own O0 σ ρ b→b<w.heap.size) {ev:Operand→Value} (i:GH (vw w O0 σ ρ) σ ev) {s:Bool} {d n:Nat} {parts:List (Nat×Operand)}
  (h:BP s σ d n parts (some ti)=some (vc,v,obs)) (f:vc) (hf:Ba obs σ=true) :
  ∃u ρ' w',(Instr.buildSlice id n (parts.map fun p=>(p.1,ev p.2)).toArray).run P w=.ok u w'∧QS w O0 σ ρ v obs u ρ' w':=by
 cases s with
 | false=>exact PM hT g r i h f hf
 | true =>
  unfold BP at h;split at h
  ·rename_i e offs el b z;cases hp:Eg σ e 0 parts with
   | none=>rw[hp]at h;simp[BV]at h
   | some xs =>
    rw[hp]at h;simp only[BV,AAH]at h;cases h;obtain⟨a,y⟩:∃a,lk a σ.objs=none:=by
     have:∀l:List (Nat×Obj),∃m,∀k,m≤k→lk k l=none:=by
      intro l;induction l with
      | nil=>exact⟨0,fun _ _=>rfl⟩
      | cons x l C =>
       obtain⟨m,c⟩:=C;refine⟨max m (x.1+1),fun k hk=>?_⟩;have:¬k=x.1:=by omega
       obtain⟨j,o⟩:=x;simp only[lk,this,AAY];exact c k (by omega)
     obtain⟨m,c⟩:=this σ.objs;exact⟨m,c m (No m)⟩
    have q:Ba [(a,.arr el e xs)] σ=true:=by simp[Ba,y]
    have B:BP false σ a n parts (some ti)=some (xs.length=n∧n*e.size≤16777216,.sr a e 0 n,[(a,.arr el e xs)]):=by
     unfold BP;rw[z];simp only;rw[hp];simp[BV]
    obtain⟨u,ρ',w',h1,t⟩:=PM hT g r i B f q;exact⟨u,ρ,w',h1,t.toP A q f.1.symm⟩
  ·cases h
theorem oU {a:Act} (F:A5V P tb w O0 σ ρ a) {o:Oper} (h:aq tb σ (o.dst.getD 0) o.op=some (vc,v,obs)) (C:vc) (hf:Ba obs σ=true)
  {next:Act→World→Prop} {Q:Exit→Act→World→Prop} {r:Option Nat} (hn:∀u ρ' w',QS w O0 σ ρ v obs u ρ' w'→next (a.put o.dst u) w'):o.wpIn (FR r) 0 P a w next Q:=by
 obtain⟨hT,hF,E,W,q⟩:=F;have R:∀n,(vw w O0 σ ρ).L n→∃o,A3 (vw w O0 σ ρ) o ((vw w O0 σ ρ).ρ n):=fun n ⟨o,ab⟩=>⟨o,E n o ab⟩;obtain⟨dst,op,type,pos,after,guard⟩:=o;simp only at h hn;cases op<;>simp only[aq]at h<;>try(cases h;done)
 case move x =>
  cases d:Ah σ x with
  | none=>rw[d]at h;cases h
  | some xv =>
   rw[d]at h;simp only[GT]at h;cases h;exact Aq (u:=a.eval x) (by simp[execOp]) (hn _ _ _ (QS.still (q x _ d)))
 case assign x =>
  cases d:Ah σ x with
  | none=>rw[d]at h;cases h
  | some xv =>
   rw[d]at h;simp only[GT]at h;cases h;exact Aq (u:=a.eval x) (by simp[execOp]) (hn _ _ _ (QS.still (q x _ d)))
 case pick c x y =>
  cases F:Ah σ c with
  | none=>rw[F]at h;simp[J5]at h
  | some O =>
   rw[F]at h;have T:=q c O F;unfold J5 at h;split at h
   ·rename_i G;cases G;have D:=EK T;cases d:Ah σ x with
    | none=>rw[d]at h;simp[GT]at h
    | some xv =>
     rw[d]at h;simp only[GT]at h;cases h;exact Aq (u:=a.eval x) (by simp[execOp,D,asBool]) (hn _ _ _ (QS.still (q x _ d)))
   ·rename_i G;cases G;have D:=EK T;cases A:Ah σ y with
    | none=>rw[A]at h;simp[GT]at h
    | some H =>
     rw[A]at h;simp only[GT]at h;cases h;exact Aq (u:=a.eval y) (by simp[execOp,D,asBool]) (hn _ _ _ (QS.still (q y _ A)))
   ·cases h
 case alloc t =>
  cases j:lk t tb.ty with
  | none=>rw[j]at h;simp[Jb]at h
  | some ti =>
   rw[j]at h;obtain⟨u,ρ',w',h1,k⟩:=A2w (w:=w) (O0:=O0) (ρ:=ρ) (hT _ _ j) h hf;exact Aq (u:=u) (w':=w') (by simp[execOp,h1]) (hn _ _ _ k)
 case box t x =>
  cases j:lk t tb.ty with
  | none=>rw[j]at h;simp[Qn]at h
  | some ti =>
   cases d:Ah σ x with
   | none=>rw[j,d]at h;simp[Qn]at h
   | some xv =>
    rw[j,d]at h;obtain⟨u,ρ',w',h1,k⟩:=A5T (hT _ _ j) h (q x _ d) hf;exact Aq (u:=u) (w':=w') (by simp[execOp,h1]) (hn _ _ _ k)
 case build t parts =>
  cases j:lk t tb.ty with
  | none=>rw[j]at h;simp[H5]at h
  | some ti =>
   rw[j]at h;obtain⟨rfl,u,h1,k⟩:=A2y (hT _ _ j) E q h;have h1:(Instr.build t (parts.map fun p=>(p.1,a.eval p.2))).run P w=.ok u w:=by
    rw[←h1]
    congr 2
    apply ACI;simp
   exact Aq (u:=u) (w':=w) (by simp[execOp,h1]) (hn _ _ _ (QS.still k))
 case buildSlice t n parts =>
  cases U:lk (dst.getD 0) tb.nests with
  | some aj =>
   rw[U]at h;simp only[Fz]at h;cases j:lk t tb.ty with
   | none=>rw[j]at h;simp[H7]at h
   | some ti =>
    rw[j]at h;obtain⟨u,ρ',w',h1,k⟩:=A4H (hT _ _ j) hT E q h C hf;have h1:(Instr.buildSlice t n (parts.map fun p=>(p.1,a.eval p.2))).run P w=.ok u w':=by
     rw[←h1]
     congr 2
     apply ACI;simp
    exact Aq (u:=u) (w':=w') (by simp[execOp,h1]) (hn _ _ _ k)
  | none =>
  rw[U]at h;simp only[Fz]at h;cases j:lk t tb.ty with
  | none=>rw[j]at h;simp[BP]at h
  | some ti =>
   rw[j]at h;obtain⟨u,ρ',w',h1,k⟩:=WJ (hT _ _ j) hT E W q h C hf;have h1:(Instr.buildSlice t n (parts.map fun p=>(p.1,a.eval p.2))).run P w=.ok u w':=by
    rw[←h1]
    congr 2
    apply ACI;simp
   exact Aq (u:=u) (w':=w') (by simp[execOp,h1]) (hn _ _ _ k)
 case load t x =>
  cases j:lk t tb.ty with
  | none=>rw[j]at h;simp[I5]at h
  | some ti =>
   cases d:Ah σ x with
   | none=>rw[j,d]at h;simp[I5]at h
   | some xv =>
    rw[j,d]at h;obtain⟨rfl,u,h1,k⟩:=wL (hT _ _ j) E h (q x _ d);exact Aq (u:=u) (w':=w) (by simp[execOp,h1]) (hn _ _ _ (QS.still k))
 case nilCheck x =>
  cases d:Ah σ x with
  | none=>rw[d]at h;simp[Se]at h
  | some xv =>
   rw[d]at h;obtain⟨rfl,⟨ad,G⟩,k⟩:=A5S h (q x _ d);exact Aq (u:=a.eval x) (w':=w) (by simp[execOp,G]) (hn _ _ _ (QS.still k))
 case binOp op t x y ao =>
  cases d:Ah σ x with
  | none=>rw[d]at h;simp[O5]at h
  | some xv =>
   cases A:Ah σ y with
   | none=>rw[d,A]at h;cases xv<;>simp[O5]at h
   | some H =>
    rw[d,A]at h;obtain⟨rfl,h1,u,k,B⟩:=A5O (P:=P) (t:=t) (fun D=>by
     cases j:lk t tb.ty with
     | none=>rw[j]at D;cases D
     | some ti =>
      have h0:=(hT _ _ j).2;rw[j]at D;unfold O4 at D;split at D
      ·rename_i e;cases e;exact h0
      ·cases D) w h C (q x _ d) (q y _ A)
    exact Aq (u:=u) (w':=w) (by simp[execOp,h1,k]) (hn _ _ _ (QS.still B))
 case unOp op t x =>
  cases d:Ah σ x with
  | none=>rw[d]at h;cases op<;>simp[v4]at h
  | some xv =>
   rw[d]at h;obtain⟨rfl,u,k,B⟩:=A8x (P:=P) w h C (q x _ d);exact Aq (u:=u) (w':=w) (by simp[execOp,k]) (hn _ _ _ (QS.still B))
 case convert s t x =>
  cases hs:lk s tb.ty with
  | none=>rw[hs]at h;simp[I7]at h
  | some an =>
   cases j:lk t tb.ty with
   | none=>rw[hs,j]at h;simp[I7]at h
   | some ti =>
    cases d:Ah σ x with
    | none=>rw[hs,j,d]at h;simp[I7]at h
    | some xv =>
     rw[hs,j,d]at h;obtain⟨rfl,u,k,B⟩:=A4D (P:=P) hT rfl (hT _ _ hs) (hT _ _ j) h C (q x _ d);have k:(convert s t (a.eval x)).run P w=.ok u w:=k;exact Aq (u:=u) (w':=w) (by simp[execOp,k]) (hn _ _ _ (QS.still B))
 case makeSlice t l c =>
  cases j:lk t tb.ty with
  | none=>rw[j]at h;simp[H8]at h
  | some ti =>
   cases d:Ah σ l with
   | none=>rw[j,d]at h;simp[H8]at h
   | some al =>
    cases A:Ah σ c with
    | none=>rw[j,d,A]at h;simp[H8]at h
    | some O =>
     rw[j,d,A]at h;obtain⟨u,ρ',w',h1,k⟩:=A4I (hT _ _ j) hT h C (q l _ d) (q c _ A) hf;exact Aq (u:=u) (w':=w') (by simp[execOp,h1]) (hn _ _ _ k)
 case slice t x lo hi af =>
  cases af with
  | some m =>
   cases lo with
   | some _=>cases hi<;>simp[aq]at h
   | none =>
    cases hi with
    | none=>simp[aq]at h
    | some h1 =>
     simp only[aq]at h;cases j:lk t tb.ty with
     | none=>rw[j]at h;simp[Dh]at h
     | some ti =>
      cases d:Ah σ x with
      | none=>rw[j,d]at h;simp[Dh]at h
      | some xv =>
       cases hh:Ah σ h1 with
       | none=>rw[j,d,hh]at h;simp[Dh]at h
       | some ai =>
        cases K:Ah σ m with
        | none=>rw[j,d,hh,K]at h;simp[Dh]at h
        | some am =>
         rw[j,d,hh,K]at h;obtain⟨rfl,u,k,B⟩:=wQ (P:=P) (V:=vw w O0 σ ρ) (hT _ _ j) hT h C (q x _ d) (q h1 _ hh) (q m _ K);have k:(Instr.sliceAt t (a.eval x) none (some (a.eval h1)) (some (a.eval m))).run P w=.ok u w:=k;exact Aq (u:=u) (w':=w) (by simp[execOp,k]) (hn _ _ _ (QS.still B))
  | none =>
   simp only[aq]at h;cases j:lk t tb.ty with
   | none=>rw[j]at h;simp[E9]at h
   | some ti =>
    cases d:Ah σ x with
    | none=>rw[j,d]at h;simp[E9]at h
    | some xv =>
     have S:∀ {y:Option Operand} {N:Option AV},GJ σ y=some N→Zt (V:=vw w O0 σ ρ) N (y.map a.eval):=by
      intro y N A;cases y with
      | none=>simp only[GJ]at A;cases A;trivial
      | some z =>
       simp only[GJ,NO]at A;obtain⟨Z,ae,rfl⟩:=A;exact q z Z ae
     cases I:GJ σ lo with
     | none=>rw[j,d,I]at h;simp[E9]at h
     | some ak =>
      cases J:GJ σ hi with
      | none=>rw[j,d,I,J]at h;simp[E9]at h
      | some ah =>
       rw[j,d,I,J]at h;obtain⟨rfl,u,k,B⟩:=A2v (P:=P) (V:=vw w O0 σ ρ) (hT _ _ j) hT h C (q x _ d) (S I) (S J);have k:(Instr.sliceAt t (a.eval x) (lo.map a.eval) (hi.map a.eval) none).run P w=.ok u w:=k;exact Aq (u:=u) (w':=w) (by simp[execOp,k]) (hn _ _ _ (QS.still B))
 case fieldAddr s x f =>
  cases hs:lk s tb.ty with
  | none=>rw[hs]at h;simp[GU]at h
  | some ti =>
   cases d:Ah σ x with
   | none=>rw[hs,d]at h;simp[GU]at h
   | some xv =>
    rw[hs,d]at h;obtain⟨rfl,u,k,B⟩:=A2r (P:=P) (hT _ _ hs) w h (q x _ d);exact Aq (u:=u) (w':=w) (by simp[execOp,k]) (hn _ _ _ (QS.still B))
 case indexAddr t x i =>
  cases j:lk t tb.ty with
  | none=>rw[j]at h;simp[FT]at h
  | some ti =>
   cases d:Ah σ x with
   | none=>rw[j,d]at h;simp[FT]at h
   | some xv =>
    cases hi:Ah σ i with
    | none=>rw[j,d,hi]at h;simp[FT]at h
    | some X =>
     rw[j,d,hi]at h;obtain⟨rfl,u,k,B⟩:=A2s (P:=P) (V:=vw w O0 σ ρ) (hT _ _ j) hT h C (q x _ d) (q i _ hi) R;have k:(Instr.indexAt t (a.eval x) (a.eval i)).run P w=.ok u w:=k;exact Aq (u:=u) (w':=w) (by simp[execOp,k]) (hn _ _ _ (QS.still B))
 case index t x i =>
  cases j:lk t tb.ty with
  | none=>rw[j]at h;simp[Ds]at h
  | some ti =>
   cases d:Ah σ x with
   | none=>rw[j,d]at h;simp[Ds]at h
   | some xv =>
    cases hi:Ah σ i with
    | none=>rw[j,d,hi]at h;simp[Ds]at h
    | some X =>
     rw[j,d,hi]at h;obtain⟨rfl,u,k,B⟩:=wN (P:=P) (hT _ _ j) w h C (q x _ d) (q i _ hi);exact Aq (u:=u) (w':=w) (by simp[execOp,k]) (hn _ _ _ (QS.still B))
 case extract x i =>
  cases d:Ah σ x with
  | none=>rw[d]at h;simp[D9]at h
  | some xv =>
   rw[d]at h;obtain⟨rfl,u,k,B⟩:=sA (P:=P) w h (q x _ d);exact Aq (u:=u) (w':=w) (by simp[execOp,k]) (hn _ _ _ (QS.still B))
 case makeFunc fn first aa =>
  obtain⟨rfl,u,k,B⟩:=A5U (P:=P) q h;have k:(Instr.makeFunc fn (first.map a.eval) (aa.map a.eval)).run P w=.ok u w:=by
   rw[←k]
   congr 2<;>(apply ACI;simp)
  exact Aq (u:=u) (w':=w) (by simp[execOp,k]) (hn _ _ _ (QS.still B))
 case makeMap t res =>
  cases res with
  | some z=>simp[aq]at h
  | none =>
   simp only[aq]at h;cases j:lk t tb.ty with
   | none=>rw[j]at h;simp[FD]at h
   | some ti =>
    rw[j]at h;obtain⟨u,ρ',w',h1,k⟩:=sF (w:=w) (O0:=O0) (ρ:=ρ) (hT _ _ j) h hf;exact Aq (u:=u) (w':=w') (by simp[execOp,h1]) (hn _ _ _ k)
 case lookup t x i ok =>
  cases j:lk t tb.ty with
  | none=>rw[j]at h;simp[IC]at h
  | some ti =>
   cases d:Ah σ x with
   | none=>rw[j,d]at h;simp[IC]at h
   | some xv =>
    cases hi:Ah σ i with
    | none=>rw[j,d,hi]at h;simp[IC]at h
    | some X =>
     rw[j,d,hi]at h;obtain⟨rfl,u,k,B⟩:=A4L (P:=P) (hT _ _ j) hT E h (q x _ d) (q i _ hi);exact Aq (u:=u) (w':=w) (by simp[execOp,k]) (hn _ _ _ (QS.still B))
 case call c =>
  obtain⟨callee,args,argTypes⟩:=c;cases callee with
  | invoke r m=>simp[Cc]at h
  | value g =>
   simp only[Cc]at h;exact A4N hF E W q (xs:=args.toList) (ts:=argTypes) (o:=⟨dst,.call ⟨.value g,args,argTypes⟩,type,pos,after,guard⟩) (by simp) h C hf hn
  | builtin b =>
   simp only[Cc]at h;obtain⟨args⟩:=args;obtain⟨argTypes⟩:=argTypes;simp only at h;unfold Cn at h;split at h
   ·rename_i x t;cases j:lk t tb.ty with
    | none=>rw[j]at h;simp[Qo]at h
    | some ti =>
     cases d:Ah σ x with
     | none=>rw[j,d]at h;simp[Qo]at h
     | some xv =>
      rw[j,d]at h;obtain⟨rfl,u,k,B⟩:=A5P (P:=P) (ty:=type) (V:=vw w O0 σ ρ) R (hT _ _ j) w h (q x _ d);exact Aq (u:=u) (w':=w) (by simp[execOp,resolve,invoke,builtin,k]) (hn _ _ _ (QS.still B))
   ·rename_i x y t u;cases d:Ah σ x with
    | none=>rw[d]at h;simp[CX]at h
    | some xv =>
     cases A:Ah σ y with
     | none=>rw[d,A]at h;simp[CX]at h
     | some H =>
      rw[d,A]at h;obtain⟨z,ρ',w',h1,k⟩:=wT (ty:=type) hT E h C (q x _ d) (q y _ A) hf;exact Aq (u:=z) (w':=w') (by simp[execOp,resolve,invoke,builtin,h1]) (hn _ _ _ k)
   ·rename_i x y t u;cases d:Ah σ x with
    | none=>rw[d]at h;simp[O6]at h
    | some xv =>
     cases A:Ah σ y with
     | none=>rw[d,A]at h;simp[O6]at h
     | some H =>
      rw[d,A]at h;obtain⟨rfl,z,h1,k⟩:=A5Q (P:=P) (ts:=#[t,u]) (ty:=type) w h (q x _ d) (q y _ A);exact Aq (u:=z) (w':=w) (by simp[execOp,resolve,invoke,builtin,h1]) (hn _ _ _ (QS.still k))
   ·rename_i x y t u;cases d:Ah σ x with
    | none=>rw[d]at h;simp[O7]at h
    | some xv =>
     cases A:Ah σ y with
     | none=>rw[d,A]at h;simp[O7]at h
     | some H =>
      rw[d,A]at h;obtain⟨rfl,z,h1,k⟩:=A5R (P:=P) (ts:=#[t,u]) (ty:=type) w h (q x _ d) (q y _ A);exact Aq (u:=z) (w':=w) (by simp[execOp,resolve,invoke,builtin,h1]) (hn _ _ _ (QS.still k))
   ·rename_i x y Y t u ag;cases d:Ah σ x with
    | none=>rw[d]at h;simp[IA]at h
    | some xv =>
     cases A:Ah σ y with
     | none=>rw[d,A]at h;simp[IA]at h
     | some H =>
      cases M:Ah σ Y with
      | none=>rw[d,A,M]at h;simp[IA]at h
      | some Z =>
       rw[d,A,M]at h;obtain⟨rfl,z,h1,k⟩:=A4E (P:=P) (ts:=#[t,u,ag]) (ty:=type) w h (q x _ d) (q y _ A) (q Y _ M);exact Aq (u:=z) (w':=w) (by simp[execOp,resolve,invoke,builtin,h1]) (hn _ _ _ (QS.still k))
   ·cases h
end
end
section
open Go Go.RowKit
section
variable {w0:World} {K O0:Nat→Prop} {nt:Nat} {ds:Fp} {σ:St} {ρ:Nat→Value} {a:Act} {w:World}
theorem A2A {n:Nat} {o:Obj} {env:List (Nat×AV)} (m:Nat):Gn ⟨env,upd n o σ.objs⟩ m↔Gn σ m:=by
 constructor
 ·rintro⟨x,a⟩;rw[GV]at a;split at a
  ·rename_i e;subst e;simp only[NO]at a;obtain⟨y,b,_⟩:=a;exact⟨y,b⟩
  ·exact⟨x,a⟩
 ·rintro⟨x,a⟩;by_cases e:m=n
  ·subst e;exact⟨o,by simp[GV,a]⟩
  ·exact⟨x,by simp[GV,e,a]⟩
theorem Bm.upd (h:Bm w0 K O0 nt ds σ ρ a w) (A:∀b,K b→b<w0.heap.size) {n:Nat} {o j:Obj} (hn:lk n σ.objs=some o) {g:Nat} (r:blk (ρ n)=some g) {w':World} (d:w.grownBy w' (some g))
  (E:A3 (vw w' O0 σ ρ) j (ρ n)):Bm w0 K O0 nt ds ⟨σ.env,Fw.upd n j σ.objs⟩ ρ a w':=by
 have i:Gn ⟨σ.env,Fw.upd n j σ.objs⟩=Gn σ:=funext fun m=>propext (A2A m);have y:vw w' O0 ⟨σ.env,Fw.upd n j σ.objs⟩ ρ=vw w' O0 σ ρ:=by
  have F:own O0 ⟨σ.env,Fw.upd n j σ.objs⟩ ρ=own O0 σ ρ:=by
   funext b;simp only[own,i]
  simp only[vw,i,F]
 have C:own O0 σ ρ g:=.inr ⟨n,⟨o,hn⟩,.inl r⟩;have hk:CR (vw w O0 σ ρ) (vw w' O0 σ ρ):=⟨fun _ _ h=>h,fun _ h=>h,fun _ _=>rfl,fun b D B=>d.block b D (fun e=>by injection e with e;subst e;exact B C)⟩;refine⟨⟨d.os.trans h.frm.os,d.tape.trans h.frm.tape,d.output.trans h.frm.output,aT h.frm.size d.size,fun k t=>?_⟩,h.nt,h.defers,fun p hp=>by rw[i];exact h.pin p hp,?_,?_,?_,?_⟩
 ·refine(d.block k (AAy (A k t) h.frm.size) (fun e=>?_)).trans (h.frm.block k t);injection e with e
  subst e;exact(h.free n k ⟨o,hn⟩ (.inl r)).1 t
 ·intro m x c;rw[y];rw[GV]at c;split at c
  ·rename_i e;subst e;rw[hn]at c;simp only[AAX]at c;cases c;exact E
  ·rename_i e;refine(h.objs m x c).keeps hk fun b l=>?_;refine d.block b ((h.objs m x c).block_lt l) (fun q=>?_);injection q with q
   subst q;exact e (h.dist m n b ⟨x,c⟩ ⟨o,hn⟩ l (.inl r))
 ·intro m b f l;rw[i]at f;exact h.free m b f l
 ·intro m G b f u h1 z;rw[i]at f u;exact h.dist m G b f u h1 z
 ·intro s v hs;rw[y];exact(h.env s v hs).keeps hk
theorem KC (n s:Nat):∀l:List (Nat×AV),lk s (FQ n l)=(lk s l).map (AV.drp n)
 | []=>rfl
 | (j,v) :: l=>by
  simp only[FQ,lk];split
  ·rfl
  ·exact KC n s l
def Obj.drp (n:Nat):Obj→Obj
 | .arr et e xs=>.arr et e xs
 | .box et st fs=>.box et st (AV.drps n fs)
 | .mapo k v l=>.mapo k v l
 | .nest et b k e xs h=>.nest et b k e xs h
 | .frame i fs=>.frame i (FQ n fs)
 | .loop L=>.loop L
 | .itr c g d f a=>.itr c g d f a
 | .dfr=>.dfr
theorem Bn (n s:Nat):∀l:List (Nat×Obj),lk s (BU n l)=(lk s l).map (Obj.drp n)
 | []=>rfl
 | (j,.arr et e xs) :: l=>by
  simp only[BU,lk];split
  ·rfl
  ·exact Bn n s l
 | (j,.box et st fs) :: l=>by
  simp only[BU,lk];split
  ·rfl
  ·exact Bn n s l
 | (j,.mapo k v x) :: l=>by
  simp only[BU,lk];split
  ·rfl
  ·exact Bn n s l
 | (j,.nest et b k e xs h) :: l=>by
  simp only[BU,lk];split
  ·rfl
  ·exact Bn n s l
 | (j,.frame i fs) :: l=>by
  simp only[BU,lk];split
  ·rfl
  ·exact Bn n s l
 | (j,.loop L) :: l=>by
  simp only[BU,lk];split
  ·rfl
  ·exact Bn n s l
 | (j,.itr c g d f a) :: l=>by
  simp only[BU,lk];split
  ·rfl
  ·exact Bn n s l
 | (j,.dfr) :: l=>by
  simp only[BU,lk];split
  ·rfl
  ·exact Bn n s l
def Vw.but (V:Vw) (n:Nat):Vw:=⟨V.w,V.O,fun m=>V.L m∧m≠n,V.ρ⟩
def seat (v:Value):Prop:=(∃a m c,v=.slice a m c)∨∃b,v=.tuple b
theorem I9 {V:Vw} {n:Nat} (hn:seat (V.ρ n)) {x:AV} {v:Value} (h:TX V x v):TX (V.but n) (x.drp n) v:=by
 cases x;case sr m e lo hi =>
  simp only[AV.drp];split
  ·trivial
  ·rename_i g;exact⟨⟨h.1,g⟩,h.2⟩
 case ep m e i p off =>
  simp only[AV.drp];split
  ·trivial
  ·rename_i g;exact⟨⟨h.1,g⟩,h.2⟩
 case nin m e i len =>
  simp only[AV.drp];split
  ·trivial
  ·rename_i g;exact⟨⟨h.1,g⟩,h.2⟩
 case bp m p off =>
  simp only[AV.drp];refine⟨⟨h.1,fun e=>?_⟩,h.2⟩;subst e;obtain⟨_,b,d,_⟩:=h;rcases hn with ⟨a,j,c,hs⟩|⟨k,hs⟩<;>(rw[hs]at d;cases d)
 case clo f ns =>
  simp only[AV.drp];refine⟨h.1,fun m o=>?_⟩;obtain⟨h1,b,d⟩:=h.2 m o;refine⟨⟨h1,fun e=>?_⟩,b,d⟩;subst e;rcases hn with ⟨a,j,c,hs⟩|⟨k,hs⟩<;>(rw[hs]at d;cases d)
 case mp m =>
  simp only[AV.drp];refine⟨⟨h.1,fun e=>?_⟩,h.2⟩;subst e;obtain⟨_,b,d,_⟩:=h;rcases hn with ⟨a,j,c,hs⟩|⟨k,hs⟩<;>(rw[hs]at d;cases d)
 case yl m =>
  simp only[AV.drp];refine⟨⟨h.1,fun e=>?_⟩,h.2⟩;subst e;obtain⟨_,b,d,_⟩:=h;rcases hn with ⟨a,j,c,hs⟩|⟨k,hs⟩<;>(rw[hs]at d;cases d)
 case ag l=>exact h.elim
 case tup l=>exact h.elim
 all_goals simp only[AV.drp];exact h
theorem A2B {V:Vw} {n:Nat} (hn:seat (V.ρ n)) {x:AV} {cs:List Value} (h:NS V x cs):NS (V.but n) (x.drp n) cs:=by
 cases x;case p t d=>simp only[AV.drp];exact h
 case ag l=>obtain⟨v,_,_,hf⟩:=h;exact hf.elim
 case tup l=>obtain⟨v,_,_,hf⟩:=h;exact hf.elim
 all_goals
  obtain⟨v,rfl,h1,c⟩:=h;have a:=I9 hn c;simp only[AV.drp]at a ⊢;first
   | exact⟨v,rfl,h1,a⟩
   | (split at a<;>rename_i b<;>first|(rw[At b];exact⟨v,rfl,h1,a⟩)|(rw[As b];exact⟨v,rfl,h1,a⟩))
theorem PO {V:Vw} {n:Nat} (hn:seat (V.ρ n)):∀ {l:List AV} {cs:List Value},DX V l cs→DX (V.but n) (AV.drps n l) cs
 | [],cs,h=>(h:cs=[])
 | x :: r,cs,h=>by
  obtain⟨c1,c2,rfl,h1,a⟩:=h;simp only[AV.drps];exact⟨c1,c2,rfl,A2B hn h1,PO hn a⟩
theorem A2C {V:Vw} {n:Nat} (hn:seat (V.ρ n)) {x:AV} {v:Value} (a:Rr V x v):Rr (V.but n) (x.drp n) v:=by
 cases x;case ag l=>obtain⟨cs,h1,b⟩:=a;simp only[AV.drp];exact⟨cs,h1,PO hn b⟩
 all_goals exact Rr.of1 (I9 hn a)
theorem Z1 {V:Vw} {n:Nat} (hn:seat (V.ρ n)):∀ {l:List AV} {a:List Value},J7 V l a→J7 (V.but n) (AV.drps n l) a
 | [],a,h=>(h:a=[])
 | x :: r,a,h=>by
  obtain⟨v,c,rfl,h1,b⟩:=h;simp only[AV.drps];exact⟨v,c,rfl,A2C hn h1,Z1 hn b⟩
theorem A2D {V:Vw} {x:AV} {v:Value} (h:TX V x v):B0 V x v:=by
 cases x;case ag l=>exact h.elim
 case tup l=>exact h.elim
 all_goals exact h
theorem oV {V:Vw} {n:Nat} (hn:seat (V.ρ n)) {x:AV} {v:Value} (h:B0 V x v):B0 (V.but n) (x.drp n) v:=by
 cases x;case ag l=>obtain⟨cs,h1,a⟩:=h;simp only[AV.drp];exact⟨cs,h1,PO hn a⟩
 case tup l=>obtain⟨b,h1,a⟩:=h;simp only[AV.drp];exact⟨b,h1,Z1 hn a⟩
 all_goals exact A2D (I9 hn h)
theorem R1 (n:Nat):∀l:List AV,(AV.drps n l).length=l.length
 | []=>rfl
 | _ :: r=>by simp[AV.drps,R1 n r]
theorem A2E {n:Nat} {c:Obj} {env:List (Nat×AV)} (m:Nat):Gn ⟨env,upd n c (BU n σ.objs)⟩ m↔Gn σ m:=by
 constructor
 ·rintro⟨x,a⟩;rw[GV,Bn,Bn]at a;split at a
  ·rename_i e;subst e;simp only[Option.map_map,NO]at a;obtain⟨y,b,_⟩:=a;exact⟨y,b⟩
  ·simp only[NO]at a;obtain⟨y,b,_⟩:=a;exact⟨y,b⟩
 ·rintro⟨x,a⟩;by_cases e:m=n
  ·subst e;exact⟨c,by simp[GV,Bn,a]⟩
  ·exact⟨x.drp n,by simp[GV,Bn,e,a]⟩
theorem Bm.app (h:Bm w0 K O0 nt ds σ ρ a w) (aa:∀b,K b→b<w0.heap.size) (af:∀b,O0 b→b<w0.heap.size) {n:Nat} (aj:GS n=false) {et:TypeId} {e:Ty} {xs ys:List e.den} (hn:lk n σ.objs=some (.arr et e xs)) {loc:Value} {w':World} {cells:List Value}
  (G:w.grownBy w' (blk (ρ n))) (W:blk loc=blk (ρ n)∨∀b,blk loc=some b→w.heap.size≤b) (N:ys.length≤AO)
  (T:w'.ownsRow 0 et e.size loc ys.length cells) (ai:Dp w (own O0 σ ρ) e cells ys) {d:Nat} (ah:d<nt) {hi:Nat} (ak:hi=ys.length) :
  Bm w0 K O0 nt ds ⟨(d,.sr n e 0 hi) :: FQ n σ.env,Fw.upd n (.arr et e ys) (BU n σ.objs)⟩ (EU ρ n loc) (a.put (some d) loc) w':=by
 subst ak;have O:∃a m c,(vw w O0 σ ρ).ρ n=.slice a m c:=by
  obtain⟨_,cells',ao,_⟩:=h.objs n _ hn;rcases ao.2 with ⟨F,_⟩|⟨g,cap,Y,F,_⟩
  ·exact⟨_,_,_,F⟩
  ·exact⟨_,_,_,F⟩
 let σ':St:=⟨(d,.sr n e 0 ys.length) :: FQ n σ.env,Fw.upd n (.arr et e ys) (BU n σ.objs)⟩
 have I:∀m,Gn σ' m↔Gn σ m:=fun m=>A2E m;have M:∀b,bk loc b↔blk loc=some b:=fun b=>by
  rcases T.2 with ⟨F,_⟩|⟨g,cap,Y,F,_⟩
  ·rw[F];exact Lv
  ·rw[F];exact Lv
 have av:∀b,bk (ρ n) b↔blk (ρ n)=some b:=fun b=>by
  obtain⟨ab,ar,c2,B⟩:=O;have B:ρ n=_:=B;rw[B];exact Lv
 have am:∀b,bk loc b→own O0 σ ρ b∨w.heap.size≤b:=by
  intro b f;replace f:=(M b).1 f;rcases W with h1|h1
  ·exact .inl (.inr ⟨n,⟨_,hn⟩,.inl (by rw[←h1];exact f)⟩)
  ·exact .inr (h1 b f)
 have hk:CR ((vw w O0 σ ρ).but n) (vw w' O0 σ' (EU ρ n loc)):=by
  refine⟨?_,fun m N=>(I m).2 N.1,fun m N=>?_,?_⟩
  ·intro b R f E;rcases E with h0|⟨m,i,P⟩
   ·exact f (.inl h0)
   ·by_cases S:m=n
    ·subst S;rw[Bg]at P;rcases am b P with h1|h1
     ·exact f h1
     ·have R:b<w.heap.size:=R;omega
    ·have:EU ρ n loc m=ρ m:=by simp[EU,S]
     rw[this]at P;exact f (.inr ⟨m,(I m).1 i,P⟩)
  ·have:m≠n:=N.2;show EU ρ n loc m=ρ m;simp[EU,this]
  ·intro b R f;exact G.block b R (fun j=>f (.inr ⟨n,⟨_,hn⟩,.inl j.symm⟩))
 refine⟨⟨G.os.trans h.frm.os,G.tape.trans h.frm.tape,G.output.trans h.frm.output,aT h.frm.size G.size,fun k H=>?_⟩,by rw[J9];exact h.nt,by rw[GW];exact h.defers,fun p hp=>?_,?_,?_,?_,?_⟩
 ·refine(G.block k (AAy (aa k H) h.frm.size) (fun j=>?_)).trans (h.frm.block k H);exact(h.free n k ⟨_,hn⟩ (.inl j.symm)).1 H
 ·obtain⟨h1,r,A⟩:=h.pin p hp;have al:p.1≠n:=by
   intro q;obtain⟨ab,ar,c2,B⟩:=O;have B:ρ n=_:=B;rw[←q,r]at B;rw[B]at A;rcases A with A|A
   ·cases A
   ·rw[q,aj]at A;cases A
  exact⟨(I p.1).2 h1,by simp[EU,al,r],A⟩
 ·intro m x C;show A3 (vw w' O0 σ' (EU ρ n loc)) x (EU ρ n loc m);rw[GV]at C;split at C
  ·rename_i j;subst j;rw[Bn,hn]at C;simp only[AAX]at C;cases C;rw[Bg];exact⟨N,cells,T,ai.keeps (V:=(vw w O0 σ ρ).but m) hk⟩
  ·rename_i j;rw[Bn]at C;simp only[NO]at C;obtain⟨y,t,rfl⟩:=C;have:EU ρ n loc m=ρ m:=by simp[EU,j]
   rw[this];have f:∀b,bk (ρ m) b→w'.heap[b]?=w.heap[b]?:=fun b E=>by
    refine G.block b ((h.objs m y t).block_lt E) (fun q=>?_);exact j (h.dist m n b ⟨y,t⟩ ⟨_,hn⟩ E (.inl q.symm))
   have D:=h.objs m y t;cases y with
   | arr Z q bc=>exact A3.keeps (V:=(vw w O0 σ ρ).but n) hk f D
   | box Z st fs =>
    obtain⟨h0,b,cs,i,hh,ag⟩:=D;exact A3.keeps (V:=(vw w O0 σ ρ).but n) (o:=.box Z st (AV.drps n fs)) hk f ⟨fun ap=>by rw[R1];exact h0 ap,b,cs,i,hh,PO (.inl O) ag⟩
   | mapo k v l=>exact A3.keeps (V:=(vw w O0 σ ρ).but n) hk f D
   | nest et aq k e xs i=>exact A3.keeps (V:=(vw w O0 σ ρ).but n) (o:=.nest et aq k e xs i) hk f (Mp (V:=vw w O0 σ ρ) (V':=(vw w O0 σ ρ).but n) rfl rfl D)
   | frame au fs =>
    obtain⟨h0,h1⟩:=D;refine A3.keeps (V:=(vw w O0 σ ρ).but n) (o:=.frame au (FQ n fs)) hk f ⟨h0,fun s z X=>?_⟩;rw[KC]at X;simp only[NO]at X;obtain⟨y,t,rfl⟩:=X;exact oV (.inl O) (h1 s y t)
   | loop L=>exact A3.keeps (V:=(vw w O0 σ ρ).but n) hk f D
   | itr ay bb az ba ax=>exact A3.keeps (V:=(vw w O0 σ ρ).but n) hk f D
   | dfr=>exact A3.keeps (V:=(vw w O0 σ ρ).but n) hk f D
 ·intro m b i f;replace i:=(I m).1 i;by_cases j:m=n
  ·subst j;rw[Bg]at f;rcases W with h1|h1
   ·exact h.free m b i (.inl (by rw[←h1];exact(M b).1 f))
   ·have:=h1 b ((M b).1 f);have:=h.frm.size;exact⟨fun H=>by have:=aa b H;omega,fun H=>by have:=af b H;omega⟩
  ·have:EU ρ n loc m=ρ m:=by simp[EU,j]
   rw[this]at f;exact h.free m b i f
 ·have key:∀m b,Gn σ m→m≠n→bk (ρ m) b→bk loc b→False:=by
   intro m b i S f E;rcases W with h1|h1
   ·exact S (h.dist m n b i ⟨_,hn⟩ f (.inl (by rw[←h1];exact(M b).1 E)))
   ·have r:=h1 b ((M b).1 E);obtain⟨y,t⟩:=i;have:=(h.objs m y t).block_lt f;have:b<w.heap.size:=this;omega
  intro m u b i Q h1 r;replace i:=(I m).1 i;replace Q:=(I u).1 Q;by_cases J:m=n<;>by_cases q:u=n
  ·rw[J,q]
  ·subst J;have:EU ρ m loc u=ρ u:=by simp[EU,q]
   rw[this]at r;rw[Bg]at h1;exact(key u b Q q r h1).elim
  ·subst q;have:EU ρ u loc m=ρ m:=by simp[EU,J]
   rw[this]at h1;rw[Bg]at r;exact(key m b i J h1 r).elim
  ·have ad:EU ρ n loc m=ρ m:=by simp[EU,J]
   have ae:EU ρ n loc u=ρ u:=by simp[EU,q]
   rw[ad]at h1;rw[ae]at r;exact h.dist m u b i Q h1 r
 ·intro s v hs;show B0 (vw w' O0 σ' (EU ρ n loc)) v _;rw[Ks a d loc s (by rw[h.nt];exact ah)];simp only[lk]at hs;split at hs
  ·rename_i U;cases hs;rw[At U];refine⟨(I n).2 ⟨_,hn⟩,?_⟩;show DE (plc (EU ρ n loc n)) e.size 0 ys.length loc;rw[Bg,Hk T];rcases T.2 with ⟨rfl,an⟩|⟨g,cap,Y,rfl,_,_,aw,_⟩
   ·exact⟨none,0,0,rfl,by omega,by omega,none,0,by rw[an],by omega,fun _=>⟨rfl,rfl⟩,fun h=>by omega⟩
   ·exact⟨some ⟨g,0,none⟩,ys.length,cap,rfl,by omega,by omega,some ⟨g,0,none⟩,cap,by simp,by omega,fun _=>⟨rfl,rfl⟩,fun _=>by simp[Mo]⟩
  ·rename_i U;rw[As U];rw[KC]at hs;simp only[NO]at hs;obtain⟨y,t,rfl⟩:=hs;exact(oV (.inl O) (h.env s y t)).keeps hk
end
end
section
open Go Go.RowKit
def Vw.buts (V:Vw) (hs:List Nat):Vw:=⟨V.w,V.O,fun m=>V.L m∧AW m hs=false,V.ρ⟩
theorem YV {V:Vw} {hs:List Nat} {x:AV} {v:Value} (h:TX V x v):TX (V.buts hs) (x.fgt hs) v:=by
 cases x;case clo f ns =>
  simp only[AV.fgt];split
  ·trivial
  ·rename_i a;refine⟨h.1,fun n hn=>⟨⟨(h.2 n hn).1,?_⟩,(h.2 n hn).2⟩⟩;cases b:AW n hs with
   | false=>rfl
   | true=>exact absurd (TO.2 ⟨n,hn,b⟩) a
 case ag l=>exact h.elim
 case tup l=>exact h.elim
 case p t d=>simp only[AV.fgt];exact h
 case pc e d=>simp only[AV.fgt];exact h
 case raw u=>simp only[AV.fgt];exact h
 case ip t d=>simp only[AV.fgt];exact h
 case fn f=>simp only[AV.fgt];exact h
 case top=>trivial
 all_goals
  simp only[AV.fgt];split
  ·trivial
  ·rename_i a;exact⟨⟨h.1,by simpa using a⟩,h.2⟩
theorem A2F {V:Vw} {hs:List Nat} {x:AV} {cs:List Value} (h:NS V x cs):NS (V.buts hs) (x.fgt hs) cs:=by
 cases x;case p t d=>simp only[AV.fgt];exact h
 case ag l=>obtain⟨v,_,_,hf⟩:=h;exact hf.elim
 case tup l=>obtain⟨v,_,_,hf⟩:=h;exact hf.elim
 all_goals
  obtain⟨v,rfl,h1,c⟩:=h;have a:=YV (hs:=hs) c;simp only[AV.fgt]at a ⊢;first
   | exact⟨v,rfl,h1,a⟩
   | (split at a<;>rename_i b<;>first|(rw[At b];exact⟨v,rfl,h1,a⟩)|(rw[As b];exact⟨v,rfl,h1,a⟩))
theorem PP {V:Vw} {hs:List Nat}:∀ {l:List AV} {cs:List Value},DX V l cs→DX (V.buts hs) (AV.fgts hs l) cs
 | [],cs,h=>(h:cs=[])
 | x :: r,cs,h=>by
  obtain⟨c1,c2,rfl,h1,a⟩:=h;simp only[AV.fgts];exact⟨c1,c2,rfl,A2F h1,PP a⟩
theorem A2G {V:Vw} {hs:List Nat} {x:AV} {v:Value} (a:Rr V x v):Rr (V.buts hs) (x.fgt hs) v:=by
 cases x;case ag l=>obtain⟨cs,h1,b⟩:=a;simp only[AV.fgt];exact⟨cs,h1,PP b⟩
 all_goals exact Rr.of1 (YV a)
theorem Z2 {V:Vw} {hs:List Nat}:∀ {l:List AV} {a:List Value},J7 V l a→J7 (V.buts hs) (AV.fgts hs l) a
 | [],a,h=>(h:a=[])
 | x :: r,a,h=>by
  obtain⟨v,c,rfl,h1,b⟩:=h;simp only[AV.fgts];exact⟨v,c,rfl,A2G h1,Z2 b⟩
theorem PQ {V:Vw} {hs:List Nat} {x:AV} {v:Value} (h:B0 V x v):B0 (V.buts hs) (x.fgt hs) v:=by
 cases x;case ag l=>obtain⟨cs,h1,a⟩:=h;simp only[AV.fgt];exact⟨cs,h1,PP a⟩
 case tup l=>obtain⟨b,h1,a⟩:=h;simp only[AV.fgt];exact⟨b,h1,Z2 a⟩
 all_goals exact A2D (YV h)
theorem DK (hs:List Nat) (s:Nat):∀l:List (Nat×AV),lk s (BT hs l)=(lk s l).map (AV.fgt hs)
 | []=>rfl
 | (j,v) :: l=>by
  simp only[BT,lk];split
  ·rfl
  ·exact DK hs s l
theorem R2 (hs:List Nat):∀l:List AV,(AV.fgts hs l).length=l.length
 | []=>rfl
 | _ :: r=>by simp[AV.fgts,R2 hs r]
theorem BR (a hs:List Nat) (n:Nat):∀l:List (Nat×Obj),lk n (Af a hs l)=if AW n a=true then none else (lk n l).map (Obj.fgt hs)
 | []=>by simp[Af,lk]
 | (j,o) :: l=>by
  simp only[Af];by_cases b:AW j a=true
  ·rw[At b,BR a hs n l];by_cases hn:n=j
   ·subst hn;simp[b]
   ·simp[lk,hn]
  ·rw[As b];simp only[lk];by_cases hn:n=j
   ·subst hn;simp[b]
   ·simp[hn,BR a hs n l]
theorem Su {V V':Vw} {hs:List Nat} (hk:CR (V.buts hs) V') {o:Obj} {loc:Value} (a:∀b,bk loc b→V'.w.heap[b]?=V.w.heap[b]?) (h:A3 V o loc):A3 V' (o.fgt hs) loc:=by
 cases o with
 | arr et e xs=>exact A3.keeps (V:=V.buts hs) hk a h
 | box et st fs =>
  obtain⟨h0,b,cs,c,hh,f⟩:=h;exact A3.keeps (V:=V.buts hs) (o:=.box et st (AV.fgts hs fs)) hk a ⟨fun g=>by rw[R2];exact h0 g,b,cs,c,hh,PP f⟩
 | mapo k v l=>exact A3.keeps (V:=V.buts hs) hk a h
 | nest et j k e xs c=>exact A3.keeps (V:=V.buts hs) (o:=.nest et j k e xs c) hk a (Mp (V:=V) (V':=V.buts hs) rfl rfl h)
 | frame m fs =>
  obtain⟨h0,h1⟩:=h;refine A3.keeps (V:=V.buts hs) (o:=.frame m (BT hs fs)) hk a ⟨h0,fun s z d=>?_⟩;rw[DK]at d;simp only[NO]at d;obtain⟨y,i,rfl⟩:=d;exact PQ (h1 s y i)
 | loop L=>exact A3.keeps (V:=V.buts hs) hk a h
 | itr p t q r n=>exact A3.keeps (V:=V.buts hs) hk a h
 | dfr=>exact A3.keeps (V:=V.buts hs) hk a h
section
variable {w0:World} {K O0:Nat→Prop} {nt:Nat} {ds:Fp} {σ:St} {ρ:Nat→Value} {a:Act} {w:World}
theorem Bm.swap (h:Bm w0 K O0 nt ds σ ρ a w) (A:∀b,K b→b<w0.heap.size) (J:∀b,O0 b→b<w0.heap.size) {T:Nat→Prop} (hT:∀n,T n→GS n=false∧∃o,lk n σ.objs=some o∧seat (ρ n))
  {new:List (Nat×Obj)} {σ':St} {ρ':Nat→Value} {w':World} {dst:Option Nat} {u:Value}
  (X:w'.os=w.os) (ab:w'.tape=w.tape) (Y:w'.output=w.output) (Z:w.heap.size≤w'.heap.size)
  (O:∀b,b<w.heap.size→(∀n,T n→¬bk (ρ n) b)→w'.heap[b]?=w.heap[b]?)
  (r:∀n o,lk n σ'.objs=some o→lk n new=none→¬T n∧∃d,lk n σ.objs=some d)
  (P:∀n o,lk n σ.objs=some o→¬T n→lk n new=none∧∃d,lk n σ'.objs=some d)
  (l:∀n,lk n new=none→ρ' n=ρ n)
  (F:∀n o b,lk n new=some o→bk (ρ' n) b→(∃m,T m∧bk (ρ m) b)∨w.heap.size≤b)
  (L:∀n m o t b,lk n new=some o→lk m new=some t→bk (ρ' n) b→bk (ρ' m) b→n=m)
  (W:∀n o,lk n σ'.objs=some o→A3 (vw w' O0 σ' ρ') o (ρ' n))
  (M:∀s v,lk s σ'.env=some v→B0 (vw w' O0 σ' ρ') v ((a.put dst u).tmps.getD s undef)) :
  Bm w0 K O0 nt ds σ' ρ' (a.put dst u) w':=by
 have ae:∀m,T m→∀b,bk (ρ m) b→b<w.heap.size:=fun m c b i=>by
  obtain⟨_,o,g,_⟩:=hT m c;exact(h.objs m o g).block_lt i
 have C:∀m,T m→∀b,bk (ρ m) b→¬K b∧¬O0 b:=fun m c b i=>by
  obtain⟨_,o,g,_⟩:=hT m c;exact h.free m b ⟨o,g⟩ i
 refine⟨⟨X.trans h.frm.os,ab.trans h.frm.tape,Y.trans h.frm.output,aT h.frm.size Z,fun k hk=>?_⟩,by rw[J9];exact h.nt,by rw[GW];exact h.defers,fun p hp=>?_,W,?_,?_,M⟩
 ·exact(O k (AAy (A k hk) h.frm.size) fun n hn i=>(C n hn k i).1 hk).trans (h.frm.block k hk)
 ·obtain⟨⟨o,h1⟩,f,j⟩:=h.pin p hp;have R:¬T p.1:=fun aa=>by
   obtain⟨hf,_,_,hs⟩:=hT _ aa;rw[f]at hs;rcases j with j|j
   ·rcases hs with ⟨_,_,_,B⟩|⟨_,B⟩<;>rw[B]at j<;>cases j
   ·rw[hf]at j;cases j
  obtain⟨H,I⟩:=P p.1 o h1 R;exact⟨I,(l _ H).trans f,j⟩
 ·intro n b z i;obtain⟨o,g⟩:=z;cases hn:lk n new with
  | none =>
   obtain⟨_,d,h1⟩:=r n o g hn;rw[l n hn]at i;exact h.free n b ⟨d,h1⟩ i
  | some e =>
   rcases F n e b hn i with ⟨m,c,x⟩|N
   ·exact C m c b x
   ·have:=h.frm.size;exact⟨fun y=>by have:=A b y;omega,fun y=>by have:=J b y;omega⟩
 ·have key:∀n m o e b,lk n σ'.objs=some o→lk n new=none→lk m new=some e→bk (ρ' n) b→bk (ρ' m) b→False:=by
   intro n m o e b g hn c h1 f;obtain⟨S,d,q⟩:=r n o g hn;rw[l n hn]at h1;rcases F m e b c f with ⟨G,D,x⟩|N
   ·obtain⟨_,ad,V,_⟩:=hT G D;have:=h.dist n G b ⟨d,q⟩ ⟨ad,V⟩ h1 x;exact S (this▸D)
   ·have af:b<w.heap.size:=(h.objs n d q).block_lt h1;omega
  intro n m b z Q h1 f;obtain⟨o,g⟩:=z;obtain⟨t,E⟩:=Q;cases hn:lk n new with
  | none =>
   cases c:lk m new with
   | none =>
    obtain⟨_,d,q⟩:=r n o g hn;obtain⟨_,e,U⟩:=r m t E c;rw[l n hn]at h1;rw[l m c]at f;exact h.dist n m b ⟨d,q⟩ ⟨e,U⟩ h1 f
   | some e=>exact(key n m o e b g hn c h1 f).elim
  | some d =>
   cases c:lk m new with
   | none=>exact(key m n t d b E c hn f h1).elim
   | some e=>exact L n m d e b hn c h1 f
end
end
section
open Go Go.RowKit
structure Qu (V V':Vw) (n:Nat) (hs:List Nat):Prop where
 O:∀b,b<V.w.heap.size→¬V.O b→¬V'.O b
 L:∀m,V.L m→AW m hs=false→V'.L m
 ρ:∀m,V.L m→AW m hs=false→m≠n→V'.ρ m=V.ρ m
 tup:∃vs,V.ρ n=.tuple vs
 plc:plc (V'.ρ n)=plc (V.ρ n)
 heap:∀b,b<V.w.heap.size→¬V.O b→V'.w.heap[b]?=V.w.heap[b]?
section
variable {V V':Vw} {n:Nat} {hs:List Nat}
theorem Qu.pl (h:Qu V V' n hs) {m:Nat} (a:V.L m) (b:AW m hs=false):Fw.plc (V'.ρ m)=Fw.plc (V.ρ m):=by
 by_cases e:m=n
 ·subst e;exact h.plc
 ·rw[h.ρ m a b e]
theorem Qu.ptr (h:Qu V V' n hs) {m:Nat} (c:V.L m) (d:AW m hs=false) {v:Value} (b:V.ρ m=v) (f:∀a,v≠.tuple a):V'.ρ m=v:=by
 have e:m≠n:=fun e=>by
  obtain⟨a,h1⟩:=h.tup;rw[←e,b]at h1;exact f a h1
 rw[h.ρ m c d e,b]
theorem YW (h:Qu V V' n hs) {x:AV} {v:Value} (c:TX V x v):TX V' (x.trn n hs) v:=by
 cases x;case ag l=>exact c.elim
 case tup l=>exact c.elim
 case p t d=>simp only[AV.trn];exact BX.mono h.O h.heap c
 case pc e d=>simp only[AV.trn];exact⟨BX.mono h.O h.heap c.1,c.2⟩
 case raw u=>simp only[AV.trn];exact c
 case fn f=>simp only[AV.trn];exact c
 case top=>trivial
 case ip t d =>
  simp only[AV.trn];obtain⟨ad,cs,o,q,r,B⟩:=c;have s:ad.block<V.w.heap.size:=by
   have hp:=t.size_pos;have G:=B.length;have:=block_lt_of_cell (r 0 (cs[0]'(by omega)) (An (by omega)))
   rwa [CK]at this
  refine⟨ad,cs,o,h.O _ s q,fun j u C=>?_,Bo.mono h.O h.heap B⟩;rw[ACc (w:=V.w) (w':=V'.w)]
  ·exact r j u C
  ·rw[CK];exact h.heap _ s q
 case sr m e lo hi =>
  simp only[AV.trn];split
  ·trivial
  ·rename_i a;have a:AW m hs=false:=by simpa using a
   exact⟨h.L m c.1 a,by rw[h.pl c.1 a];exact c.2⟩
 case ep m e i F off =>
  simp only[AV.trn];split
  ·trivial
  ·rename_i a;have a:AW m hs=false:=by simpa using a
   exact⟨h.L m c.1 a,by rw[h.pl c.1 a];exact c.2⟩
 case nin m e i len =>
  simp only[AV.trn];split
  ·trivial
  ·rename_i a;have D:m≠n:=fun e=>a (.inl e);have y:AW m hs=false:=by
    cases g:AW m hs with
    | false=>rfl
    | true=>exact absurd (.inr g) a
   exact⟨h.L m c.1 y,by rw[h.ρ m c.1 y D];exact c.2⟩
 case bp m F off =>
  simp only[AV.trn];split
  ·trivial
  ·rename_i a;have a:AW m hs=false:=by simpa using a
   obtain⟨k,b,g,o⟩:=c;exact⟨h.L m k a,b,h.ptr k a g (fun _ e=>by cases e),o⟩
 case mp m =>
  simp only[AV.trn];split
  ·trivial
  ·rename_i a;have a:AW m hs=false:=by simpa using a
   obtain⟨k,b,g,o⟩:=c;exact⟨h.L m k a,b,h.ptr k a g (fun _ e=>by cases e),o⟩
 case yl m =>
  simp only[AV.trn];split
  ·trivial
  ·rename_i a;have a:AW m hs=false:=by simpa using a
   obtain⟨k,b,g,o⟩:=c;exact⟨h.L m k a,b,h.ptr k a g (fun _ e=>by cases e),o⟩
 case clo f ns =>
  simp only[AV.trn];split
  ·trivial
  ·rename_i E;have z:∀m∈ns,AW m hs=false:=fun m a=>by
    cases g:AW m hs with
    | false=>rfl
    | true=>exact absurd (TO.2 ⟨m,a,g⟩) E
   have A:∀m∈ns,V'.ρ m=V.ρ m:=fun m a=>by
    obtain⟨k,b,g⟩:=c.2 m a;rw[h.ptr k (z m a) g (fun _ e=>by cases e),g]
   refine⟨?_,fun m a=>⟨h.L m (c.2 m a).1 (z m a),by rw[A m a];exact(c.2 m a).2⟩⟩;rw[c.1]
   congr 2
   exact AA2 fun m a=>(A m a).symm
theorem A2H (h:Qu V V' n hs) {x:AV} {cs:List Value} (b:NS V x cs):NS V' (x.trn n hs) cs:=by
 cases x;case p t d=>simp only[AV.trn];exact(Bo.mono h.O h.heap b:Bo V'.w V'.O t cs d)
 case ag l=>obtain⟨v,_,_,hf⟩:=b;exact hf.elim
 case tup l=>obtain⟨v,_,_,hf⟩:=b;exact hf.elim
 all_goals
  obtain⟨v,rfl,h1,e⟩:=b;have a:=YW h e;simp only[AV.trn]at a ⊢;first
   | exact⟨v,rfl,h1,a⟩
   | (split at a<;>rename_i c<;>first|(rw[At c];exact⟨v,rfl,h1,a⟩)|(rw[As c];exact⟨v,rfl,h1,a⟩))
theorem PR (h:Qu V V' n hs):∀ {l:List AV} {cs:List Value},DX V l cs→DX V' (AV.trns n hs l) cs
 | [],cs,a=>(a:cs=[])
 | x :: r,cs,a=>by
  obtain⟨c1,c2,rfl,h1,b⟩:=a;simp only[AV.trns];exact⟨c1,c2,rfl,A2H h h1,PR h b⟩
theorem A2I (h:Qu V V' n hs) {x:AV} {v:Value} (a:Rr V x v):Rr V' (x.trn n hs) v:=by
 cases x;case ag l=>obtain⟨cs,h1,b⟩:=a;simp only[AV.trn];exact⟨cs,h1,PR h b⟩
 all_goals exact Rr.of1 (YW h a)
theorem Z3 (h:Qu V V' n hs):∀ {l:List AV} {a:List Value},J7 V l a→J7 V' (AV.trns n hs l) a
 | [],a,b=>(b:a=[])
 | x :: r,a,b=>by
  obtain⟨v,d,rfl,h1,c⟩:=b;simp only[AV.trns];exact⟨v,d,rfl,A2I h h1,Z3 h c⟩
theorem YX (h:Qu V V' n hs) {x:AV} {v:Value} (b:B0 V x v):B0 V' (x.trn n hs) v:=by
 cases x;case ag l=>obtain⟨cs,h1,a⟩:=b;simp only[AV.trn];exact⟨cs,h1,PR h a⟩
 case tup l=>obtain⟨c,h1,a⟩:=b;simp only[AV.trn];exact⟨c,h1,Z3 h a⟩
 all_goals exact A2D (YW h b)
theorem Ff (n:Nat) (hs:List Nat) (s:Nat):∀l:List (Nat×AV),lk s (Dr n hs l)=(lk s l).map (AV.trn n hs)
 | []=>rfl
 | (j,v) :: l=>by
  simp only[Dr,lk];split
  ·rfl
  ·exact Ff n hs s l
theorem R3 (n:Nat) (hs:List Nat):∀l:List AV,(AV.trns n hs l).length=l.length
 | []=>rfl
 | _ :: r=>by simp[AV.trns,R3 n hs r]
theorem DY (n:Nat) (hs:List Nat) (m:Nat):∀l:List (Nat×Obj),lk m (CW n hs l)=if AW m (n :: hs)=true then none else (lk m l).map (Obj.trn n hs)
 | []=>by simp[CW,lk]
 | (j,o) :: l=>by
  simp only[CW];by_cases b:AW j (n :: hs)=true
  ·rw[At b,DY n hs m l];by_cases a:m=j
   ·subst a;simp[b]
   ·simp[lk,a]
  ·rw[As b];simp only[lk];by_cases a:m=j
   ·subst a;simp[b]
   ·simp[a,DY n hs m l]
theorem oW (h:Qu V V' n hs) {o:Obj} {loc:Value} (c:∀b,bk loc b→V'.w.heap[b]?=V.w.heap[b]?) (a:A3 V o loc):A3 V' (o.trn n hs) loc:=by
 have hk:CR ⟨V.w,V.O,fun _=>False,V.ρ⟩ V':=⟨h.O,fun _ h=>h.elim,fun _ h=>h.elim,h.heap⟩;cases o with
 | arr et e xs=>exact A3.keeps (V:=⟨V.w,V.O,fun _=>False,V.ρ⟩) (o:=.arr et e xs) hk c a
 | box et st fs =>
  obtain⟨h0,b,cs,rfl,h1,f⟩:=a;exact⟨fun i=>by rw[R3];exact h0 i,b,cs,rfl,(c b (.inl rfl)).trans h1,PR h f⟩
 | mapo k v l=>exact A3.keeps (V:=⟨V.w,V.O,fun _=>False,V.ρ⟩) (o:=.mapo k v l) hk c a
 | nest et p k e xs g=>exact A3.keeps (V:=⟨V.w,V.O,fun _=>False,V.ρ⟩) (o:=.nest et p k e xs g) hk c (Mp (V:=V) (V':=⟨V.w,V.O,fun _=>False,V.ρ⟩) rfl rfl a)
 | frame x fs =>
  obtain⟨h0,h1⟩:=a;refine⟨h0,fun s z d=>?_⟩;rw[Ff]at d;simp only[NO]at d;obtain⟨y,j,rfl⟩:=d;exact YX h (h1 s y j)
 | loop L=>exact A3.keeps (V:=⟨V.w,V.O,fun _=>False,V.ρ⟩) (o:=.loop L) hk c a
 | itr q u r t m=>exact A3.keeps (V:=⟨V.w,V.O,fun _=>False,V.ρ⟩) (o:=.itr q u r t m) hk c a
 | dfr=>exact A3.keeps (V:=⟨V.w,V.O,fun _=>False,V.ρ⟩) (o:=.dfr) hk c a
end
end
section
open Go Go.RowKit
theorem kA {t:Ty} (h:t.cell1=true):t.size=1:=by cases t<;>simp[Ty.cell1]at h<;>rfl
theorem Wh {V:Vw} {ty:Ty} {x:AV} {a:List Value} (c:NS V x a) (hf:Lr ty x=true):a.length=ty.size:=by
 by_cases b:x=.top
 ·subst b;obtain⟨v,rfl,_⟩:=c;simp only[Lr]at hf;rw[kA hf];rfl
 ·have hf:CP ty x=true:=by cases x<;>first|exact hf|exact absurd rfl b
  exact(j7 c hf).1
theorem sG {V:Vw} {ty:Ty} {st:Bool} {fs o:List AV} {s:List Nat} {off:Nat} {u v:AV} {cs b:List Value} (i:DX V fs cs) (I:st=false→fs.length=1)
  (h:Jg st fs v s=some o) (g:Nx fs s=some off) (a:I3 st fs s=some u) (hu:Lr ty u=true) (P:CP ty v=true)
  (E:∀l,v=.ag l→DX V l b) (m:(∀l,v≠.ag l)→NS V v b) (L:b.length=ty.size) :
  off+b.length≤cs.length∧DX V o (A1 cs off b)∧(st=false→o.length=1):=by
 unfold Jg at h;split at h
 ·simp only[Nx]at g;cases g;simp only[I3]at a;cases st with
  | true =>
   simp only[AAH]at h a;cases a;have N:cs.length=ty.size:=by
    have:=i.length;cases ty<;>simp only[Lr,CP]at hu<;>try(cases hu;done)
    simp only[tO]at hu;simp only[Ty.size];omega
   rw[Dt (by omega)];split at h
   ·rename_i j d;cases h;have h1:NS V (.p (.agg j) d) b:=m (by simp);have h1:Bo V.w V.O j b d:=h1;exact⟨by omega,wS V j d b h1,by simp⟩
   ·rename_i l;cases h;exact⟨by omega,E _ rfl,by simp⟩
   ·cases h
  | false =>
   simp only[AAL,AAY]at h a;split at h
   ·rename_i f;have f:∀l,v≠.ag l:=fun l e=>by subst e;simp[Na]at f
    cases h;obtain⟨x,rfl⟩:=AAV.1 (I rfl);simp at a;subst a;obtain⟨c1,c2,rfl,h1,c⟩:=i;have c:c2=[]:=c;subst c;have C:=Wh h1 hu;rw[AAa,Dt (by omega)];exact⟨by omega,⟨b,[],by simp,m f,rfl⟩,by simp⟩
   ·cases h
 ·rename_i k;split at h
  ·rename_i z;simp only[AT]at z;obtain⟨rfl,f⟩:=z;have f:∀l,v≠.ag l:=fun l e=>by subst e;simp[Na]at f
   cases h;simp only[I3,AAH]at a;obtain⟨h1,c⟩:=i.get a;have C:=Wh c hu;have K:=c.length;have H:off=CA fs k:=by
    simp only[Nx,a]at g;cases u<;>simp only[Ln,AAX,List.isEmpty_nil,AAH]at g<;>cases g<;>rfl
   subst H;have n:=m f;have q:=n.length;exact⟨by omega,i.set a n (by omega),by simp⟩
  ·cases h
 ·rename_i k r M;cases st with
  | false=>simp at h
  | true =>
   simp only[AAH]at h;split at h
   ·rename_i t d j x hk;simp only[NO]at h;obtain⟨y,J,rfl⟩:=h;simp only[Nx,hk,NO]at g;obtain⟨Q,G,rfl⟩:=g;obtain⟨h1,c⟩:=i.get hk;have B:Bo V.w V.O t _ d:=c;have n:Bo V.w V.O j b x:=m (by simp);obtain⟨q,D⟩:=Tc J G B n;have F:=c.length;simp only[AV.cells]at h1 F D q;have A:=i.set (y:=.p t y) hk (q:Bo V.w V.O t _ y) rfl;rw[Nh _ _ _ _ _ (by omega) h1]at A;exact⟨by omega,A,by simp⟩
   ·cases h
section
variable {P:Program} {tb:Tb} {w0:World} {K O0:Nat→Prop} {nt:Nat} {ds:Fp} {σ σ':St} {ρ:Nat→Value} {a:Act} {w:World} {vc:Prop}
theorem R4 {n:Nat} {o:Obj} (hn:lk n σ.objs=some o) {g:Nat} (c:blk (ρ n)=some g) {w':World} (d:w.grownBy w' (some g)):CR (vw w O0 σ ρ) (vw w' O0 σ ρ) :=
 ⟨fun _ _ h=>h,fun _ h=>h,fun _ _=>rfl,fun b f a=>d.block b f (fun e=>by injection e with e;subst e;exact a (.inr ⟨n,⟨o,hn⟩,.inl c⟩))⟩
theorem F3 (w:World) (g:Nat) (cs:Array Value):w.grownBy (w.setRow g cs) (some g) :=
 ⟨rfl,rfl,rfl,by simp,fun k _ hk=>setRow_other w g k cs (fun e=>hk (by rw[e]))⟩
theorem Lz {id:TypeId} {ti:TI} (hT:ED P tb id ti) {g off:Nat} {cs:List Value} {et:TypeId} {xv:Value} (hh:w.heap[g]?=some (.cells cs.toArray et (0,0))) (hs:xv.cells.size=ti.ty.size)
  (b:off+xv.cells.toList.length≤cs.length) (h1:∀u∈xv.cells.toList,u.oneCell'=true) :
  (Instr.storeAt id (.pointer (some ⟨g,off,none⟩)) xv).run P w=.ok () (w.setRow g (A1 cs off xv.cells.toList).toArray):=by
 have a:=run_storeCells_at P g off et xv.cells.toList 0 cs.toArray w hh (by simpa using b) h1;simp only[Nat.add_zero]at a;have c:¬xv.cells.size≠ti.ty.size:=by omega
 simp only[Instr.storeAt,Instr.sureAddr,storeVar,AAK,AB9,AAb,IG w hT,As c,a];rfl
theorem oX {o:Oper} {w':World} {next:Act→World→Prop} {Q:Exit→Act→World→Prop} {r:Option Nat} (h:(execOp a.eval o).run P w=.ok .skip w') (hn:next (a.put o.dst undef) w') (b:∀c,o.op≠.defer c:=by intro c e;cases e):o.wpIn (FR r) 0 P a w next Q:=by
 refine⟨fun _ _=>trivial,?_⟩;rw[Fe _ _ _ b,h];exact hn
theorem sH (hs:Bm w0 K O0 nt ds σ ρ a w) (al:∀b,K b→b<w0.heap.size) (hT:DF P tb) {id:TypeId} {x y:Operand} (bu:∀n e i t off,Ah σ x=some (.ep n e i t off)→Cb (lk n σ.objs)=false) (h:HH σ (lk id tb.ty) (Ah σ x) (Ah σ y)=some (vc,σ')) (cy:vc) :
  ∃w',(Instr.storeAt id (a.eval x) (a.eval y)).run P w=.ok () w'∧Bm w0 K O0 nt ds σ' ρ a w':=by
 have G:GH (vw w O0 σ ρ) σ a.eval:=Du hs.env;unfold HH at h;split at h
 ·rename_i ti n t off v ab Q ah;have af:=G x _ Q;have D:=G y _ ah;cases hn:lk n σ.objs with
  | none=>rw[hn]at h;simp[DL]at h
  | some o =>
   rw[hn]at h;cases o with
   | arr et e xs=>simp[DL]at h
   | mapo k v l=>simp[DL]at h
   | frame cn fs=>simp[DL]at h
   | loop L=>simp[DL]at h
   | itr ci cl cj ck cg=>simp[DL]at h
   | dfr=>simp[DL]at h
   | nest et ch k e xs bq=>simp[DL]at h
   | box et st fs =>
    simp only[DL]at h;cases I:I3 st fs t with
    | none=>rw[I]at h;simp[Ei]at h
    | some u =>
     cases Z:Jg st fs v t with
     | none=>rw[I,Z]at h;simp[Ei]at h
     | some cq =>
      rw[I,Z]at h;simp only[Ei]at h;split at h
      ·rename_i ay;obtain⟨hu,ad,bv,_⟩:=ay;cases h;obtain⟨cb,b,cs,W,C,bi⟩:=hs.objs n _ hn;obtain⟨bg,b',f,ae⟩:=af;have f:ρ n=_:=f;rw[W]at f;injection f with f
       injection f with f
       injection f with f
       subst f;have H:=wK D ad (Ni D ad);have am:∀l,v=.ag l→DX (vw w O0 σ ρ) l (a.eval y).cells.toList:=by
        intro l e;subst e;obtain⟨cp,s,bj⟩:=D;rw[s];simpa[Value.cells] using bj
       obtain⟨h1,R,bd⟩:=sG bi cb Z bv I hu ad am (fun J=>H.2 J) (by simpa using H.1);have bx:∀z∈(a.eval y).cells.toList,z.oneCell'=true:=by
        by_cases J:∃l,v=.ag l
        ·obtain⟨l,e⟩:=J;exact(am l e).one
        ·exact(H.2 (fun l e=>J ⟨l,e⟩)).one
       have Y:=Lz (hT _ _ ab) C H.1 h1 bx;rw[ae];refine⟨_,Y,?_⟩;have A:blk (ρ n)=some b:=by rw[W];rfl
       refine hs.upd al hn A (F3 w b _) ⟨bd,b,_,W,setRow_heap w b _ _ et _ C,?_⟩;exact R.keeps (R4 hn A (F3 w b _))
      ·cases h
 ·rename_i ti n e i t off v ab Q ah;have af:=G x _ Q;have D:=G y _ ah;cases hn:lk n σ.objs with
  | none=>rw[hn]at h;simp[DM]at h
  | some o =>
   rw[hn]at h;cases o with
   | box et st fs=>simp[DM]at h
   | mapo k v l=>simp[DM]at h
   | frame cn fs=>simp[DM]at h
   | loop L=>simp[DM]at h
   | itr ci cl cj ck cg=>simp[DM]at h
   | dfr=>simp[DM]at h
   | nest et ch k e xs bq=>have:=bu _ _ _ _ _ Q;rw[hn]at this;cases this
   | arr et d xs =>
    simp only[DM]at h;cases T:BO (.slice e) ⟨.slice d,xs⟩ with
    | none=>rw[T]at h;simp[EB]at h
    | some ys =>
     obtain⟨rfl,R⟩:=Bi T;cases R;rw[T]at h;cases S:Kk false σ ti.ty v with
     | none=>rw[S]at h;simp[EB]at h
     | some co =>
      rw[S]at h;simp only[EB]at h;cases aa:Sb t d (xs.getD i d.dflt) ⟨ti.ty,co⟩ with
      | none=>rw[aa]at h;simp[FE]at h
      | some z =>
       rw[aa]at h;simp only[FE]at h;split at h
       ·rename_i bw;cases h;obtain⟨bs,cells,M,F⟩:=hs.objs n _ hn;obtain⟨bg,g,m,c,f,X,ae⟩:=af;have f:plc (ρ n)=_:=f;have M:w.ownsRow 0 et d.size (ρ n) xs.length cells:=M;rw[Hk M]at f;have F:Dp w (own O0 σ ρ) d cells xs:=F;have ce:=KA (V:=vw w O0 σ ρ) (O':=own O0 σ ρ) (fun _ h=>h) (fun h=>by cases h) hs.objs S D;obtain⟨ax,aw⟩:=Wb ce;obtain⟨av,bz⟩:=M;rcases bz with ⟨s,_⟩|⟨cr,cap,r,s,cu,C,ao,bh,U,cc⟩
        ·rw[f]at s;cases s
        ·rw[f]at s;injection s with B bk bl
         injection B with B
         injection B with B
         subst B;subst bk;have cf:xs[i]?=some (xs.getD i d.dflt):=by
          rw[An X,AS,An X];rfl
         obtain⟨ak,bn,aq,bm⟩:=F i _ cf;obtain⟨be,bf⟩:=Tc aa bw bm aw;have ct:cells.length=xs.length*d.size:=av;have bp:(i+1)*d.size≤xs.length*d.size:=AA0 _ X;have cv:xs.length*d.size≤cap*d.size:=AA0 _ ao;rw[AAT]at bp;have an:i*d.size+off+(a.eval y).cells.toList.length≤r.toList.length:=by
          have br:r.toList.length=cap*d.size:=by rw[←U];simp
          have cx:(a.eval y).cells.toList.length=ti.ty.size:=by rw[←ax];simp
          omega
         have bo:w.heap[g]?=some (.cells r.toList.toArray et (0,0)):=by simpa using C
         have Y:=Lz (hT _ _ ab) bo ax an aw.one;rw[ae];refine⟨_,Y,?_⟩;have A:blk (ρ n)=some g:=by rw[f];rfl
         have ca:(A1 r.toList (i*d.size+off) (a.eval y).cells.toList).length=r.size:=by rw[FG an];simp
         have cd:(A1 r.toList (i*d.size+off) (a.eval y).cells.toList).take (xs.length*d.size)=A1 cells (i*d.size+off) (a.eval y).cells.toList:=by
          rw[←cc];apply AC1;intro j;simp only[A1,oR,oN,AAo,OS,AAm,AC4];have ai:min (i*d.size+off) r.toList.length=i*d.size+off:=by omega
          have E:min (i*d.size+off) (xs.length*d.size)=i*d.size+off:=by omega
          have cm:min (xs.length*d.size) r.toList.length=xs.length*d.size:=by
           have br:r.toList.length=cap*d.size:=by rw[←U];simp
           omega
          simp only[ai,E,cm];by_cases c1:j<i*d.size+off
          ·simp[c1,show j<xs.length*d.size by omega]
          ·by_cases c2:j-(i*d.size+off)<(a.eval y).cells.toList.length
           ·simp only[c1,c2,AAY,AAH,show j<xs.length*d.size by omega]
           ·simp only[c1,c2,AAY];by_cases aj:j<xs.length*d.size
            ·rw[At aj,At (by omega)]
            ·rw[As aj,As (by omega)]
         refine hs.upd al hn A (F3 w g _) ⟨by simpa using bs,A1 cells (i*d.size+off) (a.eval y).cells.toList,⟨?_,.inr ⟨g,cap,_,by rw[f,bl];simp,Is _,setRow_heap w g _ _ et _ C,by simpa using ao,bh,by simp[ca,U],?_⟩⟩,?_⟩
         ·rw[FG (by omega)];simpa using av
         ·simpa using cd
         ·have hk:=R4 (O0:=O0) hn A (F3 w g (A1 r.toList (i*d.size+off) (a.eval y).cells.toList).toArray);have bt:Dp (vw w O0 σ ρ).w (vw w O0 σ ρ).O d (A1 cells (i*d.size+off) (a.eval y).cells.toList) (xs.set i z):=by
           intro k q N;rw[AAx]at N;split at N
           ·rename_i ar;subst ar;cases N;refine⟨A1 ak off (a.eval y).cells.toList,by rw[FG bf];exact bn,fun j u p=>?_,be⟩;simp only[A1,oR,AAo,OS,oN,AAm]at p ⊢;have ai:min off ak.length=off:=by omega
            have E:min (i*d.size+off) cells.length=i*d.size+off:=by omega
            simp only[ai]at p;simp only[E];by_cases c1:j<off
            ·simp only[c1,AAH]at p;simp only[show i*d.size+j<i*d.size+off by omega,AAH];exact aq _ _ p
            ·simp only[c1,AAY]at p;simp only[show ¬i*d.size+j<i*d.size+off by omega,AAY];rw[show i*d.size+j-(i*d.size+off)=j-off by omega];by_cases c2:j-off<(a.eval y).cells.toList.length
             ·simp only[c2,AAH]at p ⊢;exact p
             ·simp only[c2,AAY]at p ⊢;have:=aq _ _ p;rw[←this]
              congr 1
              omega
           ·rename_i ar;obtain⟨az,ba,bb,bc⟩:=F k q N;refine⟨az,ba,fun j u p=>?_,bc⟩;have cw:=(Ro.1 p).1;have ap:=bb j u p;simp only[A1,oR,AAo,OS,oN,AAm];have E:min (i*d.size+off) cells.length=i*d.size+off:=by omega
            simp only[E];rcases Nat.lt_or_ge k i with au|au
            ·have:(k+1)*d.size≤i*d.size:=AA0 _ au;rw[AAT]at this;simp only[show k*d.size+j<i*d.size+off by omega,AAH];exact ap
            ·have:(i+1)*d.size≤k*d.size:=AA0 _ (by omega);rw[AAT]at this;simp only[show ¬k*d.size+j<i*d.size+off by omega,AAY,show ¬k*d.size+j-(i*d.size+off)<(a.eval y).cells.toList.length by omega];rw[←ap]
             congr 1
             omega
          exact bt.keeps hk
       ·cases h
 ·cases h
theorem sI (hs:Bm w0 K O0 nt ds σ ρ a w) (B:∀b,K b→b<w0.heap.size) (s:DF P tb) {t:TypeId} {m x y:Operand} (h:Jj tb σ (lk t tb.ty) (Ah σ m) (Ah σ x) (Ah σ y)=some (vc,σ')) :
  ∃w',(Instr.mapUpdate t (a.eval m) (a.eval x) (a.eval y)).run P w=.ok () w'∧Bm w0 K O0 nt ds σ' ρ a w':=by
 have g:GH (vw w O0 σ ρ) σ a.eval:=Du hs.env;unfold Jj at h;split at h
 ·rename_i k e _ _ n xv W N J O R;have Q:=g x _ O;have S:=g y _ R;obtain⟨X,b,d,L⟩:=g m _ J;have d:ρ n=_:=d;cases hn:lk n σ.objs with
  | none=>rw[hn]at h;simp[FN]at h
  | some o =>
   rw[hn]at h;cases o with
   | mapo Y U l =>
    cases j:lk k tb.ty with
    | none=>simp[FN,j]at h
    | some T =>
     simp only[FN,j,AAX,AAv]at h;split at h
     ·rename_i E;obtain⟨rfl,F⟩:=E;cases f:Kk false σ T.ty xv with
      | none=>rw[f]at h;simp[F0]at h
      | some kd =>
       cases p:Kk false σ U W with
       | none=>rw[f,p]at h;simp[F0]at h
       | some aa =>
        rw[f,p]at h;simp only[F0]at h;split at h
        ·rename_i H;cases h;have h1:=KA (V:=vw w O0 σ ρ) (O':=own O0 σ ρ) (fun _ h=>h) (fun h=>by cases h) hs.objs f Q;have A:=KA (V:=vw w O0 σ ρ) (O':=own O0 σ ρ) (fun _ h=>h) (fun h=>by cases h) hs.objs p S;obtain⟨b',r,q,c,M,⟨Z,z⟩,G,D⟩:=A4K (w:=w) (V:=vw w O0 σ ρ) s (s _ _ N) (n:=n) rfl rfl j rfl (hs.objs n _ hn) F H h1 A;have c:ρ n=_:=c;rw[d]at c;injection c with c
         injection c with c
         subst c;rw[L];refine⟨_,M,?_⟩;have u:blk (ρ n)=some b:=by rw[d];rfl
         have v:w.grownBy { w with heap:=w.heap.setIfInBounds b (.map r q) } (some b) :=
          ⟨rfl,rfl,rfl,by simp,fun i _ hi=>(ACa z).2 i (fun e=>hi (by rw[e]))⟩
         refine hs.upd B hn u v ⟨b,r,q,d,(ACa z).1,?_⟩;refine⟨?_,D⟩;exact G.mono (fun _ _ h=>h) (fun b2 I C=>v.block b2 I (fun e=>by injection e with e;subst e;exact C (.inr ⟨n,⟨_,hn⟩,.inl u⟩)))
        ·cases h
     ·cases h
   | _=>simp[FN]at h
 ·cases h
end
end
section
open Go Go.RowKit
section
variable {P:Program} {tb:Tb} {w0:World} {K O0:Nat→Prop} {nt:Nat} {ds:Fp} {σ σ':St} {ρ:Nat→Value} {a:Act} {w:World} {vc:Prop} {id:TypeId}
theorem Sv {w:World} {base:Nat} {et:TypeId} {sz n:Nat} {s:Value} {xs:List Value} (h:w.ownsRow base et sz s n xs):s.ownBlock=blk s:=by
 rcases h.2 with ⟨rfl,_⟩|⟨g,cap,a,rfl,_⟩<;>rfl
theorem Hl (A:DF P tb) {el:TypeId} {e:Ty} (hu:P.underlying id=some (.slice el)) {te:TI} (F:lk el tb.ty=some te) (R:te.ty=e) {base ty:Nat} {s xv:Value} {n:Nat} {xs v:List Value}
  (r:w.ownsRow base el e.size s n xs) {O:Nat→Prop} {ys:List e.den} (Z:Src w O e xv ys v) (G:(n+ys.length)*te.bytes≤AO) {h:Value} {w':World}
  (d:(Builtin.append_ #[id,id] ty #[s,xv]).run P w=.ok h w'):blk h=blk s∨∀b,blk h=some b→w.heap.size≤b:=by
 subst R;obtain⟨⟨⟨_,M,_⟩,i,z,hi,p,B,H,ak⟩,_⟩:=A _ _ F;have D:n+ys.length≤AO:=by
  have:(n+ys.length)*1≤(n+ys.length)*te.bytes:=ABf _ M;omega
 have ah:AO=140737488355328:=rfl;obtain⟨⟨a,c,rfl,L⟩,C,ae,Y,ag⟩:=Z;have hs:(sizeOf el).run P w=.ok te.ty.size w:=IG w (A _ _ F);have J:∀ {l x:Nat} {W:World},Result.ok (Value.slice (some ⟨w.heap.size,0,none⟩) l x) W=Result.ok h w'→blk h=blk s∨∀b,blk h=some b→w.heap.size≤b:=by
  intro l x W Q;injection Q with h1 q
  subst h1;exact .inr (fun b t=>by simp[blk]at t;omega)
 have I:∀(ad:Addr) (m:Nat) (f:List Value),f.length=m*te.ty.size→(∀(j:Nat) (u:Value),f[j]?=some u→w.cell? (ad.add j)=some u)→(∀u∈f,u.oneCell'=true)→n+m≤AO→(n+m)*te.bytes≤AO →
   (Builtin.append_ #[id,id] ty #[s,.slice (some ad) m c]).run P w=.ok h w'→blk h=blk s∨∀b,blk h=some b→w.heap.size≤b:=by
  intro ad m f o k h1 af t d;rcases r.2 with ⟨rfl,rfl⟩|⟨g,cap,y,rfl,aa,T,ai,ab,N,aj⟩
  ·by_cases U:m=0
   ·subst U;have:f=[]:=So (by simpa using o);simp[Builtin.append_,dO hu,hs,Builtin.lenOf,Builtin.firstCells,loadCells,loadCellsFrom]at d;rw[←d.1];exact .inl rfl
   ·have:=run_append_nil (P:=P) w id ty el i z hu hi H ad m c f (by rw[p];exact o) k (by omega) (by omega) (by rw[B];simp at t;omega);rw[this]at d;exact J d
  ·by_cases E:n+m≤cap
   ·have S:n*i.size+f.length≤y.size:=by
     rw[o,p,N,←ABA];exact AA0 _ E
    have:=run_append_room (P:=P) w id ty el i hu hi g n cap y T ad m c f (by rw[p];exact o) k h1 E S;rw[this]at d;injection d with q K
    subst q;exact .inl rfl
   ·have X:∀j u,xs[j]?=some u→w.cell? ((⟨g,0,none⟩:Addr).add j)=some u:=r.cells (g:=g) rfl;have:=run_append_grow (P:=P) w id ty el i z hu hi H ⟨g,0,none⟩ n cap xs (by rw[p];exact r.1) X ad m c f (by rw[p];exact o) k (by omega) (by omega) (by rw[B];exact growslice_fits (by omega) (by omega));rw[this]at d;exact J d
 rcases L with rfl|⟨ad,rfl,k⟩
 ·have V:v=[]:=So (by simpa using C);subst V;cases a with
  | none =>
   have:=Rv (P:=P) (ty:=ty) hu hs r c;rw[show ([]:List te.ty.den).length=0 from rfl,this]at d;injection d with q K
   subst q;exact .inl rfl
  | some ad=>exact I ad 0 [] (by simp) (by simp) (by simp) (by simpa using D) (by simpa using G) d
 ·exact I ad ys.length v C k Y D G d
theorem kB {w:World} {O:Nat→Prop} {e:Ty} {c:List Value} {xs:List e.den} (h:Dp w O e c xs) (n:Nat):Dp w O e (c.take (n*e.size)) (xs.take n):=by
 intro i x hi;rw[oN]at hi;split at hi
 ·rename_i k;obtain⟨b,d,f,g⟩:=h i x hi;refine⟨b,d,fun j u a=>?_,g⟩;have l:=(Ro.1 a).1;have:(i+1)*e.size≤n*e.size:=AA0 _ k;rw[AAT]at this;rw[oN,At (by omega)];exact f j u a
 ·cases hi
theorem kC (hs:Bm w0 K O0 nt ds σ ρ a w) (ae:∀b,K b→b<w0.heap.size) (af:∀b,O0 b→b<w0.heap.size) (hT:DF P tb) {d:Option Nat} (ah:∀k,d=some k→k<nt) {t u ty:TypeId} {x y:Operand}
  (h:Cz tb σ d t u (Ah σ x) (Ah σ y)=some (vc,σ')) (aq:vc) (ag:∃n e hi,Ah σ x=some (.sr n e 0 hi)∧Cb (lk n σ.objs)=false) :
  ∃z w' ρ',(Builtin.append_ #[t,u] ty #[a.eval x,a.eval y]).run P w=.ok z w'∧Bm w0 K O0 nt ds σ' ρ' (a.put d z) w':=by
 have R:GH (vw w O0 σ ρ) σ a.eval:=Du hs.env;obtain⟨n0,ab,al,A,U⟩:=ag;unfold Cz at h;split at h
 ·rename_i n e hi v s ar;obtain⟨rfl,rfl,rfl⟩:n=n0∧e=ab∧hi=al:=by rw[s]at A;cases A;exact⟨rfl,rfl,rfl⟩
  split at h
  ·rename_i d;split at h
   ·rename_i M;obtain⟨M,ak⟩:=M;subst M;cases J:lk t tb.ty with
    | none=>rw[J]at h;simp[EC]at h
    | some ti =>
     rw[J]at h;unfold EC at h;split at h
     ·rename_i p offs el b i;cases i;split at h
      ·rename_i ai;subst ai;obtain⟨hu,bh,te,I,W⟩:=CD (hT _ _ J) hT;rw[I]at h;cases hn:lk n σ.objs with
       | none=>rw[hn]at h;cases f:Ov σ p v<;>rw[f]at h<;>simp[CQ]at h
       | some o =>
        rw[hn]at h;cases o with
        | box et st fs=>cases f:Ov σ p v<;>rw[f]at h<;>simp[CQ]at h
        | mapo au v1 l=>cases f:Ov σ p v<;>rw[f]at h<;>simp[CQ]at h
        | frame bq fs=>cases f:Ov σ p v<;>rw[f]at h<;>simp[CQ]at h
        | loop L=>cases f:Ov σ p v<;>rw[f]at h<;>simp[CQ]at h
        | itr bk bn bl bm bi=>cases f:Ov σ p v<;>rw[f]at h<;>simp[CQ]at h
        | nest et bj au B xs bd=>rw[hn]at U;cases U
        | dfr=>cases f:Ov σ p v<;>rw[f]at h<;>simp[CQ]at h
        | arr et j xs =>
         simp only[CQ]at h;split at h
         ·rename_i aj;subst aj;cases D:BO (.slice p) ⟨.slice j,xs⟩ with
          | none=>rw[D]at h;simp[Ej]at h
          | some br =>
           obtain⟨rfl,ad⟩:=Bi D;cases ad;rw[D]at h;cases f:Ov σ j v with
           | none=>rw[f]at h;simp[Ej]at h
           | some ys =>
            rw[f]at h;simp only[Ej]at h;cases h;obtain⟨bo,H⟩:=Ss hs.objs f (R y _ ar);obtain⟨bg,cells,r,E⟩:=hs.objs n _ hn;have r:w.ownsRow 0 et j.size (ρ n) xs.length cells:=r;have E:Dp w (own O0 σ ρ) j cells xs:=E;obtain⟨ba,a0,m,c,q,bf,bc,Z,aa,N,bb,h0,h1⟩:=R x _ s;have q:plc (ρ n)=.slice a0 m c:=q;rw[Hk r]at q;obtain⟨rfl,rfl⟩:=h0 rfl;simp only[ACk]at N;have be:=r.1;have T:hi≤xs.length:=by
             rcases r.2 with ⟨i,ao⟩|⟨g,cap,O,i,_⟩
             ·rw[q]at i;injection i;omega
             ·rw[q]at i;injection i;omega
            have an:hi*j.size≤xs.length*j.size:=AA0 _ T;have G:w.ownsRow 0 et j.size (a.eval x) hi (cells.take (hi*j.size)):=by
             rw[N];refine⟨by rw[OS];omega,?_⟩;rcases r.2 with ⟨i,ao⟩|⟨g,cap,O,i,av,aw,bp,ax,ay,az⟩
             ·rw[q]at i;injection i with B j C
              subst B;subst C;have:hi=0:=by omega
              subst this;exact .inl ⟨rfl,rfl⟩
             ·rw[q]at i;injection i with B j C
              subst B;subst C;refine .inr ⟨g,aa,O,rfl,av,aw,by omega,ax,ay,?_⟩;rw[←az,AC4,ABg an]
            have X:(hi+ys.length)*te.bytes≤AO:=aq;obtain⟨z,w',V,ap,S,am⟩:=GX (ty:=ty) hT hu I W G H X (Is _);have Y:=Hl (ty:=ty) hT hu I W G H X V;have Q:blk (a.eval x)=blk (ρ n):=by
             rw[N,q];cases Z<;>rfl
            rw[Q]at Y;rw[Sv G,Q]at S;refine⟨z,w',EU ρ n z,V,?_⟩;have F:(xs.take hi++ys).length=hi+ys.length:=by simp;omega
            exact hs.app ae af ak hn S Y (by rw[F];exact am) (by rw[F];exact ap) (Kv (kB E hi) H.elems (by rw[OS,OS];rw[ABg T];omega)) (ah d rfl) F.symm
         ·cases h
      ·cases h
     ·cases h
   ·cases h
  ·cases h
 ·rename_i s _;rw[s]at A;cases A
 ·rename_i s _;rw[s]at A;cases A
 ·cases h
theorem Mt (n:Nat) (e:Ty) (xs:List e.den) (s:Nat):∀l:List (Nat×AV),lk s (DD n e xs l)=(lk s l).map (AV.frz n e xs)
 | []=>rfl
 | (j,v) :: l=>by
  simp only[DD,lk];split
  ·rfl
  ·exact Mt n e xs s l
def Obj.frz (n:Nat) (e:Ty) (xs:List e.den):Obj→Obj
 | .arr et a ys=>.arr et a ys
 | .box et st fs=>.box et st (AV.frzs n e xs fs)
 | .mapo k v l=>.mapo k v l
 | .nest et c k e ys h=>.nest et c k e ys h
 | .frame j fs=>.frame j (DD n e xs fs)
 | .loop L=>.loop L
 | .itr d i f g b=>.itr d i f g b
 | .dfr=>.dfr
theorem CZ (n:Nat) (e:Ty) (xs:List e.den) (s:Nat):∀l:List (Nat×Obj),lk s (A5 n e xs l)=(lk s l).map (Obj.frz n e xs)
 | []=>rfl
 | (j,.arr et a ys) :: l=>by
  simp only[A5,lk];split
  ·rfl
  ·exact CZ n e xs s l
 | (j,.box et st fs) :: l=>by
  simp only[A5,lk];split
  ·rfl
  ·exact CZ n e xs s l
 | (j,.mapo k v x) :: l=>by
  simp only[A5,lk];split
  ·rfl
  ·exact CZ n e xs s l
 | (j,.nest _ _ _ _ _ _) :: l=>by
  simp only[A5,lk];split
  ·rfl
  ·exact CZ n e xs s l
 | (j,.frame h fs) :: l=>by
  simp only[A5,lk];split
  ·rfl
  ·exact CZ n e xs s l
 | (j,.loop L) :: l=>by
  simp only[A5,lk];split
  ·rfl
  ·exact CZ n e xs s l
 | (j,.itr c g d f b) :: l=>by
  simp only[A5,lk];split
  ·rfl
  ·exact CZ n e xs s l
 | (j,.dfr) :: l=>by
  simp only[A5,lk];split
  ·rfl
  ·exact CZ n e xs s l
theorem R5 (n:Nat) (e:Ty) (xs:List e.den):∀l:List AV,(AV.frzs n e xs l).length=l.length
 | []=>rfl
 | _ :: r=>by simp[AV.frzs,R5 n e xs r]
section
variable {V V':Vw} {n:Nat} {et:TypeId} {e:Ty} {xs:List e.den}
structure oY (V V':Vw) (n:Nat):Prop where
 w:V'.w=V.w
 ρ:V'.ρ=V.ρ
 L:∀m,V.L m→m≠n→V'.L m
 O:∀b,¬V.O b→¬V'.O b
 n:∀b,bk (V.ρ n) b→¬V'.O b
theorem oY.keeps (h:oY V V' n):CR (V.but n) V':=⟨fun b _ c=>h.O b c,fun m a=>h.L m a.1 a.2,fun m _=>by rw[h.ρ];rfl,fun b _ _=>by rw[h.w];rfl⟩
structure PT (V V':Vw) (n:Nat) (e:Ty) (xs:List e.den):Prop where
 seat:seat (V.ρ n)
 read:∀lo hi v,DE (plc (V.ρ n)) e.size lo hi v→Bo V'.w V'.O (.slice e) [v] (sub xs lo hi)
theorem Z4 {V:Vw} {et:TypeId} {e:Ty} {xs:List e.den} {loc:Value} (b:A3 V (.arr et e xs) loc):seat loc:=by
 obtain⟨_,cells',c,_⟩:=b;rcases c.2 with ⟨a,_⟩|⟨g,cap,d,a,_⟩
 ·exact .inl ⟨_,_,_,a⟩
 ·exact .inl ⟨_,_,_,a⟩
theorem oY.arr (h:oY V V' n) (a:A3 V (.arr et e xs) (V.ρ n)):PT V V' n e xs:=⟨Z4 a,fun lo hi v f=>by
 have d:=YO (V:=V) (O':=V'.O) h.O (fun b c=>h.n b (.inl c)) a f
 rwa [←h.w]at d⟩
theorem oY.nest (h:oY V V' n) {f:TypeId} {k e:Ty} {xs:List (k.den×List e.den)} (a:A3 V (.nest et f k e xs none) (V.ρ n)):PT V V' n (.agg (.prod k (.slice e))) xs:=⟨by
 obtain⟨o,ins,cells,b,_⟩:=a;exact b.elim (fun h=>.inr ⟨_,h⟩) (fun h=>.inl ⟨_,_,_,h.1⟩),fun lo hi v d=>by
 have c:=Zn (V:=V) (O':=V'.O) h.O h.n a d
 rwa [←h.w]at c⟩
theorem YY (h:oY V V' n) (g:PT V V' n e xs) {x:AV} {v:Value} (b:TX V x v):TX V' (x.frz n e xs) v∧((∀t d,x≠.p t d)→∀t d,x.frz n e xs=.p t d→t.wrap [v]=v∧Bo V'.w V'.O t [v] d):=by
 have hk:=h.keeps;have c:=g.seat;cases x;case sr m f lo hi =>
  simp only[AV.frz];split
  ·rename_i a;subst a;split
   ·rename_i q;subst q;obtain⟨u,k⟩:=b;have j:=g.read lo hi v k;obtain⟨_,_,_,_,_,_,r,s,l,_⟩:=k;refine⟨⟨[v],j,by rw[l];rfl⟩,fun _ t d h=>?_⟩;injection h with h1 o
    subst h1;cases o;exact⟨by rw[l];rfl,j⟩
   ·exact⟨trivial,fun _ t d h=>by cases h⟩
  ·rename_i a;have:=I9 c b;simp only[AV.drp,As a]at this;exact⟨this.keeps hk,fun _ t d h=>by cases h⟩
 case ep m f i y off =>
  have:=I9 c b;simp only[AV.drp]at this;simp only[AV.frz];split
  ·exact⟨trivial,fun _ t d h=>by cases h⟩
  ·rename_i a;rw[As a]at this;exact⟨this.keeps hk,fun _ t d h=>by cases h⟩
 case nin m f i len =>
  have:=I9 c b;simp only[AV.drp]at this;simp only[AV.frz];split
  ·exact⟨trivial,fun _ t d h=>by cases h⟩
  ·rename_i a;rw[As a]at this;exact⟨this.keeps hk,fun _ t d h=>by cases h⟩
 case p t d=>exact⟨(I9 c b).keeps hk,fun hp=>absurd rfl (hp t d)⟩
 all_goals
  have:=I9 c b;simp only[AV.drp]at this;simp only[AV.frz];exact⟨this.keeps hk,fun _ t d h=>by cases h⟩
theorem A2J (h:oY V V' n) (j:PT V V' n e xs) {x:AV} {cs:List Value} (c:NS V x cs):NS V' (x.frz n e xs) cs:=by
 by_cases hp:∃t d,x=.p t d
 ·obtain⟨t,d,rfl⟩:=hp;simp only[AV.frz];have c:Bo V.w V.O t cs d:=c;have:Bo V'.w V'.O t cs d:=c.mono (fun b _ i=>h.O b i) (fun b _ _=>by rw[h.w]);exact this
 ·have k:∃v,cs=[v]∧v.oneCell'=true∧TX V x v:=by
   cases x;case p t d=>exact absurd ⟨t,d,rfl⟩ hp
   all_goals exact c
  obtain⟨v,rfl,h1,g⟩:=k;obtain⟨f,a⟩:=YY h j g;have a:=a (fun t d e=>hp ⟨t,d,e⟩);generalize l:x.frz n e xs=y at f a;cases y;case p t d=>exact(a t d rfl).2
  all_goals exact⟨v,rfl,h1,f⟩
theorem PU (h:oY V V' n) (b:PT V V' n e xs):∀ {l:List AV} {cs:List Value},DX V l cs→DX V' (AV.frzs n e xs l) cs
 | [],cs,a=>(a:cs=[])
 | x :: r,cs,a=>by
  obtain⟨c1,c2,rfl,h1,c⟩:=a;simp only[AV.frzs];exact⟨c1,c2,rfl,A2J h b h1,PU h b c⟩
theorem A2K (h:oY V V' n) (b:PT V V' n e xs) {x:AV} {v:Value} (a:Rr V x v):Rr V' (x.frz n e xs) v:=by
 cases x;case ag l=>obtain⟨cs,h1,c⟩:=a;simp only[AV.frz];exact⟨cs,h1,PU h b c⟩
 all_goals
  simp only[Rr]at a;exact Rr.of1 (YY h b a).1
theorem Z5 (h:oY V V' n) (c:PT V V' n e xs):∀ {l:List AV} {a:List Value},J7 V l a→J7 V' (AV.frzs n e xs l) a
 | [],a,b=>(b:a=[])
 | x :: r,a,b=>by
  obtain⟨v,f,rfl,h1,d⟩:=b;simp only[AV.frzs];exact⟨v,f,rfl,A2K h c h1,Z5 h c d⟩
theorem oZ (h:oY V V' n) (c:PT V V' n e xs) {x:AV} {v:Value} (a:B0 V x v):B0 V' (x.frz n e xs) v:=by
 cases x;case ag l=>obtain⟨cs,h1,b⟩:=a;simp only[AV.frz];exact⟨cs,h1,PU h c b⟩
 case tup l=>obtain⟨d,h1,b⟩:=a;simp only[AV.frz];exact⟨d,h1,Z5 h c b⟩
 all_goals
  simp only[B0]at a;exact A2D (YY h c a).1
end
theorem Z6 (hs:Bm w0 K O0 nt ds σ ρ a w) (n:Nat) (N:¬GS n=true) {U:Obj} (hn:lk n σ.objs=some U) {e:Ty} {xs:List e.den}
  (Q:oY (vw w O0 σ ρ) (vw w O0 ⟨DD n e xs σ.env,A5 n e xs (del n σ.objs)⟩ ρ) n→PT (vw w O0 σ ρ) (vw w O0 ⟨DD n e xs σ.env,A5 n e xs (del n σ.objs)⟩ ρ) n e xs) :
  Bm w0 K O0 nt ds ⟨DD n e xs σ.env,A5 n e xs (del n σ.objs)⟩ ρ a w:=by
 have F:∀m x,lk m (A5 n e xs (del n σ.objs))=some x→m≠n∧∃y,lk m σ.objs=some y∧x=y.frz n e xs:=by
  intro m x d;rw[CZ,Qr]at d;split at d
  ·simp at d
  ·rename_i t;simp only[NO]at d;obtain⟨y,j,rfl⟩:=d;exact⟨t,y,j,rfl⟩
 have h:∀m,Gn ⟨DD n e xs σ.env,A5 n e xs (del n σ.objs)⟩ m↔(Gn σ m∧m≠n):=by
  intro m;constructor
  ·rintro⟨x,C⟩;obtain⟨h1,y,g,_⟩:=F m x C;exact⟨⟨y,g⟩,h1⟩
  ·rintro⟨⟨x,C⟩,t⟩;exact⟨x.frz n e xs,by simp[CZ,Qr,t,C]⟩
 have hF:oY (vw w O0 σ ρ) (vw w O0 ⟨DD n e xs σ.env,A5 n e xs (del n σ.objs)⟩ ρ) n:=by
  refine⟨rfl,rfl,fun m h1 g=>(h m).2 ⟨h1,g⟩,fun b f B=>?_,fun b f B=>?_⟩
  ·rcases B with h0|⟨m,c,d⟩
   ·exact f (.inl h0)
   ·exact f (.inr ⟨m,((h m).1 c).1,d⟩)
  ·have f:bk (ρ n) b:=f;rcases B with h0|⟨m,c,d⟩
   ·exact(hs.free n b ⟨_,hn⟩ f).2 h0
   ·exact((h m).1 c).2 (hs.dist m n b ((h m).1 c).1 ⟨_,hn⟩ d f)
 have u:=Q hF;have P:∀p∈ds.pin,Gn ⟨DD n e xs σ.env,A5 n e xs (del n σ.objs)⟩ p.1∧ρ p.1=p.2∧(A4z p.2=true∨GS p.1=true):=by
  intro p hp;obtain⟨h1,g,r⟩:=hs.pin p hp;refine⟨(h p.1).2 ⟨h1,fun q=>?_⟩,g,r⟩;have r:A4z p.2=true:=r.resolve_right (by rw[q];exact N);have D:seat (ρ n):=u.seat;rw[←q,g]at D;rcases D with ⟨_,_,_,E⟩|⟨_,E⟩<;>rw[E]at r<;>cases r
 refine⟨hs.frm,hs.nt,hs.defers,P,?_,?_,?_,?_⟩
 ·intro m x d;obtain⟨t,y,j,rfl⟩:=F m x d;have i:=hs.objs m y j;cases y with
  | arr A q J=>exact A3.keeps (V:=(vw w O0 σ ρ).but n) hF.keeps (fun _ _=>rfl) i
  | box A st fs =>
   obtain⟨h0,b,cs,c,hh,M⟩:=i;exact⟨fun R=>by rw[R5];exact h0 R,b,cs,c,hh,PU hF u M⟩
  | nest A S T q J c=>exact A3.keeps (V:=(vw w O0 σ ρ).but n) (o:=.nest A S T q J c) hF.keeps (fun _ _=>rfl) (Mp (V:=vw w O0 σ ρ) (V':=(vw w O0 σ ρ).but n) rfl rfl i)
  | mapo k v l=>exact A3.keeps (V:=(vw w O0 σ ρ).but n) hF.keeps (fun _ _=>rfl) i
  | frame ab fs =>
   obtain⟨h0,h1⟩:=i;refine⟨h0,fun s z H=>?_⟩;simp only[Mt,NO]at H;obtain⟨y,j,rfl⟩:=H;exact oZ hF u (h1 s y j)
  | loop L=>exact A3.keeps (V:=(vw w O0 σ ρ).but n) hF.keeps (fun _ _=>rfl) i
  | itr X aa Y Z W=>exact A3.keeps (V:=(vw w O0 σ ρ).but n) hF.keeps (fun _ _=>rfl) i
  | dfr=>exact A3.keeps (V:=(vw w O0 σ ρ).but n) hF.keeps (fun _ _=>rfl) i
 ·intro m b c f;exact hs.free m b ((h m).1 c).1 f
 ·intro m I b c O h1 g;exact hs.dist m I b ((h m).1 c).1 ((h I).1 O).1 h1 g
 ·intro s v G;simp only[Mt,NO]at G;obtain⟨y,j,rfl⟩:=G;exact oZ hF u (hs.env s y j)
theorem A2L (hs:Bm w0 K O0 nt ds σ ρ a w) (n:Nat):Bm w0 K O0 nt ds (frz n σ) ρ a w:=by
 unfold frz;split
 ·exact hs
 rename_i b;cases hn:lk n σ.objs with
 | none=>exact hs
 | some d =>
 cases d with
 | box et st fs=>exact hs
 | mapo k v l=>exact hs
 | frame q fs=>exact hs
 | loop L=>exact hs
 | itr j p m o f=>exact hs
 | dfr=>exact hs
 | arr et e xs=>exact Z6 hs n b hn fun h=>h.arr (hs.objs n _ hn)
 | nest et g k e xs c =>
  cases c with
  | some i=>exact hs
  | none=>exact Z6 hs n b hn fun h=>h.nest (hs.objs n _ hn)
theorem Kx:∀ {l:List Nat} {σ:St},Bm w0 K O0 nt ds σ ρ a w→Bm w0 K O0 nt ds (Ce l σ) ρ a w
 | [],_,h=>h
 | n :: r,σ,h=>Kx (l:=r) (σ:=frz n σ) (A2L h n)
end
end
section
open Go Go.RowKit
section
variable {P:Program} {tb:Tb} {w0:World} {K O0:Nat→Prop} {nt:Nat} {ds:Fp} {σ σ':St} {ρ:Nat→Value} {a:Act} {w:World} {vc:Prop}
theorem A2M (hs:Bm w0 K O0 nt ds σ ρ a w) (cd:∀b,K b→b<w0.heap.size) (ce:∀b,O0 b→b<w0.heap.size) (hT:DF P tb) {d:Nat} (cg:d<nt) {t ty:TypeId} {x y:Operand} {n i len:Nat} {e:Ty} {v:AV}
  (cu:Ah σ x=some (.nin n e i len)) (cv:Ah σ y=some v) {et el:TypeId} {k:Ty} {xs:List (k.den×List e.den)} (hn:lk n σ.objs=some (.nest et el k e xs none)) (ci:GS n=false)
  (hu:P.underlying t=some (.slice el)) {te:TI} (bb:lk el tb.ty=some te) (bc:te.ty=e) (h:LX σ d n et el k e xs i te.bytes (Ov σ e v)=some (vc,σ')) (an:vc) :
  ∃z w' ρ',(Builtin.append_ #[t,t] ty #[a.eval x,a.eval y]).run P w=.ok z w'∧Bm w0 K O0 nt ds σ' ρ' (a.put (some d) z) w':=by
 have bj:GH (vw w O0 σ ρ) σ a.eval:=Du hs.env;cases be:Ov σ e v with
 | none=>rw[be]at h;simp[LX]at h
 | some ys =>
  rw[be]at h;simp only[LX]at h;split at h
  ·rename_i bl;have al:lk d σ.objs=none:=by simpa using bl.1
   cases h;obtain⟨cz,ag⟩:=Ss hs.objs be (bj y _ cv);obtain⟨dd,da,ad,c,aa,M,H,ck,dh⟩:=bj x _ cu;have M:ρ n=.tuple da:=M;have bq:=hs.objs n _ hn;have bm:=Sp (z:=(k.dflt,[])) bq M H;obtain⟨o,ins,cells,cs,E⟩:=bq;obtain rfl:=cs.tup M;have H:ins[i]?=some aa:=by simpa using H
   obtain⟨c1,dj,cf,cr,s⟩:=E.row i _ _ bm H;rcases s with ⟨s,_⟩|⟨_,de,q,br,X,ch⟩
   ·cases s
   generalize dg:xs.getD i (k.dflt,[])=row at *;obtain⟨z,w',Y,G,B,az,bd⟩:∃z w',(Builtin.append_ #[t,t] ty #[a.eval x,a.eval y]).run P w=.ok z w'∧w'.ownsRow 0 el e.size z (row.2.length+ys.length) (br++cz)∧w.grownBy w' (blk aa)∧row.2.length+ys.length≤AO∧(blk z=blk aa∨∀b,blk z=some b→w.heap.size≤b):=by
    rcases ck with I|⟨I,a0,ct⟩
    ·rw[I];obtain⟨z,w',Y,G,B,az⟩:=GX (ty:=ty) hT hu bb bc X ag an (Is _);have bd:=Hl (ty:=ty) hT hu bb bc X ag an Y;rw[Sv X]at B;exact⟨z,w',Y,G,B,az,bd⟩
    ·subst I;have bo:=Kt X;have cq:row.2=[]:=So bo.symm;have cj:br=[]:=So (by rw[X.1,←bo,AC5]);subst cj;have cw:0<ys.length:=by
      cases ys with
      | nil=>simp at bl
      | cons _ _=>simp
     rw[ct];rw[cq]at an ⊢;obtain⟨z,w',Y,G,B⟩:=Rw (ty:=ty) hT hu bb bc (xs:=([]:List e.den)) (a:=a0) (Sr w (own O0 σ ρ) e a0 0) ag cw an;refine⟨z,w',Y,⟨G.1,G.2.imp (fun h=>h) fun⟨g,cap,ap,e,_,r⟩=>⟨g,cap,ap,e,Is _,r⟩⟩,B,by simpa using ag.max,.inr fun b f=>?_⟩;rcases G.2 with ⟨h1,_⟩|⟨g,cap,ap,h1,l,_⟩
     ·rw[h1]at f;simp[blk]at f
     ·rw[h1]at f;simp[blk]at f;omega
   have ak:∀b,bk (ρ n) b↔blk o=some b∨∃(j:Nat) (u:Value),ins[j]?=some u∧blk u=some b:=fun b=>by rw[M];exact A7
   have df:i<ins.length:=(Ro.1 H).1;have ba:n≠d:=fun p=>by rw[p,al]at hn;cases hn
   generalize ax:(Value.tuple (o :: ins.set i (.slice none 0 0)).toArray)=loc;have R:EU (EU ρ n loc) d z n=loc:=by simp[EU,ba]
   have Q:EU (EU ρ n loc) d z d=z:=Bg _ _ _;have ah:∀m,m≠n→m≠d→EU (EU ρ n loc) d z m=ρ m:=fun m h1 l=>by simp[EU,h1,l]
   generalize EU (EU ρ n loc) d z=ρ' at R Q ah;have af:∀(j:Nat) (u:Value),(ins.set i (.slice none 0 0))[j]?=some u→(j=i∧u=.slice none 0 0)∨(j≠i∧ins[j]?=some u):=by
    intro j u F;rw[AAx]at F;split at F
    ·rename_i p;have F:(some (Value.slice none 0 0))=some u:=by
      first|exact F|(split at F<;>first|exact F|cases F)
     cases F;exact .inl ⟨p.symm,rfl⟩
    ·rename_i p;exact .inr ⟨fun ab=>p ab.symm,F⟩
   have bh:∀b,bk loc b→blk o=some b∨∃(j:Nat) (u:Value),j≠i∧ins[j]?=some u∧blk u=some b:=by
    intro b f;rw[←ax,A7]at f;rcases f with f|⟨j,u,F,f⟩
    ·exact .inl f
    ·rcases af j u F with ⟨_,rfl⟩|⟨h1,l⟩
     ·simp[blk]at f
     ·exact .inr ⟨j,u,h1,l,f⟩
   have aw:∀b,bk loc b→bk (ρ n) b:=fun b f=>(ak b).2 ((bh b f).imp id fun⟨j,u,_,h1,l⟩=>⟨j,u,h1,l⟩);have ae:∀b,blk aa=some b→bk (ρ n) b:=fun b f=>(ak b).2 (.inr ⟨i,_,H,f⟩);have bi:∀b,bk z b→blk z=some b:=fun b f=>by
    rcases G.2 with ⟨I,_⟩|⟨g,cap,ap,I,_⟩<;>rw[I]at f ⊢<;>exact Lv.1 f
   have bf:∀b,bk z b→blk aa=some b∨w.heap.size≤b:=fun b f=>by
    rcases bd with h1|h1
    ·exact .inl (by rw[←h1];exact bi b f)
    ·exact .inr (h1 b (bi b f))
   have ay:∀b,bk (ρ n) b→b<w.heap.size:=fun b f=>(hs.objs n _ hn).block_lt f;have cm:∀b,bk loc b→blk aa≠some b:=by
    intro b f I;rcases bh b f with h1|⟨j,u,h1,l,s⟩
    ·exact E.out i b _ H I h1
    ·exact h1 (E.dist j i b u _ l H s I)
   have bn:(row.2++ys).length=row.2.length+ys.length:=by simp
   let S:St:=⟨(d,.sr d e 0 (row.2.length+ys.length)) :: Dr n [] σ.env,(d,.arr el e (row.2++ys)) :: (n,.nest et el k e xs (some i)) :: CW n [] σ.objs⟩
   have av:∀m C,lk m S.objs=some C→(m=d∧C=.arr el e (row.2++ys))∨(m=n∧m≠d∧C=.nest et el k e xs (some i))∨(m≠d∧m≠n∧∃A,lk m σ.objs=some A∧C=A.trn n []):=by
    intro m C q;simp only[S,lk]at q;split at q
    ·rename_i p;cases q;exact .inl ⟨p,rfl⟩
    ·rename_i p;split at q
     ·rename_i ab;cases q;exact .inr (.inl ⟨ab,p,rfl⟩)
     ·rename_i ab;rw[DY]at q;split at q
      ·cases q
      ·simp only[NO]at q;obtain⟨A,h1,rfl⟩:=q;exact .inr (.inr ⟨p,ab,A,h1,rfl⟩)
   have bg:∀m,m≠d→m≠n→∀A,lk m σ.objs=some A→lk m S.objs=some (A.trn n []):=by
    intro m h1 l A s;simp only[S,lk,As h1,As l,DY,s];simp[AW,l]
   have co:∀b,b<w.heap.size→¬own O0 σ ρ b→¬own O0 S ρ' b:=by
    intro b f L cy;rcases cy with h0|⟨m,⟨C,cn⟩,U⟩
    ·exact L (.inl h0)
    ·rcases av m C cn with ⟨rfl,_⟩|⟨rfl,_,_⟩|⟨h1,l,A,s,_⟩
     ·rw[Q]at U;rcases bf b U with D|D
      ·exact L (.inr ⟨n,⟨_,hn⟩,ae b D⟩)
      ·omega
     ·rw[R]at U;exact L (.inr ⟨_,⟨_,hn⟩,aw b U⟩)
     ·rw[ah m l h1]at U;exact L (.inr ⟨m,⟨A,s⟩,U⟩)
   have cp:plc loc=o:=by rw[←ax];rfl
   have ai:Qu (vw w O0 σ ρ) (vw w' O0 S ρ') n []:=by
    refine⟨co,fun m q _=>?_,fun m q _ am=>?_,⟨_,M⟩,?_,fun b f L=>B.block b f fun p=>L (.inr ⟨n,⟨_,hn⟩,ae b p.symm⟩)⟩
    ·obtain⟨A,h1⟩:=q;by_cases N:m=n
     ·subst N;exact⟨.nest et el k e xs (some i),by simp[S,lk,ba]⟩
     ·have J:m≠d:=fun p=>by rw[p,al]at h1;cases h1
      exact⟨_,bg m J N A h1⟩
    ·obtain⟨A,h1⟩:=q;exact ah m am (fun p=>by rw[p,al]at h1;cases h1)
    ·show plc (ρ' n)=plc (ρ n);rw[R,cp,M];rfl
   have W:CR ⟨w,own O0 σ ρ,fun _=>False,ρ⟩ (vw w' O0 S ρ'):=⟨ai.O,fun _ h=>h.elim,fun _ h=>h.elim,ai.heap⟩;refine⟨z,w',ρ',Y,hs.swap cd ce (T:=fun m=>m=n) (fun m q=>by obtain rfl:m=n:=q;exact⟨ci,_,hn,by rw[M];exact .inr ⟨_,rfl⟩⟩) (new:=[(d,.arr el e (row.2++ys)),(n,.nest et el k e xs (some i))]) B.os B.tape B.output B.size ?_ ?_ ?_ ?_ ?_ ?_ ?_ ?_⟩
   ·exact fun b f L=>B.block b f fun p=>L n rfl (ae b p.symm)
   ·intro m C q bp;rcases av m C q with ⟨rfl,_⟩|⟨rfl,h1,_⟩|⟨h1,l,A,s,_⟩
    ·simp[lk]at bp
    ·simp[lk,h1]at bp
    ·exact⟨l,A,s⟩
   ·intro m A q am;have J:m≠d:=fun p=>by rw[p,al]at q;cases q
    exact⟨by simp[lk,J,am],_,bg m J am A q⟩
   ·intro m q;have J:m≠d:=fun p=>by simp[lk,p]at q
    have N:m≠n:=fun p=>by simp[lk,p,ba]at q
    exact ah m N J
   ·intro m C b q f;by_cases J:m=d
    ·rw[J,Q]at f;exact(bf b f).imp (fun D=>⟨n,rfl,ae b D⟩) id
    ·by_cases N:m=n
     ·rw[N,R]at f;exact .inl ⟨n,rfl,aw b f⟩
     ·simp[lk,J,N]at q
   ·have key:∀b,bk z b→bk loc b→False:=fun b h1 l=>by
     rcases bf b h1 with s|s
     ·exact cm b l s
     ·have:=ay b (aw b l);omega
    intro m ao C di b q cl f aj;have h1:m=d∨m=n:=by
     by_cases h1:m=d
     ·exact .inl h1
     ·by_cases l:m=n
      ·exact .inr l
      ·simp[lk,h1,l]at q
    have l:ao=d∨ao=n:=by
     by_cases h1:ao=d
     ·exact .inl h1
     ·by_cases l:ao=n
      ·exact .inr l
      ·simp[lk,h1,l]at cl
    rcases h1 with rfl|rfl<;>rcases l with l|l
    ·exact l.symm
    ·rw[Q]at f;rw[l,R]at aj;exact(key b f aj).elim
    ·rw[R]at f;rw[l,Q]at aj;exact(key b aj f).elim
    ·exact l.symm
   ·intro m C q;rcases av m C q with ⟨rfl,rfl⟩|⟨rfl,_,rfl⟩|⟨h1,l,A,s,rfl⟩
    ·rw[Q];refine⟨by rw[bn];exact az,_,by rw[bn];exact G,?_⟩;exact Dp.keeps W (Kv ch ag.elems X.1)
    ·rw[R];refine⟨o,ins.set i (.slice none 0 0),cells,.inl ax.symm,E.max,by rw[AA5];exact E.len,Jl (fun b f=>B.block b (ay b ((ak b).2 (.inl f))) fun p=>E.out i b _ H p.symm f) E.own,fun j db u h1 l=>?_,?_,?_⟩
     ·rcases af j u l with ⟨rfl,rfl⟩|⟨s,D⟩
      ·rw[bm]at h1;cases h1;exact⟨c1,_,cf,Bo.mono W.O W.heap cr,.inl ⟨by simp,rfl⟩⟩
      ·obtain⟨c2,bw,bx,bz,ar⟩:=E.row j db u h1 D;rcases ar with ⟨ar,_⟩|⟨_,ca,cb⟩
       ·cases ar
       ·refine⟨c2,bw,bx,Bo.mono W.O W.heap bz,.inr ⟨AAs.2 (fun p=>s (by injection p with p;exact p.symm)),ca,?_⟩⟩;exact Ny.keeps (V:=⟨w,own O0 σ ρ,fun _=>False,ρ⟩) W (fun b f=>B.block b (ay b ((ak b).2 (.inr ⟨j,u,D,f⟩))) fun p=>s (E.dist j i b u _ D H f p.symm)) cb
     ·intro bs bt b bu bv h1 l s D;rcases af bs bu h1 with ⟨_,rfl⟩|⟨_,au⟩
      ·simp[blk]at s
      ·rcases af bt bv l with ⟨_,rfl⟩|⟨_,cc⟩
       ·simp[blk]at D
       ·exact E.dist bs bt b bu bv au cc s D
     ·intro j b u h1 l;rcases af j u h1 with ⟨_,rfl⟩|⟨_,au⟩
      ·simp[blk]at l
      ·exact E.out j b u au l
    ·rw[ah m l h1];refine oW ai (fun b f=>B.block b ((hs.objs m A s).block_lt f) fun p=>l (hs.dist m n b ⟨_,s⟩ ⟨_,hn⟩ f (ae b p.symm))) (hs.objs m A s)
   ·intro s2 bw Z;rw[Ks a d z s2 (by rw[hs.nt];exact cg)];simp only[S,lk]at Z;split at Z
    ·rename_i aq;cases Z;rw[At aq];refine⟨⟨.arr el e (row.2++ys),by simp[S,lk]⟩,?_⟩;show DE (plc (ρ' d)) e.size 0 _ z;rw[Q,Hk G];exact Fb G
    ·rename_i aq;rw[As aq];rw[Ff]at Z;simp only[NO]at Z;obtain⟨dc,cx,rfl⟩:=Z;exact YX ai (hs.env s2 dc cx)
  ·cases h
end
end
section
open Go Go.RowKit
theorem YZ {w:World} {et:TypeId} {sz len g m c:Nat} {cells:List Value} (h:w.ownsRow 0 et sz (.slice (some ⟨g,0,none⟩) m c) len cells) {p:Nat} (hp:p<len*sz) (v:Value) :
  ∃a:List Value,w.heap[g]?=some (.cells a.toArray et (0,0))∧p+1≤a.length∧(w.setRow g (A1 a p [v]).toArray).ownsRow 0 et sz (.slice (some ⟨g,0,none⟩) m c) len (cells.set p v):=by
 obtain⟨u,n⟩:=h;rcases n with ⟨d,_⟩|⟨z,cap,a,d,A,k,f,q,i,x⟩
 ·cases d
 ·injection d with b r s
  injection b with b
  injection b with b
  subst b;have B:len*sz≤cap*sz:=AA0 _ f;have C:a.toList.length=cap*sz:=by rw[←i];simp
  have o:p + [v].length≤a.toList.length:=by simp only[To];omega
  have t:w.heap[g]?=some (.cells a.toList.toArray et (0,0)):=by simpa using k
  have l:A1 a.toList p [v]=a.toList.set p v:=by
   apply AC1;intro j;simp only[A1,oR,AAo,OS,oN,AAm,To,AAx];have y:min p a.toList.length=p:=by omega
   simp only[y];by_cases c1:j<p
   ·simp only[c1,AAH];rw[As (by omega)]
   ·by_cases c2:j=p
    ·subst c2;simp only[Nat.lt_irrefl,AAY,AB1,Nat.lt_one_iff,AAH];rw[At (by omega)];rfl
    ·simp only[c1,AAY,show ¬j-p<1 by omega];rw[As (fun e=>c2 e.symm)]
     congr 1
     omega
  refine⟨a.toList,t,by simpa using o,?_,.inr ⟨g,cap,_,by rw[r,s],Is _,setRow_heap w g _ _ et _ k,f,q,?_,?_⟩⟩
  ·rw[AA5];exact u
  ·rw[l];simp[i]
  ·rw[l,←x];simp[List.take_set]
section
variable {P:Program} {tb:Tb} {w0:World} {K O0:Nat→Prop} {nt:Nat} {ds:Fp} {σ σ':St} {ρ:Nat→Value} {a:Act} {w:World} {vc:Prop}
theorem wZ (hs:Bm w0 K O0 nt ds σ ρ a w) (br:∀b,K b→b<w0.heap.size) (bs:∀b,O0 b→b<w0.heap.size) (hT:DF P tb) {id:TypeId} {ti:TI} (cm:lk id tb.ty=some ti) {x y:Operand} {n m i hi:Nat} {k e:Ty} (cn:ti.ty=.slice e) {db:List Nat}
  (cp:Ah σ x=some (.ep n (.agg (.prod k (.slice e))) i db k.size)) (ct:Ah σ y=some (.sr m e 0 hi)) {et B:TypeId} {xs:List (k.den×List e.den)} {ys:List e.den} (hn:lk n σ.objs=some (.nest et B k e xs (some i))) (H:lk m σ.objs=some (.arr B e ys))
  (bx:GS n=false) (bw:GS m=false) (co:hi=ys.length) :
  ∃w' ρ',(Instr.storeAt id (a.eval x) (a.eval y)).run P w=.ok () w'∧Bm w0 K O0 nt ds ⟨Dr n [m] σ.env,(n,.nest et B k e (xs.set i ((xs.getD i (k.dflt,[])).1,ys)) none) :: CW n [m] σ.objs⟩ ρ' a w':=by
 have bd:GH (vw w O0 σ ρ) σ a.eval:=Du hs.env;have ch:m≠n:=fun f=>by rw[f,hn]at H;cases H
 obtain⟨df,g,bl,c,ar,cd,cr⟩:=bd x _ cp;obtain⟨dg,bm,cz,bn,I,_,di,dd,de,cv,_,h0,_⟩:=bd y _ ct;obtain⟨o,ins,cells,bi,A⟩:=hs.objs n _ hn;have ba:Ny (vw w O0 σ ρ) B e ys (ρ m):=hs.objs m _ H;have aq:=hs.objs m _ H;have I:plc (ρ m)=.slice bm cz bn:=I;rw[O9 aq]at I;have cx:a.eval y=ρ m:=by
  obtain⟨rfl,rfl⟩:=h0 rfl;obtain⟨_,dj,bf,_⟩:=ba;rw[I]at bf;rw[cv,I,Kt bf,co,ACk]
 have ar:plc (ρ n)=.slice (some ⟨g,0,none⟩) bl c:=ar;have ci:o=.slice (some ⟨g,0,none⟩) bl c:=by rw[←bi.plc];exact ar
 subst ci;have cf:=Kt A.own;subst cf;have R:i<xs.length:=cd;have ao:i<ins.length:=by rw[A.len];exact R
 have ak:ρ n=.tuple ((.slice (some ⟨g,0,none⟩) xs.length c) :: ins).toArray:=bi.resolve_right fun h=>by rw[h.2.2]at ao;simp at ao
 have hp:i*(k.size+1)+k.size<xs.length*(k.size+1):=by
  have:(i+1)*(k.size+1)≤xs.length*(k.size+1):=AA0 _ R;rw[AAT]at this;omega
 obtain⟨Y,bz,bu,aj⟩:=YZ A.own hp (ρ m);have ck:(ρ m).oneCell'=true:=by rw[I];rfl
 have ae:(a.eval y).cells=#[ρ m]:=by rw[cx,I];rfl
 have bh:=Lz (P:=P) (xv:=a.eval y) (hT _ _ cm) bz (off:=i*(k.size+1)+k.size) (by rw[ae,cn];rfl) (by rw[ae];simpa using bu) (by rw[ae];intro u hu;simp at hu;subst hu;exact ck);rw[ae]at bh;refine⟨_,EU ρ n (.tuple ((.slice (some ⟨g,0,none⟩) xs.length c) :: ins.set i (ρ m)).toArray),by rw[cr];exact bh,?_⟩;have G:=F3 w g (A1 Y (i*(k.size+1)+k.size) [ρ m]).toArray;change Bm w0 K O0 nt ds _ _ a (w.setRow g (A1 Y (i*(k.size+1)+k.size) [ρ m]).toArray);have aj:(w.setRow g (A1 Y (i*(k.size+1)+k.size) [ρ m]).toArray).ownsRow 0 et (k.size+1) (.slice (some ⟨g,0,none⟩) xs.length c) xs.length (cells.set (i*(k.size+1)+k.size) (ρ m)):=aj;generalize w.setRow g (A1 Y (i*(k.size+1)+k.size) [ρ m]).toArray=w' at G aj;generalize ap:(Value.tuple ((.slice (some ⟨g,0,none⟩) xs.length c) :: ins.set i (ρ m)).toArray)=loc;have W:EU ρ n loc n=loc:=Bg _ _ _;have X:∀j,j≠n→EU ρ n loc j=ρ j:=fun j h1=>by simp[EU,h1]
 generalize EU ρ n loc=ρ' at W X;have F:∀b,bk (ρ n) b↔blk (.slice (some ⟨g,0,none⟩) xs.length c)=some b∨∃(j:Nat) (u:Value),ins[j]?=some u∧blk u=some b:=fun b=>by rw[ak];exact A7
 have U:∀(j:Nat) (u:Value),(ins.set i (ρ m))[j]?=some u→(j=i∧u=ρ m)∨(j≠i∧ins[j]?=some u):=by
  intro j u d;rw[AAx]at d;split at d
  ·rename_i f;have d:(some (ρ m))=some u:=by
    first|exact d|(split at d<;>first|exact d|cases d)
   cases d;exact .inl ⟨f.symm,rfl⟩
  ·rename_i f;exact .inr ⟨fun al=>f al.symm,d⟩
 have ad:∀b,blk (ρ m)=some b→bk (ρ m) b:=fun b l=>.inl l;have bc:∀b,bk loc b→bk (ρ n) b∨blk (ρ m)=some b:=by
  intro b l;rw[←ap,A7]at l;rcases l with l|⟨j,u,d,l⟩
  ·exact .inl ((F b).2 (.inl l))
  ·rcases U j u d with ⟨_,rfl⟩|⟨_,r⟩
   ·exact .inr l
   ·exact .inl ((F b).2 (.inr ⟨j,u,r,l⟩))
 have af:∀b,bk (ρ n) b→blk (ρ m)=some b→False:=fun b h1 r=>ch (hs.dist m n b ⟨_,H⟩ ⟨_,hn⟩ (ad b r) h1);have ag:bk (ρ n) g:=(F g).2 (.inl rfl);have cc:∀b,bk (ρ n) b→b<w.heap.size:=fun b l=>(hs.objs n _ hn).block_lt l;have ce:∀b,blk (ρ m)=some b→b<w.heap.size:=fun b l=>aq.block_lt (ad b l)
 let S:St:=⟨Dr n [m] σ.env,(n,.nest et B k e (xs.set i ((xs.getD i (k.dflt,[])).1,ys)) none) :: CW n [m] σ.objs⟩
 have an:∀j t,lk j S.objs=some t→(j=n∧t=.nest et B k e (xs.set i ((xs.getD i (k.dflt,[])).1,ys)) none)∨(j≠n∧j≠m∧∃s,lk j σ.objs=some s∧t=s.trn n [m]):=by
  intro j t d;simp only[S,lk]at d;split at d
  ·rename_i f;cases d;exact .inl ⟨f,rfl⟩
  ·rename_i f;rw[DY]at d;split at d
   ·cases d
   ·rename_i al;simp only[NO]at d;obtain⟨s,h1,rfl⟩:=d;exact .inr ⟨f,fun bo=>al (by simp[AW,bo]),s,h1,rfl⟩
 have bb:∀j,j≠n→j≠m→∀s,lk j σ.objs=some s→lk j S.objs=some (s.trn n [m]):=by
  intro j h1 r s p;simp only[S,lk,As h1,DY,p];simp[AW,h1,r]
 have cl:∀b,b<w.heap.size→¬own O0 σ ρ b→¬own O0 S ρ' b:=by
  intro b l C cw;rcases cw with h0|⟨j,⟨t,cj⟩,ab⟩
  ·exact C (.inl h0)
  ·rcases an j t cj with ⟨rfl,_⟩|⟨h1,r,s,p,_⟩
   ·rw[W]at ab;rcases bc b ab with v|v
    ·exact C (.inr ⟨_,⟨_,hn⟩,v⟩)
    ·exact C (.inr ⟨m,⟨_,H⟩,ad b v⟩)
   ·rw[X j h1]at ab;exact C (.inr ⟨j,⟨s,p⟩,ab⟩)
 have aa:Qu (vw w O0 σ ρ) (vw w' O0 S ρ') n [m]:=by
  refine⟨cl,fun j d cb=>?_,fun j _ _ M=>X j M,⟨_,ak⟩,?_,fun b l C=>G.block b l fun f=>?_⟩
  ·obtain⟨s,h1⟩:=d;by_cases be:j=n
   ·exact⟨.nest et B k e (xs.set i ((xs.getD i (k.dflt,[])).1,ys)) none,by simp[S,lk,be]⟩
   ·exact⟨_,bb j be (fun f=>by simp[AW,f]at cb) s h1⟩
  ·show plc (ρ' n)=plc (ρ n);rw[W,←ap,ak];rfl
  ·injection f with f
   subst f;exact C (.inr ⟨n,⟨_,hn⟩,ag⟩)
 have L:CR ⟨w,own O0 σ ρ,fun _=>False,ρ⟩ (vw w' O0 S ρ'):=⟨aa.O,fun _ h=>h.elim,fun _ h=>h.elim,aa.heap⟩;have ah:∀b,b<w.heap.size→b≠g→w'.heap[b]?=w.heap[b]?:=fun b h1 r=>G.block b h1 fun f=>r (by injection f);refine hs.swap br bs (T:=fun j=>j=n∨j=m) (dst:=none) (u:=undef) (fun j d=>?_) (new:=[(n,.nest et B k e (xs.set i ((xs.getD i (k.dflt,[])).1,ys)) none)]) G.os G.tape G.output G.size ?_ ?_ ?_ ?_ ?_ ?_ ?_ ?_
 ·rcases d with rfl|rfl
  ·exact⟨bx,_,hn,by rw[ak];exact .inr ⟨_,rfl⟩⟩
  ·exact⟨bw,_,H,Z4 aq⟩
 ·exact fun b l C=>ah b l fun f=>C n (.inl rfl) (by rw[f];exact ag)
 ·intro j t d cg;rcases an j t d with ⟨rfl,_⟩|⟨h1,r,s,p,_⟩
  ·simp[lk]at cg
  ·exact⟨fun h=>h.elim h1 r,s,p⟩
 ·intro j s d M;have h1:j≠n:=fun f=>M (.inl f);have r:j≠m:=fun f=>M (.inr f);exact⟨by simp[lk,h1],_,bb j h1 r s d⟩
 ·intro j d;exact X j fun f=>by simp[lk,f]at d
 ·intro j t b d l;have h1:j=n:=by
   by_cases h1:j=n
   ·exact h1
   ·simp[lk,h1]at d
  rw[h1,W]at l;exact .inl ((bc b l).elim (fun h=>⟨n,.inl rfl,h⟩) fun h=>⟨m,.inr rfl,ad b h⟩)
 ·intro j cy t da b d ca _ _;have key:∀j t,lk j [(n,Obj.nest et B k e (xs.set i ((xs.getD i (k.dflt,[])).1,ys)) none)]=some t→j=n:=fun j t d=>by
   by_cases h1:j=n
   ·exact h1
   ·simp[lk,h1]at d
  rw[key j t d,key cy da ca]
 ·intro j t d;rcases an j t d with ⟨rfl,rfl⟩|⟨h1,r,s,p,rfl⟩
  ·rw[W];have bt:cells.length=xs.length*(k.size+1):=A.own.1;refine⟨_,ins.set i (ρ m),cells.set (i*(k.size+1)+k.size) (ρ m),.inl ap.symm,by rw[AA5];exact A.max,by rw[AA5,AA5];exact A.len,by rw[AA5];exact aj,fun j az u h1 r=>?_,?_,?_⟩
   ·have bv:∀(c2:List Value) (E:Value),j≠i→c2.length=k.size→(∀(q:Nat) (z:Value),(c2++[E])[q]?=some z→cells[j*(k.size+1)+q]?=some z)→∀(q:Nat) (z:Value),(c2++[E])[q]?=some z→(cells.set (i*(k.size+1)+k.size) (ρ m))[j*(k.size+1)+q]?=some z:=by
     intro c2 E dh ai N q z D;have au:=(Ro.1 D).1;simp only[IN,To,ai]at au;have M:i*(k.size+1)+k.size≠j*(k.size+1)+q:=by
      intro f;rcases Nat.lt_or_ge i j with p|p
      ·have:(i+1)*(k.size+1)≤j*(k.size+1):=AA0 _ p;rw[AAT]at this;omega
      ·have:(j+1)*(k.size+1)≤i*(k.size+1):=AA0 _ (by omega);rw[AAT]at this;omega
     rw[AAx,As M];exact N q z D
    rcases U j u r with ⟨rfl,rfl⟩|⟨p,v⟩
    ·have cs:xs[j]?=some (xs.getD j (k.dflt,[])):=by
      rw[An R,AS,An R];rfl
     obtain⟨c2,E,N,Q,_⟩:=A.row j _ ins[j] cs (An ao);have cq:az=((xs.getD j (k.dflt,[])).1,ys):=by
      rw[ABW R]at h1;exact(ACf h1).symm
     subst cq;have ai:c2.length=k.size:=Q.length;refine⟨c2,ρ m,fun q z D=>?_,Bo.mono L.O L.heap Q,.inr ⟨rfl,.inl rfl,?_⟩⟩
     ·have au:=(Ro.1 D).1;simp only[IN,To,ai]at au;rw[AAx];by_cases bg:q=k.size
      ·rw[bg,At rfl,At (by rw[bt];exact hp)];rw[bg,←ai,AA4 (No _),AB1]at D;exact D
      ·rw[As (by omega)];refine N q z ?_;rw[oS (by omega)]at D ⊢;exact D
     ·exact Ny.keeps (V:=⟨w,own O0 σ ρ,fun _=>False,ρ⟩) L (fun b l=>ah b (ce b l) fun f=>af b (by rw[f];exact ag) l) ba
    ·have h1:xs[j]?=some az:=by
      rw[AAx,As (fun f=>p f.symm)]at h1;exact h1
     obtain⟨c2,E,N,Q,am⟩:=A.row j az u h1 v;rcases am with ⟨am,_⟩|⟨_,bp,bq⟩
     ·exact absurd (by simpa using am) (fun f:i=j=>p f.symm)
     ·refine⟨c2,E,bv c2 E p Q.length N,Bo.mono L.O L.heap Q,.inr ⟨rfl,bp,?_⟩⟩;exact Ny.keeps (V:=⟨w,own O0 σ ρ,fun _=>False,ρ⟩) L (fun b l=>ah b (cc b ((F b).2 (.inr ⟨j,u,v,l⟩))) fun f=>A.out j b u v l (by rw[f];rfl)) bq
   ·intro av aw b ax ay h1 r p v;rcases U av ax h1 with ⟨J,rfl⟩|⟨_,J⟩<;>rcases U aw ay r with ⟨Z,rfl⟩|⟨_,Z⟩
    ·rw[J,Z]
    ·exact(af b ((F b).2 (.inr ⟨aw,ay,Z,v⟩)) p).elim
    ·exact(af b ((F b).2 (.inr ⟨av,ax,J,p⟩)) v).elim
    ·exact A.dist av aw b ax ay J Z p v
   ·intro j b u h1 r p;rcases U j u h1 with ⟨_,rfl⟩|⟨_,J⟩
    ·exact af b ((F b).2 (.inl p)) r
    ·exact A.out j b u J r p
  ·rw[X j h1];refine oW aa (fun b l=>ah b ((hs.objs j s p).block_lt l) fun f=>h1 (hs.dist j n b ⟨_,p⟩ ⟨_,hn⟩ l (by rw[f];exact ag))) (hs.objs j s p)
 ·intro s2 E bj;simp only[Ff,NO]at bj;obtain⟨dc,cu,rfl⟩:=bj;exact YX aa (hs.env s2 dc cu)
end
end
section
open Go Go.RowKit
section
variable {P:Program} {tb:Tb} {w0:World} {K O0:Nat→Prop} {nt:Nat} {ds:Fp} {σ σ':St} {ρ:Nat→Value} {a:Act} {w:World} {vc:Prop}
theorem Bm.swap1 (h:Bm w0 K O0 nt ds σ ρ a w) (Q:∀b,K b→b<w0.heap.size) (R:∀b,O0 b→b<w0.heap.size) {tl:List Nat} (hT:∀n,n∈tl→GS n=false∧∃o,lk n σ.objs=some o∧seat (ρ n))
  {f:Nat} (aa:f∈tl∨lk f σ.objs=none) {l:Obj} {loc:Value} {w':World}
  (ae:w'.os=w.os) (ai:w'.tape=w.tape) (af:w'.output=w.output) (ag:w.heap.size≤w'.heap.size)
  (F:∀b,b<w.heap.size→(∀n,n∈tl→¬bk (ρ n) b)→w'.heap[b]?=w.heap[b]?)
  (M:∀b,bk loc b→(∃m,m∈tl∧bk (ρ m) b)∨w.heap.size≤b)
  (ad:∀V':Vw,V'.w=w'→CR ⟨w,own O0 σ ρ,fun _=>False,ρ⟩ V'→A3 V' l loc)
  {d:Nat} (V:d<nt) {v:AV} {u:Value} (U:∀V':Vw,V'.L f→V'.ρ f=loc→B0 V' v u) :
  Bm w0 K O0 nt ds ⟨(d,v) :: BT tl σ.env,(f,l) :: Af tl tl σ.objs⟩ (EU ρ f loc) (a.put (some d) u) w':=by
 let S:St:=⟨(d,v) :: BT tl σ.env,(f,l) :: Af tl tl σ.objs⟩
 have D:∀m o,lk m S.objs=some o→(m=f∧o=l)∨(m≠f∧m∉tl∧∃c,lk m σ.objs=some c∧o=c.fgt tl):=by
  intro m o e;simp only[S,lk]at e;split at e
  ·rename_i p;cases e;exact .inl ⟨p,rfl⟩
  ·rename_i p;rw[BR]at e;split at e
   ·cases e
   ·rename_i P;simp only[NO]at e;obtain⟨c,h1,rfl⟩:=e;exact .inr ⟨p,fun h=>P ((AY _ _).2 h),c,h1,rfl⟩
 have I:∀m,m≠f→m∉tl→∀c,lk m σ.objs=some c→lk m S.objs=some (c.fgt tl):=by
  intro m h1 i c g;simp only[S,lk,As h1,BR,g];rw[As fun h=>i ((AY _ _).1 h)];rfl
 have G:∀m,m∉tl→(∃o,lk m σ.objs=some o)→m≠f:=by
  rintro m h1 ⟨o,i⟩ rfl;rcases aa with g|g
  ·exact h1 g
  ·rw[g]at i;cases i
 have z:EU ρ f loc f=loc:=Bg _ _ _;have A:∀m,m≠f→EU ρ f loc m=ρ m:=fun m h1=>by simp[EU,h1]
 generalize EU ρ f loc=ρ' at z A;have O:∀b,b<w.heap.size→¬own O0 σ ρ b→¬own O0 S ρ' b:=by
  intro b k r ak;rcases ak with h0|⟨m,⟨o,ab⟩,B⟩
  ·exact r (.inl h0)
  ·rcases D m o ab with ⟨rfl,_⟩|⟨h1,i,c,g,_⟩
   ·rw[z]at B;rcases M b B with ⟨t,ah,H⟩|H
    ·obtain⟨_,c,q,_⟩:=hT t ah;exact r (.inr ⟨t,⟨c,q⟩,H⟩)
    ·omega
   ·rw[A m h1]at B;exact r (.inr ⟨m,⟨c,g⟩,B⟩)
 have J:∀b,b<w.heap.size→¬own O0 σ ρ b→w'.heap[b]?=w.heap[b]?:=fun b k r=>F b k fun n hn E=>by
  obtain⟨_,c,q,_⟩:=hT n hn;exact r (.inr ⟨n,⟨c,q⟩,E⟩)
 have X:CR ⟨w,own O0 σ ρ,fun _=>False,ρ⟩ (vw w' O0 S ρ'):=⟨O,fun _ h=>h.elim,fun _ h=>h.elim,J⟩;have hk:CR ((vw w O0 σ ρ).buts tl) (vw w' O0 S ρ'):=by
  refine⟨O,fun m e=>?_,fun m e=>?_,J⟩
  ·obtain⟨⟨c,h1⟩,i⟩:=e;have g:m∉tl:=fun h=>by rw[(AY _ _).2 h]at i;cases i
   exact⟨_,I m (G m g ⟨c,h1⟩) g c h1⟩
  ·obtain⟨⟨c,h1⟩,i⟩:=e;have g:m∉tl:=fun h=>by rw[(AY _ _).2 h]at i;cases i
   exact A m (G m g ⟨c,h1⟩)
 refine h.swap Q R (T:=fun m=>m∈tl) hT (new:=[(f,l)]) ae ai af ag F ?_ ?_ ?_ ?_ ?_ ?_ ?_
 ·intro m o e Z;rcases D m o e with ⟨rfl,_⟩|⟨h1,i,c,g,_⟩
  ·simp[lk]at Z
  ·exact⟨i,c,g⟩
 ·intro m c e N;have h1:=G m N ⟨c,e⟩;exact⟨by simp[lk,h1],_,I m h1 N c e⟩
 ·intro m e;exact A m fun p=>by simp[lk,p]at e
 ·intro m o b e k;have h1:m=f:=by
   by_cases h1:m=f
   ·exact h1
   ·simp[lk,h1]at e
  rw[h1,z]at k;exact M b k
 ·intro m al o am b e Y _ _;have key:∀j o,lk j [(f,l)]=some o→j=f:=fun j o W=>by
   by_cases h1:j=f
   ·exact h1
   ·simp[lk,h1]at W
  rw[key m o e,key al am Y]
 ·intro m o e;rcases D m o e with ⟨rfl,rfl⟩|⟨h1,i,c,g,rfl⟩
  ·rw[z];exact ad _ rfl X
  ·rw[A m h1];refine Su hk (fun b k=>F b ((h.objs m c g).block_lt k) fun n hn E=>?_) (h.objs m c g);obtain⟨_,an,q,_⟩:=hT n hn;exact i ((h.dist m n b ⟨_,g⟩ ⟨_,q⟩ k E)▸hn)
 ·intro s x hs;rw[Ks a d u s (by rw[h.nt];exact V)];simp only[S,lk]at hs;split at hs
  ·rename_i C;cases hs;rw[At C];exact U _ ⟨l,by simp[S,lk]⟩ z
  ·rename_i C;rw[As C];rw[DK]at hs;simp only[NO]at hs;obtain⟨y,aj,rfl⟩:=hs;exact(PQ (h.env s y aj)).keeps hk
theorem YL.move {V:Vw} {a:TypeId} {k e:Ty} {hole:Bool} {cells cells':List Value} {i i':Nat} {x:k.den×List e.den} {u:Value} (h:YL V a k e hole cells i x u)
  (c:∀(j:Nat) (z:Value),cells[i*(k.size+1)+j]?=some z→cells'[i'*(k.size+1)+j]?=some z):YL V a k e hole cells' i' x u :=
 let ⟨c1,v,h1,b⟩:=h
 ⟨c1,v,fun j z d=>c j z (h1 j z d),b⟩
theorem Wi {V V':Vw} {et I A:TypeId} {k e:Ty} {xs ys:List (k.den×List e.den)} {o H z:Value} {ins g cells n:List Value} (h1:LY V et A k e xs none o ins cells) (q:LY V I A k e ys none H g n)
  (t:∀b,bk (.tuple (o :: ins).toArray) b→bk (.tuple (H :: g).toArray) b→False)
  (M:V'.w.ownsRow 0 et (k.size+1) z (xs.length+ys.length) (cells++n)) (N:blk z=blk o∨∀b,blk z=some b→V.w.heap.size≤b)
  (B:∀b,b<V.w.heap.size→blk o≠some b→V'.w.heap[b]?=V.w.heap[b]?) (hk:CR ⟨V.w,V.O,fun _=>False,V.ρ⟩ V') (K:xs.length+ys.length≤AO) :
  LY V' et A k e (xs++ys) none z (ins++g) (cells++n):=by
 have J:cells.length=xs.length*(k.size+1):=h1.own.1;have C:∀(i b:Nat) (u:Value),ins[i]?=some u→blk u=some b→b<V.w.heap.size:=fun i b u hi c=>h1.block_lt (A7.2 (.inr ⟨i,u,hi,c⟩));have D:∀(i b:Nat) (u:Value),g[i]?=some u→blk u=some b→b<V.w.heap.size:=fun i b u hi c=>q.block_lt (A7.2 (.inr ⟨i,u,hi,c⟩));have F:∀(i b:Nat) (u:Value),g[i]?=some u→blk u=some b→blk o≠some b:=fun i b u hi c L=>t b (A7.2 (.inl L)) (A7.2 (.inr ⟨i,u,hi,c⟩));have r:∀(i:Nat) (u:Value),(ins++g)[i]?=some u→(i<xs.length∧ins[i]?=some u)∨(xs.length≤i∧g[i-xs.length]?=some u):=by
  intro i u hi;rw[AAo]at hi;split at hi
  ·rename_i h;rw[h1.len]at h;exact .inl ⟨h,hi⟩
  ·rename_i h;rw[h1.len]at h hi;exact .inr ⟨by omega,hi⟩
 have E:∀b,blk z=some b→(∃(i:Nat) (u:Value),ins[i]?=some u∧blk u=some b)∨(∃(i:Nat) (u:Value),g[i]?=some u∧blk u=some b)→False:=by
  intro b c hi;rcases N with d|d
  ·rw[d]at c;rcases hi with ⟨i,u,a,f⟩|⟨i,u,a,f⟩
   ·exact h1.out i b u a f c
   ·exact F i b u a f c
  ·have:=d b c;rcases hi with ⟨i,u,a,f⟩|⟨i,u,a,f⟩
   ·have:=C i b u a f;omega
   ·have:=D i b u a f;omega
 refine⟨by rw[IN];exact K,by rw[IN,IN,h1.len,q.len],by rw[IN];exact M,fun i x u m hu=>?_,fun i j b u v hi l hu s=>?_,fun i b u hi c G=>?_⟩
 ·rcases r i u hu with ⟨d,a⟩|⟨d,a⟩
  ·have m:xs[i]?=some x:=by rwa [oS d]at m
   have y:=(h1.row i x u m a).move (cells':=cells++n) (i':=i) fun j z l=>by
    rw[oS (Ro.1 l).1];exact l
   exact YL.keeps (V:=⟨V.w,V.O,fun _=>False,V.ρ⟩) hk (fun b c=>B b (C i b u a c) (h1.out i b u a c)) y
  ·have m:ys[i-xs.length]?=some x:=by rwa [AA4 d]at m
   have y:=(q.row _ x u m a).move (cells':=cells++n) (i':=i) fun j z l=>by
    have f:i*(k.size+1)=cells.length+(i-xs.length)*(k.size+1):=by
     rw[J,←ABA];congr 1;omega
    rw[AA4 (by omega),f,←l]
    congr 1
    omega
   exact YL.keeps (V:=⟨V.w,V.O,fun _=>False,V.ρ⟩) hk (fun b c=>B b (D _ b u a c) (F _ b u a c)) y
 ·rcases r i u hi with ⟨d,a⟩|⟨d,a⟩<;>rcases r j v l with ⟨f,p⟩|⟨f,p⟩
  ·exact h1.dist i j b u v a p hu s
  ·exact(t b (A7.2 (.inr ⟨i,u,a,hu⟩)) (A7.2 (.inr ⟨_,v,p,s⟩))).elim
  ·exact(t b (A7.2 (.inr ⟨j,v,p,s⟩)) (A7.2 (.inr ⟨_,u,a,hu⟩))).elim
  ·have:=q.dist _ _ b u v a p hu s;omega
 ·rcases r i u hi with ⟨d,a⟩|⟨d,a⟩
  ·exact E b G (.inl ⟨i,u,a,c⟩)
  ·exact E b G (.inr ⟨_,u,a,c⟩)
theorem w3 (V:Vw) (et a:TypeId) (k e:Ty):LY V et a k e [] none (.slice none 0 0) [] [] :=
 ⟨by simp[AO],rfl,ABz V.w 0 et _,fun i x u h=>by simp at h,fun i j b u v h=>by simp at h,fun i b u h=>by simp at h⟩
theorem JA {w:World} {base:Nat} {et:TypeId} {sz d n:Nat} {loc v:Value} {cells:List Value} (b:w.ownsRow base et sz loc n cells) (h:DE loc d 0 n v):v=loc:=by
 obtain⟨a,m,c,rfl,_,_,e,f,rfl,_,h0,_⟩:=h;obtain⟨rfl,rfl⟩:=h0 rfl;rw[Kt b,ACk]
theorem A2N {w:World} {O:Nat→Prop} {et:TypeId} {e:Ty} {xs:List e.den} {loc:Value} {cells:List Value} (d:xs.length≤AO) (a:w.ownsRow 0 et e.size loc xs.length cells) (c:Dp w O e cells xs):Src w O e loc xs cells:=by
 refine⟨?_,a.1,c,Wd (V:=⟨w,O,fun _=>False,fun _=>undef⟩) a c,d⟩;rcases a.2 with ⟨b,hn⟩|⟨g,cap,f,b,_⟩
 ·exact⟨none,0,by rw[b,hn],.inl (So hn)⟩
 ·subst b;exact⟨some ⟨g,0,none⟩,cap,rfl,.inr ⟨_,rfl,a.cells (g:=g) rfl⟩⟩
theorem PW {V:Vw} {et a:TypeId} {k e:Ty} {xs:List (k.den×List e.den)} {o:Value} {ins cells:List Value} (h:LY V et a k e xs none o ins cells):Src V.w (fun _=>False) (.agg (.prod k (.slice e))) o xs cells :=
 A2N (e:=.agg (.prod k (.slice e))) (xs:=xs) h.max h.own (OA (fun _ _ h=>h) h fun _ _ _ _ _ h=>h)
theorem Qv {V:Vw} {et c:TypeId} {k e:Ty} {xs:List (k.den×List e.den)} {a:Option Nat} {loc:Value} (b:A3 V (.nest et c k e xs a) loc):seat loc:=by
 obtain⟨o,ins,cells,a,_⟩:=b;exact a.elim (fun h=>.inr ⟨_,h⟩) (fun h=>.inl ⟨_,_,_,h.1⟩)
theorem w4 (hs:Bm w0 K O0 nt ds σ ρ a w) (U:∀b,K b→b<w0.heap.size) (W:∀b,O0 b→b<w0.heap.size) (hT:DF P tb) {d:Nat} (X:d<nt) {t ty:TypeId} {x y:Operand} {n m hi D:Nat} {E B:Ty} {k e:Ty}
  (f:Ah σ x=some (.sr n E 0 hi)) (g:Ah σ y=some (.sr m B 0 D)) {et S A:TypeId} {xs ys:List (k.den×List e.den)} (hn:lk n σ.objs=some (.nest et A k e xs none)) (s:lk m σ.objs=some (.nest S A k e ys none)) (ad:n≠m)
  (Z:GS n=false) (Y:GS m=false) (hu:P.underlying t=some (.slice et)) {te:TI} (L:lk et tb.ty=some te) (M:te.ty=.agg (.prod k (.slice e))) (ah:hi=xs.length) (ai:D=ys.length) (N:(xs.length+ys.length)*te.bytes≤AO) :
  ∃z w' ρ',(Builtin.append_ #[t,t] ty #[a.eval x,a.eval y]).run P w=.ok z w' ∧
   Bm w0 K O0 nt ds ⟨(d,.sr n (.agg (.prod k (.slice e))) 0 (xs.length+ys.length)) :: BT [n,m] σ.env,(n,.nest et A k e (xs++ys) none) :: Af [n,m] [n,m] σ.objs⟩ ρ' (a.put (some d) z) w':=by
 subst ah ai;have C:GH (vw w O0 σ ρ) σ a.eval:=Du hs.env;have G:=hs.objs n _ hn;have H:=hs.objs m _ s;have af:=Qv G;have ag:=Qv H;obtain⟨o,ins,cells,p,l⟩:=G;obtain⟨al,Q,R,v,q⟩:=H;obtain⟨_,f⟩:=C x _ f;obtain⟨_,g⟩:=C y _ g;have f:DE (plc (ρ n)) E.size 0 xs.length (a.eval x):=f;have g:DE (plc (ρ m)) B.size 0 ys.length (a.eval y):=g;rw[p.plc]at f;rw[v.plc]at g;have f:=JA l.own f;have g:=JA q.own g;rw[f,g];obtain⟨z,w',J,I,h,aa⟩:=GX (ty:=ty) hT hu L M l.own (PW q) N (Is _);have O:=Hl (ty:=ty) hT hu L M l.own (PW q) N J;rw[Sv l.own]at h;refine⟨z,w',_,J,hs.swap1 (loc:=.tuple (z :: (ins++Q)).toArray) U W (tl:=[n,m]) (fun j F=>?_) (.inl (by simp)) h.os h.tape h.output h.size ?_ ?_ ?_ X ?_⟩
 ·simp only[By,List.not_mem_nil,or_false]at F;rcases F with rfl|rfl
  ·exact⟨Z,_,hn,af⟩
  ·exact⟨Y,_,s,ag⟩
 ·exact fun b c ae=>h.block b c fun r=>ae n (by simp) (p.bk.2 (A7.2 (.inl r.symm)))
 ·intro b c;rcases A7.1 c with c|⟨i,u,hi,c⟩
  ·rcases O with h1|h1
   ·exact .inl ⟨n,by simp,p.bk.2 (A7.2 (.inl (by rw[←h1];exact c)))⟩
   ·exact .inr (h1 b c)
  ·rw[AAo]at hi;split at hi
   ·exact .inl ⟨n,by simp,p.bk.2 (A7.2 (.inr ⟨_,u,hi,c⟩))⟩
   ·exact .inl ⟨m,by simp,v.bk.2 (A7.2 (.inr ⟨_,u,hi,c⟩))⟩
 ·intro V' aj hk;subst aj;refine⟨z,ins++Q,cells++R,.inl rfl,Wi l q (fun b h1 T=>?_) I O (fun b c ab=>h.block b c fun r=>ab r.symm) hk aa⟩;exact ad (hs.dist n m b ⟨_,hn⟩ ⟨_,s⟩ (p.bk.2 h1) (v.bk.2 T))
 ·intro V' V ak;refine⟨V,?_⟩;show DE (plc (V'.ρ n)) _ 0 _ z;rw[ak];exact Fb I
theorem A2O (hs:Bm w0 K O0 nt ds σ ρ a w) (O:∀b,K b→b<w0.heap.size) (R:∀b,O0 b→b<w0.heap.size) (hT:DF P tb) {d:Nat} (S:d<nt) {t ty:TypeId} {x y:Operand} {m v:Nat} {q:Ty} {k e:Ty}
  (o:Ah σ x=some (.raw (.slice none 0 0))) (f:Ah σ y=some (.sr m q 0 v)) {et N p:TypeId} {ys:List (k.den×List e.den)} (B:lk m σ.objs=some (.nest N p k e ys none)) (T:lk d σ.objs=none)
  (U:GS m=false) (hu:P.underlying t=some (.slice et)) {te:TI} (G:lk et tb.ty=some te) (H:te.ty=.agg (.prod k (.slice e))) (Y:v=ys.length) (I:ys.length*te.bytes≤AO) :
  ∃z w' ρ',(Builtin.append_ #[t,t] ty #[a.eval x,a.eval y]).run P w=.ok z w' ∧
   Bm w0 K O0 nt ds ⟨(d,.sr d (.agg (.prod k (.slice e))) 0 ys.length) :: BT [m] σ.env,(d,.nest et p k e ys none) :: Af [m] [m] σ.objs⟩ ρ' (a.put (some d) z) w':=by
 subst Y;have s:GH (vw w O0 σ ρ) σ a.eval:=Du hs.env;have C:=hs.objs m _ B;have X:=Qv C;obtain⟨ae,L,M,F,l⟩:=C;have o:a.eval x=.slice none 0 0:=s x _ o;obtain⟨_,f⟩:=s y _ f;have f:DE (plc (ρ m)) q.size 0 ys.length (a.eval y):=f;rw[F.plc]at f;have f:=JA l.own f;rw[o,f];have h:=w3 (vw w O0 σ ρ) et p k e;obtain⟨z,w',E,D,g,V⟩:=GX (ty:=ty) hT hu G H h.own (PW l) (by simpa using I) (Is _);have J:=Hl (ty:=ty) hT hu G H h.own (PW l) (by simpa using I) E;rw[Sv h.own]at g;refine⟨z,w',_,E,hs.swap1 (loc:=.tuple (z :: ([]++L)).toArray) O R (tl:=[m]) (fun j A=>?_) (.inr T) g.os g.tape g.output g.size ?_ ?_ ?_ S ?_⟩
 ·simp only[By,List.not_mem_nil,or_false]at A;subst A;exact⟨U,_,B,X⟩
 ·exact fun b c ad=>g.block b c fun n=>by simp[blk]at n
 ·intro b c;rcases A7.1 c with c|⟨i,u,hi,c⟩
  ·rcases J with h1|h1
   ·rw[h1]at c;simp[blk]at c
   ·exact .inr (h1 b c)
  ·exact .inl ⟨m,by simp,F.bk.2 (A7.2 (.inr ⟨_,u,by simpa using hi,c⟩))⟩
 ·intro V' Z hk;subst Z;refine⟨z,[]++L,[]++M,.inl rfl,?_⟩;have:=Wi h l (fun b h1 ab=>?_) D J (fun b c W=>g.block b c fun n=>W n.symm) hk V
  ·simpa using this
  ·rw[A7]at h1;simp[blk]at h1
 ·intro V' Q aa;refine⟨Q,?_⟩;show DE (plc (V'.ρ d)) _ 0 _ z;rw[aa];have r:=Fb D;simp only[AAN,AAM]at r;exact r
theorem kD (hs:Bm w0 K O0 nt ds σ ρ a w) (s:∀b,K b→b<w0.heap.size) (A:∀b,O0 b→b<w0.heap.size) (hT:DF P tb) {d:Option Nat} (B:∀k,d=some k→k<nt) {t u ty:TypeId} {x y:Operand}
  (h:Cz tb σ d t u (Ah σ x) (Ah σ y)=some (vc,σ')) (q:vc) :
  ∃z w' ρ',(Builtin.append_ #[t,u] ty #[a.eval x,a.eval y]).run P w=.ok z w'∧Bm w0 K O0 nt ds σ' ρ' (a.put d z) w':=by
 by_cases M:∃n e hi,Ah σ x=some (.sr n e 0 hi)∧Cb (lk n σ.objs)=false
 ·exact kC hs s A hT B h q M
 unfold Cz at h;split at h
 ·rename_i n e hi v j r;split at h
  ·rename_i d;split at h
   ·rename_i p;obtain⟨rfl,I⟩:=p;cases f:lk t tb.ty with
    | none=>rw[f]at h;simp[EC]at h
    | some ti =>
     rw[f]at h;unfold EC at h;split at h
     ·rename_i Q offs el b F;cases F;split at h
      ·rename_i G;subst G;obtain⟨hu,N,te,g,o⟩:=CD (hT _ _ f) hT;rw[g]at h;unfold CQ at h;split at h
       ·rename_i ti et L xs h1 hn;exact absurd ⟨n,_,hi,j,by rw[hn];rfl⟩ M
       ·rename_i ti et O k L xs h1 hn;cases h1;split at h
        ·rename_i c;obtain⟨rfl,rfl⟩:=c;unfold O8 at h;split at h
         ·rename_i m E V;unfold Ko at h;split at h
          ·rename_i S ad aa R ys J;split at h
           ·rename_i c;obtain⟨rfl,W,H⟩:=c;cases D:BO (.slice (.agg (.prod k (.slice L)))) ⟨.slice (.agg (.prod aa (.slice R))),ys⟩ with
            | none=>rw[D]at h;simp[Ji]at h
            | some af =>
             obtain⟨l,T⟩:=Bi D;injection l with l
             injection l with l C
             injection C with C
             subst l C;cases T;rw[D]at h;simp only[Ji]at h;cases h;obtain⟨X,Y,Z⟩:=q;exact w4 hs s A hT (B _ rfl) j r hn J W I H hu g o X Y Z
           ·cases h
          ·cases h
         ·cases h
        ·cases h
       ·cases h
      ·cases h
     ·cases h
   ·cases h
  ·cases h
 ·rename_i n e i len v j r;split at h
  ·rename_i d;split at h
   ·rename_i p;subst p;cases f:lk t tb.ty with
    | none=>rw[f]at h;simp[Lu]at h
    | some ti =>
     rw[f]at h;unfold Lu at h;split at h
     ·rename_i Q offs el b F;cases F;split at h
      ·rename_i G;subst G;obtain⟨hu,N,te,g,o⟩:=CD (hT _ _ f) hT;rw[g]at h;unfold Nb at h;split at h
       ·rename_i ti et O k ab xs h1 hn;cases h1;split at h
        ·rename_i c;obtain⟨rfl,rfl,I⟩:=c;exact A2M hs s A hT (B _ rfl) j r hn I hu g o h q
        ·cases h
       ·cases h
      ·cases h
     ·cases h
   ·cases h
  ·cases h
 ·rename_i v j r;split at h
  ·rename_i d;split at h
   ·rename_i p;subst p;unfold WG at h;split at h
    ·rename_i m E V ae offs el b f;obtain⟨hu,N,te,g,o⟩:=CD (hT _ _ f) hT;rw[g]at h;unfold Nf at h;split at h
     ·rename_i ti S O k e ys h1 J;cases h1;split at h
      ·rename_i c;subst c;unfold Nc at h;split at h
       ·rename_i c;obtain⟨U,H⟩:=c;cases h;exact A2O hs s A hT (B _ rfl) j r J (by simpa using U) H hu g o q.1 q.2
       ·cases h
      ·cases h
     ·cases h
    ·cases h
   ·cases h
  ·cases h
 ·cases h
theorem kE (hs:Bm w0 K O0 nt ds σ ρ a w) (o:∀b,K b→b<w0.heap.size) (B:∀b,O0 b→b<w0.heap.size) (hT:DF P tb) {id:TypeId} {x y:Operand} (h:HH σ (lk id tb.ty) (Ah σ x) (Ah σ y)=some (vc,σ')) (r:vc) :
  ∃w' ρ',(Instr.storeAt id (a.eval x) (a.eval y)).run P w=.ok () w'∧Bm w0 K O0 nt ds σ' ρ' a w':=by
 by_cases q:∃n e i g off,Ah σ x=some (.ep n e i g off)∧Cb (lk n σ.objs)=true
 ·obtain⟨n,e,i,g,off,d,p⟩:=q;unfold HH at h;split at h
  ·rename_i f _;rw[d]at f;cases f
  ·rename_i ti Q L i' S R v H f J;rw[d]at f;cases f;unfold DM at h;split at h
   ·rename_i hn;rw[hn]at p;cases p
   ·rename_i et N k M xs j hn;split at h
    ·rename_i m E hi;split at h
     ·rename_i c;obtain⟨rfl,rfl,A⟩:=c;subst A;unfold Kp at h;split at h
      ·rename_i c;obtain⟨I,rfl,rfl⟩:=c;unfold Kn at h;split at h
       ·rename_i O s ys G;split at h
        ·rename_i c;obtain⟨rfl,D,F⟩:=c;cases l:BO (.slice E) ⟨.slice s,ys⟩ with
         | none=>rw[l]at h;simp[Jh]at h
         | some T =>
          obtain⟨t,u⟩:=Bi l;subst t;cases u;rw[l]at h;simp only[Jh]at h;cases h;exact wZ hs o B hT H I d J hn G F D r
        ·cases h
       ·cases h
      ·cases h
     ·cases h
    ·cases h
   ·cases h
  ·cases h
 ·obtain⟨w',h1,z⟩:=sH (P:=P) hs o hT (fun n e i g off d=>by
   cases C:Cb (lk n σ.objs) with
   | false=>rfl
   | true=>exact absurd ⟨n,e,i,g,off,d,C⟩ q) h r
  exact⟨w',ρ,h1,z⟩
end
end
end Go.Proofs.YtdapahgnpbehbaaGreat.Fw
