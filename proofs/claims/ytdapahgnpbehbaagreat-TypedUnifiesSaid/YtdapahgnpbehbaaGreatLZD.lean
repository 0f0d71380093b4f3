/- Calls by contract; stores; appends. -/
import Derived.Test.YtdapahgnpbehbaaGreatLZC
import Derived.CallsIn
import Derived.TacticsIn
import Derived.OrdersIn
import Derived.RangeFuncCalls
set_option linter.unusedVariables false
set_option linter.unusedSimpArgs false
namespace Go.Proofs.YtdapahgnpbehbaaGreat.Fw
section
open Go Go.RowKit
abbrev ACn:=@Go.MapKept.heap_set
abbrev ACH:=@Go.Oper.uponIn_enter
def R4 (w:World) (O:Nat→Prop):(ts:List Ty)→List Value→Ku ts→Prop
 | [],a,_=>a=[]
 | t :: ts,a,ds=>∃(v:Value) (r:List Value),a=v :: r∧Bb w O t v ds.1∧R4 w O ts r ds.2
def FR (r:Option Nat):Fence:={ fn:=fun _=>True,depth:=none,alive:=false,round:=r }
theorem K8 {r:Option Nat} {n:Nat} {P:Program} {f:FuncId} {args:Array Value} {w:World} {R:Ending→World→Prop} (h:Calls P f args w R):CallsIn (FR r) n P f args w R:=by
 cases r with
 | none=>exact callsIn_wide.2 h
 | some l=>exact((callsIn_wide.2 h:CallsIn Fence.wide n P f args w R).inRound l:CallsIn _ n P f args w R)
theorem Fk (r:Option Nat) (ρ:Operand→Value) (o:Oper) (h:∀c,o.op≠.defer c):o.semAt r ρ=execOp ρ o:=by
 cases r with
 | none=>exact Oper.semAt_none ρ o
 | some l=>exact Oper.semAt_some l ρ o h
def yU (w:World) (O:Nat→Prop) (a:List RV) (u:Value) (w':World):Prop :=
 ∀nm:Nat,∃ρ',QS w O ⟨[],[]⟩ (fun _=>undef) (JH nm a) (Cr nm a) u ρ' w'
def A6m (P:Program) (f:FuncId) (sp:Ad):Prop :=
 ∀(w:World) (O:Nat→Prop) (a:List Value) (ds:Ku sp.ins),(∀b,O b→b<w.heap.size)→R4 w O sp.ins a ds→sp.pre ds →
  Calls P f a.toArray w fun e w'=>∃u,e=.returned u∧yU w O (sp.out ds) u w'
def Ag (P:Program) (f:FuncId) (sp:Ad):Prop :=
 (∃ fn : Func, P.funcs[f]? = some fn ∧ (fn.name == "runtime.NumGoroutine") = false ∧ fn.body.isNone = false) ∧ A6m P f sp
def JM (P:Program) (tb:Tb):Prop:=∀f sp,lk f tb.fns=some sp→Ag P f sp
theorem KN {w w':World} {O O':Nat→Prop}:∀ {t:Ty} {cs:List Value} {d:t.den},t.flat=true→Bq w O t cs d→Bq w' O' t cs d
 | .int _,_,_,_,h=>h
 | .bool,_,_,_,h=>h
 | .str,_,_,_,h=>h
 | .ref _,_,_,_,h=>h
 | .slice _,_,_,hf,_=>by simp[Ty.flat]at hf
 | .prod a b,_,_,hf,h=>by
  simp only[Ty.flat,As]at hf;obtain⟨c1,c2,rfl,h1,c⟩:=h;exact⟨c1,c2,rfl,KN hf.1 h1,KN hf.2 c⟩
 | .agg t,cs,d,hf,h=>by
  simp only[Ty.flat]at hf;have h:Bq w O t cs d:=h;exact(KN hf h:Bq w' O' t cs d)
theorem Wz {w w':World} {O O':Nat→Prop} {t:Ty} {v:Value} {d:t.den} (hf:t.flat=true) (h:Bb w O t v d):Bb w' O' t v d :=
 let ⟨cs,h1,a⟩:=h
 ⟨cs,KN hf h1,a⟩
theorem R5:∀ {l:List RV} (nm:Nat),l.all RV.flat=true→Cr nm l=[]
 | [],_,_=>rfl
 | .p t d :: l,nm,h=>by
  simp only[ABh,As]at h;simp[Cr,O9,R5 (nm+10000) h.2]
 | .own _ _ _ :: l,nm,h=>by simp[RV.flat]at h
theorem yV {r:RV} (h:r.flat=true) (nm:Nat):∃t d,Yj nm r=.p t d∧t.flat=true:=by
 cases r with
 | p t d=>exact⟨t,d,rfl,h⟩
 | own _ _ _=>simp[RV.flat]at h
theorem yW {V V':Vw}:∀ {l:List RV} {nm:Nat} {a:List Value},l.all RV.flat=true→KJ V (MA nm l) a→KJ V' (MA nm l) a
 | [],_,_,_,h=>h
 | r :: l,nm,a,hf,h=>by
  simp only[ABh,As]at hf;obtain⟨v,f,rfl,h1,b⟩:=h;obtain⟨t,d,e,c⟩:=yV hf.1 nm;refine⟨v,f,rfl,?_,yW hf.2 b⟩;rw[e]at h1 ⊢;exact Wz c h1
theorem yX {V V':Vw} {l:List RV} {nm:Nat} {u:Value} (hf:l.all RV.flat=true) (h:B1 V (JH nm l) u):B1 V' (JH nm l) u:=by
 match l,hf,h with
 | [],_,h=>exact h
 | [r],hf,h =>
  simp only[ABh,List.all_nil,Bool.and_true]at hf;obtain⟨t,d,e,a⟩:=yV hf nm;simp only[JH]at h ⊢;rw[e]at h ⊢;exact Wz a h
 | c :: f :: l,hf,h =>
  obtain⟨b,rfl,h1⟩:=h;exact⟨b,rfl,yW hf h1⟩
section
variable {P:Program} {tb:Tb} {w:World} {O0:Nat→Prop} {σ:St} {ρ:Nat→Value} {vc:Prop} {v:AV} {obs:List (Nat×Obj)}
theorem QS.call {c:List RV} {nm:Nat} {u:Value} {ρ':Nat→Value} {w':World} (hf:Bd (Cr nm c) σ=true)
  (h:QS w (own O0 σ ρ) ⟨[],[]⟩ (fun _=>undef) (JH nm c) (Cr nm c) u ρ' w') :
  QS w O0 σ ρ (JH nm c) (Cr nm c) u (fun n=>if (lk n (Cr nm c)).isSome then ρ' n else ρ n) w':=by
 have f:∀n,Gt (Ec ⟨[],[]⟩ (Cr nm c)) n↔∃o,lk n (Cr nm c)=some o:=fun n=>by simp[Gt,Ec]
 have hk:CW (vw w' (own O0 σ ρ) (Ec ⟨[],[]⟩ (Cr nm c)) ρ') (vw w' O0 (Ec σ (Cr nm c)) (fun n=>if (lk n (Cr nm c)).isSome then ρ' n else ρ n)):=by
  refine⟨?_,?_,?_,fun _ _ _=>rfl⟩
  ·intro b _ d e;rcases e with h0|⟨n,i,hn⟩
   ·exact d (.inl (.inl h0))
   ·rcases ME i with ⟨o,a⟩|⟨k,j⟩
    ·refine d (.inr ⟨n,(f n).2 ⟨o,a⟩,?_⟩);simpa[a] using hn
    ·refine d (.inl (.inr ⟨n,j,?_⟩));simpa[k] using hn
  ·intro n hn;obtain⟨o,a⟩:=(f n).1 hn;exact⟨o,by simp[Ec,A1,a]⟩
  ·intro n hn;obtain⟨o,a⟩:=(f n).1 hn;simp[vw,a]
 refine⟨h.below,fun n hn=>by simp[hn],h.av.keeps hk,fun n o a=>?_,fun n o b a d=>?_,fun n m o l b a g d e=>?_⟩
 ·simp only[a,ACv,AAQ];exact(h.obj n o a).keeps hk (fun _ _=>rfl)
 ·simp only[a,ACv,AAQ]at d;exact h.new n o b a d
 ·simp only[a,g,ACv,AAQ]at d e;exact h.dist n m o l b a g d e
theorem Yt {V:Vw} {O':Nat→Prop} {l:Bool} (c:∀b,¬V.O b→¬O' b) (f:l=true→∀b,¬O' b) (e:∀n o,lk n σ.objs=some o→A2 V o (V.ρ n)) {ev:Operand→Value} (d:GK V σ ev) :
  ∀ {ts:List Ty} {xs:List Operand} {ds:Ku ts},F4 l σ ts xs=some ds→R4 V.w O' ts (xs.map ev) ds
 | [],[],ds,h=>rfl
 | [],_ :: _,ds,h=>by simp[F4]at h
 | _ :: _,[],ds,h=>by simp[F4]at h
 | t :: ts,x :: xs,ds,h=>by
  simp only[F4]at h;cases a:Aj σ x with
  | none=>rw[a]at h;cases h
  | some av =>
   rw[a]at h;simp only at h;split at h
   ·rename_i y ys g i;cases h;exact⟨ev x,xs.map ev,rfl,KM c f e g (d x av a),Yt c f e d i⟩
   ·cases h
theorem A6n (H:JM P tb) (z:∀n o,lk n σ.objs=some o→A2 (vw w O0 σ ρ) o (ρ n)) (M:∀b,own O0 σ ρ b→b<w.heap.size) {a:Act} (m:GK (vw w O0 σ ρ) σ a.eval) {d:Nat} {xs:List Operand} {g:Operand}
  {o:Oper} {ts:Array TypeId} (y:o.op=.call { callee:=.value g,args:=xs.toArray,argTypes:=ts })
  (h:Lk tb σ d xs (Aj σ g)=some (vc,v,obs)) (B:vc) (hf:Bd obs σ=true) {next:Act→World→Prop} {Q:Exit→Act→World→Prop} {r:Option Nat}
  (hn:∀u ρ' w',QS w O0 σ ρ v obs u ρ' w'→next (a.put o.dst u) w'):o.wpIn (FR r) 0 P a w next Q:=by
 cases p:Aj σ g with
 | none=>rw[p]at h;simp[Lk]at h
 | some C =>
  rw[p]at h;have J:=m g C p;unfold Lk at h;split at h
  ·rename_i f F;cases F;have I:a.eval g=.func (.func f) #[] #[]:=J;cases t:lk f tb.fns with
   | none=>rw[t]at h;simp[IL]at h
   | some sp =>
    rw[t]at h;simp only[IL]at h;cases i:F4 sp.lend σ sp.ins xs with
    | none=>rw[i]at h;simp[Jo]at h
    | some ds =>
     rw[i]at h;simp only[Jo]at h;split at h
     ·rename_i j;cases h;obtain⟨⟨fn,G,L,E⟩,A⟩:=H f sp t;have N:(execOp a.eval o).run P w=.ok (.enter f (xs.map a.eval).toArray) w:=by
       have h1 : ¬ fn.name = "runtime.NumGoroutine" := by simpa using L
       have D:¬fn.body=none:=by intro e;simp[e]at E
       simp[execOp,y,resolve,Deferred.ofValue,I,invoke,callFunc,G,h1,D]
      refine⟨fun _ _=>trivial,?_⟩;rw[Fk _ _ _ (fun c e=>by rw[y]at e;cases e),N,ACH];refine⟨fun h=>(by simp[FR]at h),K8 ?_⟩;by_cases q:sp.lend=true
      ·rw[q]at i;have x:(sp.out ds).all RV.flat=true:=by
        rcases j with j|j
        ·rw[q]at j;cases j
        ·exact j
       have l:=Yt (V:=vw w O0 σ ρ) (O':=fun _=>False) (fun _ _ h=>h) (fun _ _ h=>h) z m i;refine(A w (fun _=>False) _ ds (fun _ h=>h.elim) l B).mono fun e w' hh=>?_;obtain⟨u,rfl,s⟩:=hh;obtain⟨ρ',k⟩:=s d;refine hn u ρ w' ?_;rw[R5 d x]at k ⊢;exact⟨k.below,fun _ _=>rfl,yX x k.av,(fun _ _ h=>by cases h),(fun _ _ _ h=>by cases h),(fun _ _ _ _ _ h=>by cases h)⟩
      ·have K:sp.lend=false:=by simpa using q
       rw[K]at i;have l:=Yt (V:=vw w O0 σ ρ) (O':=own O0 σ ρ) (fun _ h=>h) (fun h=>by cases h) z m i;refine(A w (own O0 σ ρ) _ ds M l B).mono fun e w' hh=>?_;obtain⟨u,rfl,s⟩:=hh;obtain⟨ρ',k⟩:=s d;exact hn u _ w' (QS.call hf k)
     ·cases h
  ·cases h
end
end
section
open Go Go.RowKit
section
variable {P:Program} {tb:Tb} {w:World} {O0:Nat→Prop} {σ:St} {ρ:Nat→Value} {vc:Prop} {v:AV} {obs:List (Nat×Obj)}
theorem Aq {o:Oper} {a:Act} {u:Value} {w':World} {next:Act→World→Prop} {Q:Exit→Act→World→Prop} {r:Option Nat} (h:(execOp a.eval o).run P w=.ok (.value u) w') (hn:next (a.put o.dst u) w') (b:∀c,o.op≠.defer c:=by intro c e;cases e):o.wpIn (FR r) 0 P a w next Q:=by
 refine⟨fun _ _=>trivial,?_⟩;rw[Fk _ _ _ b,h];exact hn
theorem yY {V:Vw} (x:Value):B1 V (Gr x) x:=by
 unfold Gr;split
 ·rename_i k n;split
  ·rename_i h;exact BN h
  ·exact(rfl:(Value.int k n)=_)
 ·exact Bi _
 ·rename_i s;split
  ·rename_i h;exact Tk h
  ·exact(rfl:(Value.string s)=_)
 ·exact(rfl:x=x)
theorem D5 {V:Vw} {a:Act} (h:∀s v,lk s σ.env=some v→B1 V v (a.tmps.getD s undef)):GK V σ a.eval:=by
 intro x v b;cases x with
 | tmp t=>exact h t v b
 | const c=>simp only[Aj]at b;cases b;exact yY c
 | global g=>simp[Aj]at b
 | func f=>simp only[Aj]at b;cases b;rfl
structure A7q (P:Program) (tb:Tb) (w:World) (O0:Nat→Prop) (σ:St) (ρ:Nat→Value) (a:Act):Prop where
 hT:DL P tb
 hF:JM P tb
 obj:∀n o,lk n σ.objs=some o→A2 (vw w O0 σ ρ) o (ρ n)
 own:∀b,own O0 σ ρ b→b<w.heap.size
 ev:GK (vw w O0 σ ρ) σ a.eval
theorem QS.toP {d n:Nat} {el:TypeId} {e:Ty} {xs:List e.den} {u:Value} {ρ':Nat→Value} {w':World} (hown:∀b,own O0 σ ρ b→b<w.heap.size) (hf:Bd [(d,.arr el e xs)] σ=true)
  (hq:QS w O0 σ ρ (.sr d e 0 n) [(d,.arr el e xs)] u ρ' w') (hn:n=xs.length):QS w O0 σ ρ (.p (.slice e) xs) [] u ρ w' where
 below:=hq.below
 rho:=fun _ _=>rfl
 av:=by
  have hO:∀b,¬own O0 (Ec σ [(d,.arr el e xs)]) ρ' b→¬own O0 (Ec σ []) ρ b:=by
   intro b hb hb';rcases hb' with h0|⟨m,⟨o,hm⟩,hmb⟩
   ·exact hb (.inl h0)
   ·have hm:lk m σ.objs=some o:=hm;have hne:lk m [(d,Obj.arr el e xs)]=none:=by grind [lk,OD]
    refine hb (.inr ⟨m,⟨o,by simp only[Ec,A1,hne];simpa using hm⟩,?_⟩);rw[hq.rho m hne];exact hmb
  have hd:lk d [(d,Obj.arr el e xs)]=some (.arr el e xs):=by simp[lk]
  have hb:∀b,bk (ρ' d) b→¬own O0 (Ec σ []) ρ b:=fun b hb hb'=>by
   have h1:=hq.new d _ b hd hb;have h2:=hown b hb';omega
  have hr:=Yn (V:=vw w' O0 (Ec σ [(d,.arr el e xs)]) ρ') hO (fun b hb'=>hb b (.inl hb')) (hq.obj d _ hd) hq.av.2;rw[hn,Hl]at hr;obtain⟨_,_,_,_,_,_,a',c',hve,_⟩:=hq.av.2;exact⟨[u],hr,by rw[hve];rfl⟩
 obj:=fun _ _ h=>by cases h
 new:=fun _ _ _ h=>by cases h
 dist:=fun _ _ _ _ _ h=>by cases h
theorem Wd {id:TypeId} {ti:TI} (hT:EJ P tb id ti) (g:DL P tb) (r:∀n o,lk n σ.objs=some o→A2 (vw w O0 σ ρ) o (ρ n)) (z:∀b,own O0 σ ρ b→b<w.heap.size) {ev:Operand→Value} (i:GK (vw w O0 σ ρ) σ ev) {s:Bool} {d n:Nat} {parts:List (Nat×Operand)}
  (h:BQ s σ d n parts (some ti)=some (vc,v,obs)) (f:vc) (hf:Bd obs σ=true) :
  ∃u ρ' w',(Instr.buildSlice id n (parts.map fun p=>(p.1,ev p.2)).toArray).run P w=.ok u w'∧QS w O0 σ ρ v obs u ρ' w':=by
 cases s with
 | false=>exact PT hT g r i h f hf
 | true =>
  unfold BQ at h;split at h
  ·rename_i e offs el b C;cases hp:Ep σ e 0 parts with
   | none=>rw[hp]at h;simp[BX]at h
   | some xs =>
    rw[hp]at h;simp only[BX,AAQ]at h;cases h;obtain⟨a,y⟩:∃a,lk a σ.objs=none:=by
     have:∀l:List (Nat×Obj),∃m,∀k,m≤k→lk k l=none:=by
      intro l;induction l with
      | nil=>exact⟨0,fun _ _=>rfl⟩
      | cons x l B =>
       obtain⟨m,c⟩:=B;refine⟨max m (x.1+1),fun k hk=>?_⟩;have:¬k=x.1:=by omega
       obtain⟨j,o⟩:=x;simp only[lk,this,ABk];exact c k (by omega)
     obtain⟨m,c⟩:=this σ.objs;exact⟨m,c m (Is m)⟩
    have q:Bd [(a,.arr el e xs)] σ=true:=by simp[Bd,y]
    have A:BQ false σ a n parts (some ti)=some (xs.length=n∧n*e.size≤16777216,.sr a e 0 n,[(a,.arr el e xs)]):=by grind [BQ,BX]
    obtain⟨u,ρ',w',h1,t⟩:=PT hT g r i A f q;exact⟨u,ρ,w',h1,t.toP z q f.1.symm⟩
  ·cases h
theorem qA {a:Act} (E:A7q P tb w O0 σ ρ a) {o:Oper} (h:aq tb σ (o.dst.getD 0) o.op=some (vc,v,obs)) (B:vc) (hf:Bd obs σ=true)
  {next:Act→World→Prop} {Q:Exit→Act→World→Prop} {r:Option Nat} (hn:∀u ρ' w',QS w O0 σ ρ v obs u ρ' w'→next (a.put o.dst u) w'):o.wpIn (FR r) 0 P a w next Q:=by
 obtain⟨hT,hF,D,U,k⟩:=E;have O:∀n,(vw w O0 σ ρ).L n→∃o,A2 (vw w O0 σ ρ) o ((vw w O0 σ ρ).ρ n):=fun n ⟨o,aa⟩=>⟨o,D n o aa⟩;obtain⟨dst,op,type,pos,after,guard⟩:=o;simp only at h hn;cases op<;>simp only[aq]at h<;>try(cases h;done)
 case move x =>
  cases d:Aj σ x with
  | none=>rw[d]at h;cases h
  | some xv =>
   rw[d]at h;simp only[GY]at h;cases h;exact Aq (u:=a.eval x) (by simp[execOp]) (hn _ _ _ (QS.still (k x _ d)))
 case assign x =>
  cases d:Aj σ x with
  | none=>rw[d]at h;cases h
  | some xv =>
   rw[d]at h;simp only[GY]at h;cases h;exact Aq (u:=a.eval x) (by simp[execOp]) (hn _ _ _ (QS.still (k x _ d)))
 case pick c x y =>
  cases E:Aj σ c with
  | none=>rw[E]at h;simp[KH]at h
  | some N =>
   rw[E]at h;have S:=k c N E;unfold KH at h;split at h
   ·rename_i F;cases F;have C:=EW S;cases d:Aj σ x with
    | none=>rw[d]at h;simp[GY]at h
    | some xv =>
     rw[d]at h;simp only[GY]at h;cases h;exact Aq (u:=a.eval x) (by simp[execOp,C,asBool]) (hn _ _ _ (QS.still (k x _ d)))
   ·rename_i F;cases F;have C:=EW S;cases q:Aj σ y with
    | none=>rw[q]at h;simp[GY]at h
    | some G =>
     rw[q]at h;simp only[GY]at h;cases h;exact Aq (u:=a.eval y) (by simp[execOp,C,asBool]) (hn _ _ _ (QS.still (k y _ q)))
   ·cases h
 case alloc t =>
  cases e:lk t tb.ty with
  | none=>rw[e]at h;simp[Jl]at h
  | some ti =>
   rw[e]at h;obtain⟨u,ρ',w',h1,j⟩:=A3W (w:=w) (O0:=O0) (ρ:=ρ) (hT _ _ e) h hf;exact Aq (u:=u) (w':=w') (by simp[execOp,h1]) (hn _ _ _ j)
 case box t x =>
  cases e:lk t tb.ty with
  | none=>rw[e]at h;simp[Qq]at h
  | some ti =>
   cases d:Aj σ x with
   | none=>rw[e,d]at h;simp[Qq]at h
   | some xv =>
    rw[e,d]at h;obtain⟨u,ρ',w',h1,j⟩:=A7o (hT _ _ e) h (k x _ d) hf;exact Aq (u:=u) (w':=w') (by simp[execOp,h1]) (hn _ _ _ j)
 case build t parts =>
  cases e:lk t tb.ty with
  | none=>rw[e]at h;simp[ID]at h
  | some ti =>
   rw[e]at h;obtain⟨rfl,u,h1,j⟩:=A3Y (hT _ _ e) D k h;have h1:(Instr.build t (parts.map fun p=>(p.1,a.eval p.2))).run P w=.ok u w:=by
    rw[←h1]
    congr 2
    apply Array.ext';simp
   exact Aq (u:=u) (w':=w) (by simp[execOp,h1]) (hn _ _ _ (QS.still j))
 case buildSlice t n parts =>
  cases T:lk (dst.getD 0) tb.nests with
  | some ai =>
   rw[T]at h;simp only[F5]at h;cases e:lk t tb.ty with
   | none=>rw[e]at h;simp[IG]at h
   | some ti =>
    rw[e]at h;obtain⟨u,ρ',w',h1,j⟩:=A6h (hT _ _ e) hT D k h B hf;have h1:(Instr.buildSlice t n (parts.map fun p=>(p.1,a.eval p.2))).run P w=.ok u w':=by
     rw[←h1]
     congr 2
     grind
    exact Aq (u:=u) (w':=w') (by simp[execOp,h1]) (hn _ _ _ j)
  | none =>
  rw[T]at h;simp only[F5]at h;cases e:lk t tb.ty with
  | none=>rw[e]at h;simp[BQ]at h
  | some ti =>
   rw[e]at h;obtain⟨u,ρ',w',h1,j⟩:=Wd (hT _ _ e) hT D U k h B hf;have h1:(Instr.buildSlice t n (parts.map fun p=>(p.1,a.eval p.2))).run P w=.ok u w':=by
    rw[←h1]
    congr 2
    apply Array.ext';simp
   exact Aq (u:=u) (w':=w') (by simp[execOp,h1]) (hn _ _ _ j)
 case load t x =>
  cases e:lk t tb.ty with
  | none=>rw[e]at h;simp[JJ]at h
  | some ti =>
   cases d:Aj σ x with
   | none=>rw[e,d]at h;simp[JJ]at h
   | some xv =>
    rw[e,d]at h;obtain⟨rfl,u,h1,j⟩:=yL (hT _ _ e) D h (k x _ d);exact Aq (u:=u) (w':=w) (by simp[execOp,h1]) (hn _ _ _ (QS.still j))
 case nilCheck x =>
  cases d:Aj σ x with
  | none=>rw[d]at h;simp[Sj]at h
  | some xv =>
   rw[d]at h;obtain⟨rfl,⟨ad,F⟩,j⟩:=A7n h (k x _ d);exact Aq (u:=a.eval x) (w':=w) (by simp[execOp,F]) (hn _ _ _ (QS.still j))
 case binOp op t x y an =>
  cases d:Aj σ x with
  | none=>rw[d]at h;simp[PJ]at h
  | some xv =>
   cases q:Aj σ y with
   | none=>rw[d,q]at h;cases xv<;>simp[PJ]at h
   | some G =>
    rw[d,q]at h;obtain⟨rfl,h1,u,j,A⟩:=A7j (P:=P) (t:=t) (fun C=>by
     cases e:lk t tb.ty with
     | none=>rw[e]at C;cases C
     | some ti =>
      have h0:=(hT _ _ e).2;rw[e]at C;unfold PI at C;split at C
      ·grind
      ·cases C) w h B (k x _ d) (k y _ q)
    exact Aq (u:=u) (w':=w) (by simp[execOp,h1,j]) (hn _ _ _ (QS.still A))
 case unOp op t x =>
  cases d:Aj σ x with
  | none=>rw[d]at h;cases op<;>simp[xZ]at h
  | some xv =>
   rw[d]at h;obtain⟨rfl,u,j,A⟩:=A9Z (P:=P) w h B (k x _ d);exact Aq (u:=u) (w':=w) (by simp[execOp,j]) (hn _ _ _ (QS.still A))
 case convert s t x =>
  cases hs:lk s tb.ty with
  | none=>rw[hs]at h;simp[JL]at h
  | some am =>
   cases e:lk t tb.ty with
   | none=>rw[hs,e]at h;simp[JL]at h
   | some ti =>
    cases d:Aj σ x with
    | none=>rw[hs,e,d]at h;simp[JL]at h
    | some xv =>
     rw[hs,e,d]at h;obtain⟨rfl,u,j,A⟩:=A6d (P:=P) hT rfl (hT _ _ hs) (hT _ _ e) h B (k x _ d);have j:(convert s t (a.eval x)).run P w=.ok u w:=j;exact Aq (u:=u) (w':=w) (by simp[execOp,j]) (hn _ _ _ (QS.still A))
 case makeSlice t l c =>
  cases e:lk t tb.ty with
  | none=>rw[e]at h;simp[II]at h
  | some ti =>
   cases d:Aj σ l with
   | none=>rw[e,d]at h;simp[II]at h
   | some ak =>
    cases q:Aj σ c with
    | none=>rw[e,d,q]at h;simp[II]at h
    | some N =>
     rw[e,d,q]at h;obtain⟨u,ρ',w',h1,j⟩:=A6i (hT _ _ e) hT h B (k l _ d) (k c _ q) hf;exact Aq (u:=u) (w':=w') (by simp[execOp,h1]) (hn _ _ _ j)
 case slice t x lo hi ae =>
  cases ae with
  | some m =>
   cases lo with
   | some _=>cases hi<;>simp[aq]at h
   | none =>
    cases hi with
    | none=>simp[aq]at h
    | some h1 =>
     simp only[aq]at h;cases e:lk t tb.ty with
     | none=>rw[e]at h;simp[Dk]at h
     | some ti =>
      cases d:Aj σ x with
      | none=>rw[e,d]at h;simp[Dk]at h
      | some xv =>
       cases hh:Aj σ h1 with
       | none=>rw[e,d,hh]at h;simp[Dk]at h
       | some ah =>
        cases J:Aj σ m with
        | none=>rw[e,d,hh,J]at h;simp[Dk]at h
        | some al =>
         rw[e,d,hh,J]at h;obtain⟨rfl,u,j,A⟩:=yQ (P:=P) (V:=vw w O0 σ ρ) (hT _ _ e) hT h B (k x _ d) (k h1 _ hh) (k m _ J);have j:(Instr.sliceAt t (a.eval x) none (some (a.eval h1)) (some (a.eval m))).run P w=.ok u w:=j;exact Aq (u:=u) (w':=w) (by simp[execOp,j]) (hn _ _ _ (QS.still A))
  | none =>
   simp only[aq]at h;cases e:lk t tb.ty with
   | none=>rw[e]at h;simp[FE]at h
   | some ti =>
    cases d:Aj σ x with
    | none=>rw[e,d]at h;simp[FE]at h
    | some xv =>
     have R:∀ {y:Option Operand} {M:Option AV},GP σ y=some M→aM (V:=vw w O0 σ ρ) M (y.map a.eval):=by
      intro y M q;cases y with
      | none=>simp only[GP]at q;cases q;trivial
      | some z =>
       simp only[GP,No]at q;obtain⟨Y,ab,rfl⟩:=q;exact k z Y ab
     cases H:GP σ lo with
     | none=>rw[e,d,H]at h;simp[FE]at h
     | some aj =>
      cases I:GP σ hi with
      | none=>rw[e,d,H,I]at h;simp[FE]at h
      | some ag =>
       rw[e,d,H,I]at h;obtain⟨rfl,u,j,A⟩:=A3V (P:=P) (V:=vw w O0 σ ρ) (hT _ _ e) hT h B (k x _ d) (R H) (R I);have j:(Instr.sliceAt t (a.eval x) (lo.map a.eval) (hi.map a.eval) none).run P w=.ok u w:=j;exact Aq (u:=u) (w':=w) (by simp[execOp,j]) (hn _ _ _ (QS.still A))
 case fieldAddr s x f =>
  cases hs:lk s tb.ty with
  | none=>rw[hs]at h;simp[GZ]at h
  | some ti =>
   cases d:Aj σ x with
   | none=>rw[hs,d]at h;simp[GZ]at h
   | some xv =>
    rw[hs,d]at h;obtain⟨rfl,u,j,A⟩:=A3R (P:=P) (hT _ _ hs) w h (k x _ d);exact Aq (u:=u) (w':=w) (by simp[execOp,j]) (hn _ _ _ (QS.still A))
 case indexAddr t x i =>
  cases e:lk t tb.ty with
  | none=>rw[e]at h;simp[Fa]at h
  | some ti =>
   cases d:Aj σ x with
   | none=>rw[e,d]at h;simp[Fa]at h
   | some xv =>
    cases hi:Aj σ i with
    | none=>rw[e,d,hi]at h;simp[Fa]at h
    | some W =>
     rw[e,d,hi]at h;obtain⟨rfl,u,j,A⟩:=A3S (P:=P) (V:=vw w O0 σ ρ) (hT _ _ e) hT h B (k x _ d) (k i _ hi) O;have j:(Instr.indexAt t (a.eval x) (a.eval i)).run P w=.ok u w:=j;exact Aq (u:=u) (w':=w) (by simp[execOp,j]) (hn _ _ _ (QS.still A))
 case index t x i =>
  cases e:lk t tb.ty with
  | none=>rw[e]at h;simp[Dz]at h
  | some ti =>
   cases d:Aj σ x with
   | none=>rw[e,d]at h;simp[Dz]at h
   | some xv =>
    cases hi:Aj σ i with
    | none=>rw[e,d,hi]at h;simp[Dz]at h
    | some W =>
     rw[e,d,hi]at h;obtain⟨rfl,u,j,A⟩:=yN (P:=P) (hT _ _ e) w h B (k x _ d) (k i _ hi);exact Aq (u:=u) (w':=w) (by simp[execOp,j]) (hn _ _ _ (QS.still A))
 case extract x i =>
  cases d:Aj σ x with
  | none=>rw[d]at h;simp[EE]at h
  | some xv =>
   rw[d]at h;obtain⟨rfl,u,j,A⟩:=tW (P:=P) w h (k x _ d);exact Aq (u:=u) (w':=w) (by simp[execOp,j]) (hn _ _ _ (QS.still A))
 case makeFunc fn first Z =>
  obtain⟨rfl,u,j,A⟩:=A7p (P:=P) k h;have j:(Instr.makeFunc fn (first.map a.eval) (Z.map a.eval)).run P w=.ok u w:=by
   rw[←j]
   congr 2<;>(apply Array.ext';simp)
  exact Aq (u:=u) (w':=w) (by simp[execOp,j]) (hn _ _ _ (QS.still A))
 case makeMap t res =>
  cases res with
  | some z=>simp[aq]at h
  | none =>
   simp only[aq]at h;cases e:lk t tb.ty with
   | none=>rw[e]at h;simp[FI]at h
   | some ti =>
    rw[e]at h;obtain⟨u,ρ',w',h1,j⟩:=t7 (w:=w) (O0:=O0) (ρ:=ρ) (hT _ _ e) h hf;exact Aq (u:=u) (w':=w') (by simp[execOp,h1]) (hn _ _ _ j)
 case lookup t x i ok =>
  cases e:lk t tb.ty with
  | none=>rw[e]at h;simp[IM]at h
  | some ti =>
   cases d:Aj σ x with
   | none=>rw[e,d]at h;simp[IM]at h
   | some xv =>
    cases hi:Aj σ i with
    | none=>rw[e,d,hi]at h;simp[IM]at h
    | some W =>
     rw[e,d,hi]at h;obtain⟨rfl,u,j,A⟩:=A6l (P:=P) (hT _ _ e) hT D h (k x _ d) (k i _ hi);exact Aq (u:=u) (w':=w) (by simp[execOp,j]) (hn _ _ _ (QS.still A))
 case call c =>
  obtain⟨callee,args,argTypes⟩:=c;cases callee with
  | invoke r m=>simp[Cj]at h
  | value g =>
   simp only[Cj]at h;exact A6n hF D U k (xs:=args.toList) (ts:=argTypes) (o:=⟨dst,.call ⟨.value g,args,argTypes⟩,type,pos,after,guard⟩) (by simp) h B hf hn
  | builtin b =>
   simp only[Cj]at h;obtain⟨args⟩:=args;obtain⟨argTypes⟩:=argTypes;simp only at h;unfold Cs at h;split at h
   ·rename_i x t;cases e:lk t tb.ty with
    | none=>rw[e]at h;simp[Qr]at h
    | some ti =>
     cases d:Aj σ x with
     | none=>rw[e,d]at h;simp[Qr]at h
     | some xv =>
      rw[e,d]at h;obtain⟨rfl,u,j,A⟩:=A7k (P:=P) (ty:=type) (V:=vw w O0 σ ρ) O (hT _ _ e) w h (k x _ d);exact Aq (u:=u) (w':=w) (by simp[execOp,resolve,invoke,builtin,j]) (hn _ _ _ (QS.still A))
   ·rename_i x y t u;cases d:Aj σ x with
    | none=>rw[d]at h;simp[Ca]at h
    | some xv =>
     cases q:Aj σ y with
     | none=>rw[d,q]at h;simp[Ca]at h
     | some G =>
      rw[d,q]at h;obtain⟨z,ρ',w',h1,j⟩:=yT (ty:=type) hT D h B (k x _ d) (k y _ q) hf;exact Aq (u:=z) (w':=w') (by simp[execOp,resolve,invoke,builtin,h1]) (hn _ _ _ j)
   ·rename_i x y t u;cases d:Aj σ x with
    | none=>rw[d]at h;simp[PK]at h
    | some xv =>
     cases q:Aj σ y with
     | none=>rw[d,q]at h;simp[PK]at h
     | some G =>
      rw[d,q]at h;obtain⟨rfl,z,h1,j⟩:=A7l (P:=P) (ts:=#[t,u]) (ty:=type) w h (k x _ d) (k y _ q);exact Aq (u:=z) (w':=w) (by simp[execOp,resolve,invoke,builtin,h1]) (hn _ _ _ (QS.still j))
   ·rename_i x y t u;cases d:Aj σ x with
    | none=>rw[d]at h;simp[PM]at h
    | some xv =>
     cases q:Aj σ y with
     | none=>rw[d,q]at h;simp[PM]at h
     | some G =>
      rw[d,q]at h;obtain⟨rfl,z,h1,j⟩:=A7m (P:=P) (ts:=#[t,u]) (ty:=type) w h (k x _ d) (k y _ q);exact Aq (u:=z) (w':=w) (by simp[execOp,resolve,invoke,builtin,h1]) (hn _ _ _ (QS.still j))
   ·rename_i x y X t u af;cases d:Aj σ x with
    | none=>rw[d]at h;simp[IK]at h
    | some xv =>
     cases q:Aj σ y with
     | none=>rw[d,q]at h;simp[IK]at h
     | some G =>
      cases K:Aj σ X with
      | none=>rw[d,q,K]at h;simp[IK]at h
      | some Y =>
       rw[d,q,K]at h;obtain⟨rfl,z,h1,j⟩:=A6e (P:=P) (ts:=#[t,u,af]) (ty:=type) w h (k x _ d) (k y _ q) (k X _ K);exact Aq (u:=z) (w':=w) (by simp[execOp,resolve,invoke,builtin,h1]) (hn _ _ _ (QS.still j))
   ·cases h
end
end
section
open Go Go.RowKit
section
variable {w0:World} {K O0:Nat→Prop} {nt:Nat} {ds:Fp} {σ:St} {ρ:Nat→Value} {a:Act} {w:World}
theorem A40 {n:Nat} {o:Obj} {env:List (Nat×AV)} (m:Nat):Gt ⟨env,upd n o σ.objs⟩ m↔Gt σ m:=by
 constructor
 ·rintro⟨x,a⟩;rw[Ga]at a;split at a
  ·rename_i e;subst e;simp only[No]at a;obtain⟨y,b,_⟩:=a;exact⟨y,b⟩
  ·exact⟨x,a⟩
 ·rintro⟨x,a⟩;by_cases e:m=n
  ·subst e;exact⟨o,by simp[Ga,a]⟩
  ·exact⟨x,by simp[Ga,e,a]⟩
theorem Bn.upd (h:Bn w0 K O0 nt ds σ ρ a w) (A:∀b,K b→b<w0.heap.size) {n:Nat} {o j:Obj} (hn:lk n σ.objs=some o) {g:Nat} (r:blk (ρ n)=some g) {w':World} (c:w.grownBy w' (some g))
  (G:A2 (vw w' O0 σ ρ) j (ρ n)):Bn w0 K O0 nt ds ⟨σ.env,Fw.upd n j σ.objs⟩ ρ a w':=by
 have f:Gt ⟨σ.env,Fw.upd n j σ.objs⟩=Gt σ:=funext fun m=>propext (A40 m);have y:vw w' O0 ⟨σ.env,Fw.upd n j σ.objs⟩ ρ=vw w' O0 σ ρ:=by
  have E:own O0 ⟨σ.env,Fw.upd n j σ.objs⟩ ρ=own O0 σ ρ:=by
   funext b;simp only[own,f]
  simp only[vw,f,E]
 have C:own O0 σ ρ g:=.inr ⟨n,⟨o,hn⟩,.inl r⟩;have hk:CW (vw w O0 σ ρ) (vw w' O0 σ ρ):=⟨fun _ _ h=>h,fun _ h=>h,fun _ _=>rfl,fun b D B=>c.block b D (fun e=>by injection e with e;subst e;exact B C)⟩;refine⟨⟨c.os.trans h.frm.os,c.tape.trans h.frm.tape,c.output.trans h.frm.output,TO h.frm.size c.size,fun k t=>?_⟩,h.nt,h.defers,fun p hp=>by rw[f];exact h.pin p hp,?_,?_,?_,?_⟩
 ·refine(c.block k (AAJ (A k t) h.frm.size) (fun e=>?_)).trans (h.frm.block k t);injection e with e
  subst e;exact(h.free n k ⟨o,hn⟩ (.inl r)).1 t
 ·intro m x i;rw[y];rw[Ga]at i;split at i
  ·grind
  ·rename_i e;refine(h.objs m x i).keeps hk fun b l=>?_;refine c.block b ((h.objs m x i).block_lt l) (fun q=>?_);injection q with q
   subst q;exact e (h.dist m n b ⟨x,i⟩ ⟨o,hn⟩ l (.inl r))
 ·intro m b d l;rw[f]at d;exact h.free m b d l
 ·intro m F b d u h1 z;rw[f]at d u;exact h.dist m F b d u h1 z
 ·intro s v hs;rw[y];exact(h.env s v hs).keeps hk
theorem KO (n s:Nat):∀l:List (Nat×AV),lk s (FY n l)=(lk s l).map (AV.drp n)
 | []=>rfl
 | (j,v) :: l=>by
  simp only[FY,lk];split
  ·rfl
  ·exact KO n s l
def Obj.drp (n:Nat):Obj→Obj
 | .arr et e xs=>.arr et e xs
 | .box et st fs=>.box et st (AV.drps n fs)
 | .mapo k v l=>.mapo k v l
 | .nest et b k e xs h=>.nest et b k e xs h
 | .frame i fs=>.frame i (FY n fs)
 | .loop L=>.loop L
 | .itr c g d f a=>.itr c g d f a
 | .dfr=>.dfr
theorem Bo (n s:Nat):∀l:List (Nat×Obj),lk s (BW n l)=(lk s l).map (Obj.drp n)
 | []=>rfl
 | (j,.arr et e xs) :: l=>by
  simp only[BW,lk];split
  ·rfl
  ·exact Bo n s l
 | (j,.box et st fs) :: l=>by
  simp only[BW,lk];split
  ·rfl
  ·exact Bo n s l
 | (j,.mapo k v x) :: l=>by
  simp only[BW,lk];split
  ·rfl
  ·exact Bo n s l
 | (j,.nest et b k e xs h) :: l=>by
  simp only[BW,lk];split
  ·rfl
  ·exact Bo n s l
 | (j,.frame i fs) :: l=>by
  simp only[BW,lk];split
  ·rfl
  ·exact Bo n s l
 | (j,.loop L) :: l=>by
  simp only[BW,lk];split
  ·rfl
  ·exact Bo n s l
 | (j,.itr c g d f a) :: l=>by
  simp only[BW,lk];split
  ·rfl
  ·exact Bo n s l
 | (j,.dfr) :: l=>by
  simp only[BW,lk];split
  ·rfl
  ·exact Bo n s l
def Vw.but (V:Vw) (n:Nat):Vw:=⟨V.w,V.O,fun m=>V.L m∧m≠n,V.ρ⟩
def seat (v:Value):Prop:=(∃a m c,v=.slice a m c)∨∃b,v=.tuple b
theorem JN {V:Vw} {n:Nat} (hn:seat (V.ρ n)) {x:AV} {v:Value} (h:Tf V x v):Tf (V.but n) (x.drp n) v:=by
 cases x;case sr m e lo hi =>
  simp only[AV.drp];split
  ·trivial
  ·rename_i g;exact⟨⟨h.1,g⟩,h.2⟩
 case ep m e i p off =>
  simp only[AV.drp];split
  ·trivial
  ·rename_i g;exact⟨⟨h.1,g⟩,h.2⟩
 case nin m e i len =>
  simp only[AV.drp];split
  ·trivial
  ·rename_i g;exact⟨⟨h.1,g⟩,h.2⟩
 case bp m p off =>
  simp only[AV.drp];refine⟨⟨h.1,fun e=>?_⟩,h.2⟩;subst e;obtain⟨_,b,d,_⟩:=h;rcases hn with ⟨a,j,c,hs⟩|⟨k,hs⟩<;>(rw[hs]at d;cases d)
 case clo f ns =>
  simp only[AV.drp];refine⟨h.1,fun m o=>?_⟩;obtain⟨h1,b,d⟩:=h.2 m o;refine⟨⟨h1,fun e=>?_⟩,b,d⟩;subst e;rcases hn with ⟨a,j,c,hs⟩|⟨k,hs⟩<;>(rw[hs]at d;cases d)
 case mp m =>
  simp only[AV.drp];refine⟨⟨h.1,fun e=>?_⟩,h.2⟩;subst e;obtain⟨_,b,d,_⟩:=h;rcases hn with ⟨a,j,c,hs⟩|⟨k,hs⟩<;>(rw[hs]at d;cases d)
 case yl m =>
  simp only[AV.drp];refine⟨⟨h.1,fun e=>?_⟩,h.2⟩;subst e;obtain⟨_,b,d,_⟩:=h;rcases hn with ⟨a,j,c,hs⟩|⟨k,hs⟩<;>(rw[hs]at d;cases d)
 case ag l=>exact h.elim
 case tup l=>exact h.elim
 all_goals simp only[AV.drp];exact h
theorem A41 {V:Vw} {n:Nat} (hn:seat (V.ρ n)) {x:AV} {cs:List Value} (h:NZ V x cs):NZ (V.but n) (x.drp n) cs:=by
 cases x;case p t d=>simp only[AV.drp];exact h
 case ag l=>obtain⟨v,_,_,hf⟩:=h;exact hf.elim
 case tup l=>obtain⟨v,_,_,hf⟩:=h;exact hf.elim
 all_goals
  obtain⟨v,rfl,h1,c⟩:=h;have a:=JN hn c;simp only[AV.drp]at a ⊢;first
   | exact⟨v,rfl,h1,a⟩
   | (split at a<;>rename_i b<;>first|(rw[BY b];exact⟨v,rfl,h1,a⟩)|(rw[At b];exact⟨v,rfl,h1,a⟩))
theorem PW {V:Vw} {n:Nat} (hn:seat (V.ρ n)):∀ {l:List AV} {cs:List Value},Db V l cs→Db (V.but n) (AV.drps n l) cs
 | [],cs,h=>(h:cs=[])
 | x :: r,cs,h=>by
  obtain⟨c1,c2,rfl,h1,a⟩:=h;simp only[AV.drps];exact⟨c1,c2,rfl,A41 hn h1,PW hn a⟩
theorem A42 {V:Vw} {n:Nat} (hn:seat (V.ρ n)) {x:AV} {v:Value} (a:Rx V x v):Rx (V.but n) (x.drp n) v:=by
 cases x;case ag l=>obtain⟨cs,h1,b⟩:=a;simp only[AV.drp];exact⟨cs,h1,PW hn b⟩
 all_goals exact Rx.of1 (JN hn a)
theorem aW {V:Vw} {n:Nat} (hn:seat (V.ρ n)):∀ {l:List AV} {a:List Value},KJ V l a→KJ (V.but n) (AV.drps n l) a
 | [],a,h=>(h:a=[])
 | x :: r,a,h=>by
  obtain⟨v,c,rfl,h1,b⟩:=h;simp only[AV.drps];exact⟨v,c,rfl,A42 hn h1,aW hn b⟩
theorem A43 {V:Vw} {x:AV} {v:Value} (h:Tf V x v):B1 V x v:=by
 cases x;case ag l=>exact h.elim
 case tup l=>exact h.elim
 all_goals exact h
theorem qB {V:Vw} {n:Nat} (hn:seat (V.ρ n)) {x:AV} {v:Value} (h:B1 V x v):B1 (V.but n) (x.drp n) v:=by
 cases x;case ag l=>obtain⟨cs,h1,a⟩:=h;simp only[AV.drp];exact⟨cs,h1,PW hn a⟩
 case tup l=>obtain⟨b,h1,a⟩:=h;simp only[AV.drp];exact⟨b,h1,aW hn a⟩
 all_goals exact A43 (JN hn h)
theorem R6 (n:Nat):∀l:List AV,(AV.drps n l).length=l.length
 | []=>rfl
 | _ :: r=>by simp[AV.drps,R6 n r]
theorem A44 {n:Nat} {c:Obj} {env:List (Nat×AV)} (m:Nat):Gt ⟨env,upd n c (BW n σ.objs)⟩ m↔Gt σ m:=by
 constructor
 ·rintro⟨x,a⟩;rw[Ga,Bo,Bo]at a;split at a
  ·rename_i e;subst e;simp only[Option.map_map,No]at a;obtain⟨y,b,_⟩:=a;exact⟨y,b⟩
  ·simp only[No]at a;obtain⟨y,b,_⟩:=a;exact⟨y,b⟩
 ·rintro⟨x,a⟩;by_cases e:m=n
  ·subst e;exact⟨c,by simp[Ga,Bo,a]⟩
  ·exact⟨x.drp n,by simp[Ga,Bo,e,a]⟩
theorem Bn.app (h:Bn w0 K O0 nt ds σ ρ a w) (ae:∀b,K b→b<w0.heap.size) (ar:∀b,O0 b→b<w0.heap.size) {n:Nat} (ai:GX n=false) {et:TypeId} {e:Ty} {xs ys:List e.den} (hn:lk n σ.objs=some (.arr et e xs)) {loc:Value} {w':World} {cells:List Value}
  (E:w.grownBy w' (blk (ρ n))) (U:blk loc=blk (ρ n)∨∀b,blk loc=some b→w.heap.size≤b) (I:ys.length≤AO)
  (Q:w'.ownsRow 0 et e.size loc ys.length cells) (ah:Dv w (own O0 σ ρ) e cells ys) {d:Nat} (ag:d<nt) {hi:Nat} (aj:hi=ys.length) :
  Bn w0 K O0 nt ds ⟨(d,.sr n e 0 hi) :: FY n σ.env,Fw.upd n (.arr et e ys) (BW n σ.objs)⟩ (Ek ρ n loc) (a.put (some d) loc) w':=by
 subst aj;have J:∃a m c,(vw w O0 σ ρ).ρ n=.slice a m c:=by
  obtain⟨_,cells',am,_⟩:=h.objs n _ hn;rcases am.2 with ⟨D,_⟩|⟨g,cap,X,D,_⟩
  ·exact⟨_,_,_,D⟩
  ·exact⟨_,_,_,D⟩
 let σ':St:=⟨(d,.sr n e 0 ys.length) :: FY n σ.env,Fw.upd n (.arr et e ys) (BW n σ.objs)⟩
 have F:∀m,Gt σ' m↔Gt σ m:=fun m=>A44 m;have H:∀b,bk loc b↔blk loc=some b:=fun b=>by
  rcases Q.2 with ⟨D,_⟩|⟨g,cap,X,D,_⟩
  ·rw[D];exact MD
  ·rw[D];exact MD
 have au:∀b,bk (ρ n) b↔blk (ρ n)=some b:=fun b=>by
  obtain⟨aa,ap,c2,t⟩:=J;have t:ρ n=_:=t;rw[t];exact MD
 have ak:∀b,bk loc b→own O0 σ ρ b∨w.heap.size≤b:=by
  intro b f;replace f:=(H b).1 f;rcases U with h1|h1
  ·exact .inl (.inr ⟨n,⟨_,hn⟩,.inl (by rw[←h1];exact f)⟩)
  ·exact .inr (h1 b f)
 have hk:CW ((vw w O0 σ ρ).but n) (vw w' O0 σ' (Ek ρ n loc)):=by
  refine⟨?_,fun m I=>(F m).2 I.1,fun m I=>?_,?_⟩
  ·intro b O f C;rcases C with h0|⟨m,i,N⟩
   ·exact f (.inl h0)
   ·by_cases P:m=n
    ·subst P;rw[Bj]at N;rcases ak b N with h1|h1
     ·exact f h1
     ·have O:b<w.heap.size:=O;omega
    ·have:Ek ρ n loc m=ρ m:=by simp[Ek,P]
     rw[this]at N;exact f (.inr ⟨m,(F m).1 i,N⟩)
  ·have:m≠n:=I.2;show Ek ρ n loc m=ρ m;simp[Ek,this]
  ·intro b O f;exact E.block b O (fun j=>f (.inr ⟨n,⟨_,hn⟩,.inl j.symm⟩))
 refine⟨⟨E.os.trans h.frm.os,E.tape.trans h.frm.tape,E.output.trans h.frm.output,TO h.frm.size E.size,fun k S=>?_⟩,by rw[KL];exact h.nt,by rw[Gb];exact h.defers,fun p hp=>?_,?_,?_,?_,?_⟩
 ·refine(E.block k (AAJ (ae k S) h.frm.size) (fun j=>?_)).trans (h.frm.block k S);exact(h.free n k ⟨_,hn⟩ (.inl j.symm)).1 S
 ·obtain⟨h1,G,B⟩:=h.pin p hp;have aw:p.1≠n:=by
   intro r;obtain⟨aa,ap,c2,t⟩:=J;have t:ρ n=_:=t;rw[←r,G]at t;rw[t]at B;rcases B with B|B
   ·cases B
   ·rw[r,ai]at B;cases B
  grind [Ek]
 ·intro m x u;show A2 (vw w' O0 σ' (Ek ρ n loc)) x (Ek ρ n loc m);rw[Ga]at u;split at u
  ·rename_i j;subst j;rw[Bo,hn]at u;simp only[ABd]at u;cases u;rw[Bj];exact⟨I,cells,Q,ah.keeps (V:=(vw w O0 σ ρ).but m) hk⟩
  ·rename_i j;rw[Bo]at u;simp only[No]at u;obtain⟨y,q,rfl⟩:=u;have:Ek ρ n loc m=ρ m:=by simp[Ek,j]
   rw[this];have f:∀b,bk (ρ m) b→w'.heap[b]?=w.heap[b]?:=fun b C=>by
    refine E.block b ((h.objs m y q).block_lt C) (fun r=>?_);exact j (h.dist m n b ⟨y,q⟩ ⟨_,hn⟩ C (.inl r.symm))
   have A:=h.objs m y q;cases y with
   | arr Z r bc=>exact A2.keeps (V:=(vw w O0 σ ρ).but n) hk f A
   | box Z st fs =>
    obtain⟨h0,b,cs,i,hh,af⟩:=A;exact A2.keeps (V:=(vw w O0 σ ρ).but n) (o:=.box Z st (AV.drps n fs)) hk f ⟨fun an=>by rw[R6];exact h0 an,b,cs,i,hh,PW (.inl J) af⟩
   | mapo k v l=>exact A2.keeps (V:=(vw w O0 σ ρ).but n) hk f A
   | nest et ao k e xs i=>exact A2.keeps (V:=(vw w O0 σ ρ).but n) (o:=.nest et ao k e xs i) hk f (My (V:=vw w O0 σ ρ) (V':=(vw w O0 σ ρ).but n) rfl rfl A)
   | frame aq fs =>
    obtain⟨h0,h1⟩:=A;refine A2.keeps (V:=(vw w O0 σ ρ).but n) (o:=.frame aq (FY n fs)) hk f ⟨h0,fun s z W=>?_⟩;rw[KO]at W;simp only[No]at W;obtain⟨y,q,rfl⟩:=W;exact qB (.inl J) (h1 s y q)
   | loop L=>exact A2.keeps (V:=(vw w O0 σ ρ).but n) hk f A
   | itr ay bb az ba ax=>exact A2.keeps (V:=(vw w O0 σ ρ).but n) hk f A
   | dfr=>exact A2.keeps (V:=(vw w O0 σ ρ).but n) hk f A
 ·intro m b i f;replace i:=(F m).1 i;by_cases j:m=n
  ·subst j;rw[Bj]at f;rcases U with h1|h1
   ·exact h.free m b i (.inl (by rw[←h1];exact(H b).1 f))
   ·have:=h1 b ((H b).1 f);have:=h.frm.size;grind
  ·have:Ek ρ n loc m=ρ m:=by simp[Ek,j]
   rw[this]at f;exact h.free m b i f
 ·have key:∀m b,Gt σ m→m≠n→bk (ρ m) b→bk loc b→False:=by
   intro m b i P f C;rcases U with h1|h1
   ·exact P (h.dist m n b i ⟨_,hn⟩ f (.inl (by rw[←h1];exact(H b).1 C)))
   ·have G:=h1 b ((H b).1 C);obtain⟨y,q⟩:=i;have:=(h.objs m y q).block_lt f;have:b<w.heap.size:=this;omega
  intro m M b i T h1 G;replace i:=(F m).1 i;replace T:=(F M).1 T;by_cases Y:m=n<;>by_cases r:M=n
  ·rw[Y,r]
  ·grind [Ek,Bj]
  ·grind [Ek,Bj]
  ·have ab:Ek ρ n loc m=ρ m:=by simp[Ek,Y]
   have ad:Ek ρ n loc M=ρ M:=by simp[Ek,r]
   rw[ab]at h1;rw[ad]at G;exact h.dist m M b i T h1 G
 ·intro s v hs;show B1 (vw w' O0 σ' (Ek ρ n loc)) v _;rw[K4 a d loc s (by rw[h.nt];exact ag)];simp only[lk]at hs;split at hs
  ·rename_i R;cases hs;rw[BY R];refine⟨(F n).2 ⟨_,hn⟩,?_⟩;show DK (plc (Ek ρ n loc n)) e.size 0 ys.length loc;rw[Bj,Hs Q];rcases Q.2 with ⟨rfl,al⟩|⟨g,cap,X,rfl,_,_,av,_⟩
   ·exact⟨none,0,0,rfl,by omega,by omega,none,0,by rw[al],by omega,fun _=>⟨rfl,rfl⟩,fun h=>by omega⟩
   ·exact⟨some ⟨g,0,none⟩,ys.length,cap,rfl,by omega,by omega,some ⟨g,0,none⟩,cap,by simp,by omega,fun _=>⟨rfl,rfl⟩,fun _=>by simp[Mx]⟩
  ·rename_i R;rw[At R];rw[KO]at hs;simp only[No]at hs;obtain⟨y,q,rfl⟩:=hs;exact(qB (.inl J) (h.env s y q)).keeps hk
end
end
section
open Go Go.RowKit
def Vw.buts (V:Vw) (hs:List Nat):Vw:=⟨V.w,V.O,fun m=>V.L m∧AY m hs=false,V.ρ⟩
theorem Yu {V:Vw} {hs:List Nat} {x:AV} {v:Value} (h:Tf V x v):Tf (V.buts hs) (x.fgt hs) v:=by
 cases x;case clo f ns =>
  simp only[AV.fgt];split
  ·trivial
  ·rename_i a;refine⟨h.1,fun n hn=>⟨⟨(h.2 n hn).1,?_⟩,(h.2 n hn).2⟩⟩;grind
 case ag l=>exact h.elim
 case tup l=>exact h.elim
 case p t d=>simp only[AV.fgt];exact h
 case pc e d=>simp only[AV.fgt];exact h
 case raw u=>simp only[AV.fgt];exact h
 case ip t d=>simp only[AV.fgt];exact h
 case fn f=>simp only[AV.fgt];exact h
 case top=>trivial
 all_goals
  simp only[AV.fgt];split
  ·trivial
  ·rename_i a;exact⟨⟨h.1,by simpa using a⟩,h.2⟩
theorem A45 {V:Vw} {hs:List Nat} {x:AV} {cs:List Value} (h:NZ V x cs):NZ (V.buts hs) (x.fgt hs) cs:=by
 cases x;case p t d=>simp only[AV.fgt];exact h
 case ag l=>obtain⟨v,_,_,hf⟩:=h;exact hf.elim
 case tup l=>obtain⟨v,_,_,hf⟩:=h;exact hf.elim
 all_goals
  obtain⟨v,rfl,h1,c⟩:=h;have a:=Yu (hs:=hs) c;simp only[AV.fgt]at a ⊢;first
   | exact⟨v,rfl,h1,a⟩
   | (split at a<;>rename_i b<;>first|(rw[BY b];exact⟨v,rfl,h1,a⟩)|(rw[At b];exact⟨v,rfl,h1,a⟩))
theorem PX {V:Vw} {hs:List Nat}:∀ {l:List AV} {cs:List Value},Db V l cs→Db (V.buts hs) (AV.fgts hs l) cs
 | [],cs,h=>(h:cs=[])
 | x :: r,cs,h=>by
  obtain⟨c1,c2,rfl,h1,a⟩:=h;simp only[AV.fgts];exact⟨c1,c2,rfl,A45 h1,PX a⟩
theorem A46 {V:Vw} {hs:List Nat} {x:AV} {v:Value} (a:Rx V x v):Rx (V.buts hs) (x.fgt hs) v:=by
 cases x;case ag l=>obtain⟨cs,h1,b⟩:=a;simp only[AV.fgt];exact⟨cs,h1,PX b⟩
 all_goals exact Rx.of1 (Yu a)
theorem aX {V:Vw} {hs:List Nat}:∀ {l:List AV} {a:List Value},KJ V l a→KJ (V.buts hs) (AV.fgts hs l) a
 | [],a,h=>(h:a=[])
 | x :: r,a,h=>by
  obtain⟨v,c,rfl,h1,b⟩:=h;simp only[AV.fgts];exact⟨v,c,rfl,A46 h1,aX b⟩
theorem PY {V:Vw} {hs:List Nat} {x:AV} {v:Value} (h:B1 V x v):B1 (V.buts hs) (x.fgt hs) v:=by
 cases x;case ag l=>obtain⟨cs,h1,a⟩:=h;simp only[AV.fgt];exact⟨cs,h1,PX a⟩
 case tup l=>obtain⟨b,h1,a⟩:=h;simp only[AV.fgt];exact⟨b,h1,aX a⟩
 all_goals exact A43 (Yu h)
theorem DQ (hs:List Nat) (s:Nat):∀l:List (Nat×AV),lk s (BV hs l)=(lk s l).map (AV.fgt hs)
 | []=>rfl
 | (j,v) :: l=>by
  simp only[BV,lk];split
  ·rfl
  ·exact DQ hs s l
theorem R7 (hs:List Nat):∀l:List AV,(AV.fgts hs l).length=l.length
 | []=>rfl
 | _ :: r=>by simp[AV.fgts,R7 hs r]
theorem BS (a hs:List Nat) (n:Nat):∀l:List (Nat×Obj),lk n (Af a hs l)=if AY n a=true then none else (lk n l).map (Obj.fgt hs)
 | []=>by simp[Af,lk]
 | (j,o) :: l=>by
  simp only[Af];by_cases b:AY j a=true
  ·rw[BY b,BS a hs n l];grind [lk]
  ·rw[At b];simp only[lk];by_cases hn:n=j
   ·subst hn;simp[b]
   ·simp[hn,BS a hs n l]
theorem Sz {V V':Vw} {hs:List Nat} (hk:CW (V.buts hs) V') {o:Obj} {loc:Value} (a:∀b,bk loc b→V'.w.heap[b]?=V.w.heap[b]?) (h:A2 V o loc):A2 V' (o.fgt hs) loc:=by
 cases o with
 | arr et e xs=>exact A2.keeps (V:=V.buts hs) hk a h
 | box et st fs =>
  obtain⟨h0,b,cs,c,hh,f⟩:=h;exact A2.keeps (V:=V.buts hs) (o:=.box et st (AV.fgts hs fs)) hk a ⟨fun g=>by rw[R7];exact h0 g,b,cs,c,hh,PX f⟩
 | mapo k v l=>exact A2.keeps (V:=V.buts hs) hk a h
 | nest et j k e xs c=>exact A2.keeps (V:=V.buts hs) (o:=.nest et j k e xs c) hk a (My (V:=V) (V':=V.buts hs) rfl rfl h)
 | frame m fs =>
  obtain⟨h0,h1⟩:=h;refine A2.keeps (V:=V.buts hs) (o:=.frame m (BV hs fs)) hk a ⟨h0,fun s z d=>?_⟩;rw[DQ]at d;simp only[No]at d;obtain⟨y,i,rfl⟩:=d;exact PY (h1 s y i)
 | loop L=>exact A2.keeps (V:=V.buts hs) hk a h
 | itr p t q r n=>exact A2.keeps (V:=V.buts hs) hk a h
 | dfr=>exact A2.keeps (V:=V.buts hs) hk a h
section
variable {w0:World} {K O0:Nat→Prop} {nt:Nat} {ds:Fp} {σ:St} {ρ:Nat→Value} {a:Act} {w:World}
theorem Bn.swap (h:Bn w0 K O0 nt ds σ ρ a w) (H:∀b,K b→b<w0.heap.size) (ab:∀b,O0 b→b<w0.heap.size) {T:Nat→Prop} (hT:∀n,T n→GX n=false∧∃o,lk n σ.objs=some o∧seat (ρ n))
  {new:List (Nat×Obj)} {σ':St} {ρ':Nat→Value} {w':World} {dst:Option Nat} {u:Value}
  (V:w'.os=w.os) (Z:w'.tape=w.tape) (W:w'.output=w.output) (X:w.heap.size≤w'.heap.size)
  (M:∀b,b<w.heap.size→(∀n,T n→¬bk (ρ n) b)→w'.heap[b]?=w.heap[b]?)
  (r:∀n o,lk n σ'.objs=some o→lk n new=none→¬T n∧∃d,lk n σ.objs=some d)
  (N:∀n o,lk n σ.objs=some o→¬T n→lk n new=none∧∃d,lk n σ'.objs=some d)
  (l:∀n,lk n new=none→ρ' n=ρ n)
  (D:∀n o b,lk n new=some o→bk (ρ' n) b→(∃m,T m∧bk (ρ m) b)∨w.heap.size≤b)
  (I:∀n m o t b,lk n new=some o→lk m new=some t→bk (ρ' n) b→bk (ρ' m) b→n=m)
  (U:∀n o,lk n σ'.objs=some o→A2 (vw w' O0 σ' ρ') o (ρ' n))
  (J:∀s v,lk s σ'.env=some v→B1 (vw w' O0 σ' ρ') v ((a.put dst u).tmps.getD s undef)) :
  Bn w0 K O0 nt ds σ' ρ' (a.put dst u) w':=by
 have ad:∀m,T m→∀b,bk (ρ m) b→b<w.heap.size:=fun m c b i=>by
  obtain⟨_,o,g,_⟩:=hT m c;exact(h.objs m o g).block_lt i
 have A:∀m,T m→∀b,bk (ρ m) b→¬K b∧¬O0 b:=fun m c b i=>by
  obtain⟨_,o,g,_⟩:=hT m c;exact h.free m b ⟨o,g⟩ i
 refine⟨⟨V.trans h.frm.os,Z.trans h.frm.tape,W.trans h.frm.output,TO h.frm.size X,fun k hk=>?_⟩,by rw[KL];exact h.nt,by rw[Gb];exact h.defers,fun p hp=>?_,U,?_,?_,J⟩
 ·exact(M k (AAJ (H k hk) h.frm.size) fun n hn i=>(A n hn k i).1 hk).trans (h.frm.block k hk)
 ·obtain⟨⟨o,h1⟩,f,j⟩:=h.pin p hp;have P:¬T p.1:=fun Y=>by
   obtain⟨hf,_,_,hs⟩:=hT _ Y;rw[f]at hs;rcases j with j|j
   ·rcases hs with ⟨_,_,_,z⟩|⟨_,z⟩<;>rw[z]at j<;>cases j
   ·rw[hf]at j;cases j
  obtain⟨F,G⟩:=N p.1 o h1 P;exact⟨G,(l _ F).trans f,j⟩
 ·intro n b y i;obtain⟨o,g⟩:=y;cases hn:lk n new with
  | none =>
   obtain⟨_,d,h1⟩:=r n o g hn;rw[l n hn]at i;exact h.free n b ⟨d,h1⟩ i
  | some e =>
   rcases D n e b hn i with ⟨m,c,x⟩|L
   ·exact A m c b x
   ·have:=h.frm.size;grind
 ·have key:∀n m o e b,lk n σ'.objs=some o→lk n new=none→lk m new=some e→bk (ρ' n) b→bk (ρ' m) b→False:=by
   intro n m o e b g hn c h1 f;obtain⟨Q,d,q⟩:=r n o g hn;rw[l n hn]at h1;rcases D m e b c f with ⟨E,B,x⟩|L
   ·obtain⟨_,aa,S,_⟩:=hT E B;have:=h.dist n E b ⟨d,q⟩ ⟨aa,S⟩ h1 x;exact Q (this▸B)
   ·have ae:b<w.heap.size:=(h.objs n d q).block_lt h1;omega
  intro n m b y O h1 f;obtain⟨o,g⟩:=y;obtain⟨t,C⟩:=O;cases hn:lk n new with
  | none =>
   cases c:lk m new with
   | none =>
    obtain⟨_,d,q⟩:=r n o g hn;obtain⟨_,e,R⟩:=r m t C c;rw[l n hn]at h1;rw[l m c]at f;exact h.dist n m b ⟨d,q⟩ ⟨e,R⟩ h1 f
   | some e=>exact(key n m o e b g hn c h1 f).elim
  | some d =>
   cases c:lk m new with
   | none=>exact(key m n t d b C c hn f h1).elim
   | some e=>exact I n m d e b hn c h1 f
end
end
section
open Go Go.RowKit
structure Qx (V V':Vw) (n:Nat) (hs:List Nat):Prop where
 O:∀b,b<V.w.heap.size→¬V.O b→¬V'.O b
 L:∀m,V.L m→AY m hs=false→V'.L m
 ρ:∀m,V.L m→AY m hs=false→m≠n→V'.ρ m=V.ρ m
 tup:∃vs,V.ρ n=.tuple vs
 plc:plc (V'.ρ n)=plc (V.ρ n)
 heap:∀b,b<V.w.heap.size→¬V.O b→V'.w.heap[b]?=V.w.heap[b]?
section
variable {V V':Vw} {n:Nat} {hs:List Nat}
theorem Qx.pl (h:Qx V V' n hs) {m:Nat} (a:V.L m) (b:AY m hs=false):Fw.plc (V'.ρ m)=Fw.plc (V.ρ m):=by
 by_cases e:m=n
 ·subst e;exact h.plc
 ·rw[h.ρ m a b e]
theorem Qx.ptr (h:Qx V V' n hs) {m:Nat} (b:V.L m) (c:AY m hs=false) {v:Value} (d:V.ρ m=v) (f:∀a,v≠.tuple a):V'.ρ m=v:=by
 have e:m≠n:=fun e=>by
  obtain⟨a,h1⟩:=h.tup;grind
 rw[h.ρ m b c e,d]
theorem Yv (h:Qx V V' n hs) {x:AV} {v:Value} (c:Tf V x v):Tf V' (x.trn n hs) v:=by
 cases x;case ag l=>exact c.elim
 case tup l=>exact c.elim
 case p t d=>simp only[AV.trn];exact Bb.mono h.O h.heap c
 case pc e d=>simp only[AV.trn];exact⟨Bb.mono h.O h.heap c.1,c.2⟩
 case raw u=>simp only[AV.trn];exact c
 case fn f=>simp only[AV.trn];exact c
 case top=>trivial
 case ip t d =>
  simp only[AV.trn];obtain⟨ad,cs,o,q,r,B⟩:=c;have s:ad.block<V.w.heap.size:=by
   have hp:=t.size_pos;have F:=B.length;have:=block_lt_of_cell (r 0 (cs[0]'(by omega)) (AT (by omega)))
   rwa [CQ]at this
  refine⟨ad,cs,o,h.O _ s q,fun j u C=>?_,Bq.mono h.O h.heap B⟩;rw[ACp (w:=V.w) (w':=V'.w)]
  ·exact r j u C
  ·rw[CQ];exact h.heap _ s q
 case sr m e lo hi =>
  simp only[AV.trn];split
  ·trivial
  ·rename_i a;have a:AY m hs=false:=by simpa using a
   exact⟨h.L m c.1 a,by rw[h.pl c.1 a];exact c.2⟩
 case ep m e i E off =>
  simp only[AV.trn];split
  ·trivial
  ·rename_i a;have a:AY m hs=false:=by simpa using a
   exact⟨h.L m c.1 a,by rw[h.pl c.1 a];exact c.2⟩
 case nin m e i len =>
  simp only[AV.trn];split
  ·trivial
  ·rename_i a;have D:m≠n:=fun e=>a (.inl e);have y:AY m hs=false:=by grind
   exact⟨h.L m c.1 y,by rw[h.ρ m c.1 y D];exact c.2⟩
 case bp m E off =>
  simp only[AV.trn];split
  ·trivial
  ·rename_i a;have a:AY m hs=false:=by simpa using a
   obtain⟨g,b,k,o⟩:=c;exact⟨h.L m g a,b,h.ptr g a k (fun _ e=>by cases e),o⟩
 case mp m =>
  simp only[AV.trn];split
  ·trivial
  ·rename_i a;have a:AY m hs=false:=by simpa using a
   obtain⟨g,b,k,o⟩:=c;exact⟨h.L m g a,b,h.ptr g a k (fun _ e=>by cases e),o⟩
 case yl m =>
  simp only[AV.trn];split
  ·trivial
  ·rename_i a;have a:AY m hs=false:=by simpa using a
   obtain⟨g,b,k,o⟩:=c;exact⟨h.L m g a,b,h.ptr g a k (fun _ e=>by cases e),o⟩
 case clo f ns =>
  simp only[AV.trn];split
  ·trivial
  ·rename_i G;have z:∀m∈ns,AY m hs=false:=fun m a=>by grind
   have A:∀m∈ns,V'.ρ m=V.ρ m:=fun m a=>by
    obtain⟨g,b,k⟩:=c.2 m a;rw[h.ptr g (z m a) k (fun _ e=>by cases e),k]
   refine⟨?_,fun m a=>⟨h.L m (c.2 m a).1 (z m a),by rw[A m a];exact(c.2 m a).2⟩⟩;rw[c.1]
   congr 2
   exact tO fun m a=>(A m a).symm
theorem A47 (h:Qx V V' n hs) {x:AV} {cs:List Value} (b:NZ V x cs):NZ V' (x.trn n hs) cs:=by
 cases x;case p t d=>simp only[AV.trn];exact(Bq.mono h.O h.heap b:Bq V'.w V'.O t cs d)
 case ag l=>obtain⟨v,_,_,hf⟩:=b;exact hf.elim
 case tup l=>obtain⟨v,_,_,hf⟩:=b;exact hf.elim
 all_goals
  obtain⟨v,rfl,h1,e⟩:=b;have a:=Yv h e;simp only[AV.trn]at a ⊢;first
   | exact⟨v,rfl,h1,a⟩
   | (split at a<;>rename_i c<;>first|(rw[BY c];exact⟨v,rfl,h1,a⟩)|(rw[At c];exact⟨v,rfl,h1,a⟩))
theorem PZ (h:Qx V V' n hs):∀ {l:List AV} {cs:List Value},Db V l cs→Db V' (AV.trns n hs l) cs
 | [],cs,a=>(a:cs=[])
 | x :: r,cs,a=>by
  obtain⟨c1,c2,rfl,h1,b⟩:=a;simp only[AV.trns];exact⟨c1,c2,rfl,A47 h h1,PZ h b⟩
theorem A48 (h:Qx V V' n hs) {x:AV} {v:Value} (a:Rx V x v):Rx V' (x.trn n hs) v:=by
 cases x;case ag l=>obtain⟨cs,h1,b⟩:=a;simp only[AV.trn];exact⟨cs,h1,PZ h b⟩
 all_goals exact Rx.of1 (Yv h a)
theorem aY (h:Qx V V' n hs):∀ {l:List AV} {a:List Value},KJ V l a→KJ V' (AV.trns n hs l) a
 | [],a,b=>(b:a=[])
 | x :: r,a,b=>by
  obtain⟨v,d,rfl,h1,c⟩:=b;simp only[AV.trns];exact⟨v,d,rfl,A48 h h1,aY h c⟩
theorem Yw (h:Qx V V' n hs) {x:AV} {v:Value} (b:B1 V x v):B1 V' (x.trn n hs) v:=by
 cases x;case ag l=>obtain⟨cs,h1,a⟩:=b;simp only[AV.trn];exact⟨cs,h1,PZ h a⟩
 case tup l=>obtain⟨c,h1,a⟩:=b;simp only[AV.trn];exact⟨c,h1,aY h a⟩
 all_goals exact A43 (Yv h b)
theorem Fl (n:Nat) (hs:List Nat) (s:Nat):∀l:List (Nat×AV),lk s (Dy n hs l)=(lk s l).map (AV.trn n hs)
 | []=>rfl
 | (j,v) :: l=>by
  simp only[Dy,lk];split
  ·rfl
  ·exact Fl n hs s l
theorem R8 (n:Nat) (hs:List Nat):∀l:List AV,(AV.trns n hs l).length=l.length
 | []=>rfl
 | _ :: r=>by simp[AV.trns,R8 n hs r]
theorem Dd (n:Nat) (hs:List Nat) (m:Nat):∀l:List (Nat×Obj),lk m (CZ n hs l)=if AY m (n :: hs)=true then none else (lk m l).map (Obj.trn n hs)
 | []=>by simp[CZ,lk]
 | (j,o) :: l=>by
  simp only[CZ];by_cases a:AY j (n :: hs)=true
  ·rw[BY a,Dd n hs m l];grind [lk]
  ·rw[At a];simp only[lk];by_cases b:m=j
   ·subst b;simp[a]
   ·simp[b,Dd n hs m l]
theorem qC (h:Qx V V' n hs) {o:Obj} {loc:Value} (c:∀b,bk loc b→V'.w.heap[b]?=V.w.heap[b]?) (a:A2 V o loc):A2 V' (o.trn n hs) loc:=by
 have hk:CW ⟨V.w,V.O,fun _=>False,V.ρ⟩ V':=⟨h.O,fun _ h=>h.elim,fun _ h=>h.elim,h.heap⟩;cases o with
 | arr et e xs=>exact A2.keeps (V:=⟨V.w,V.O,fun _=>False,V.ρ⟩) (o:=.arr et e xs) hk c a
 | box et st fs =>
  obtain⟨h0,b,cs,rfl,h1,f⟩:=a;exact⟨fun i=>by rw[R8];exact h0 i,b,cs,rfl,(c b (.inl rfl)).trans h1,PZ h f⟩
 | mapo k v l=>exact A2.keeps (V:=⟨V.w,V.O,fun _=>False,V.ρ⟩) (o:=.mapo k v l) hk c a
 | nest et p k e xs g=>exact A2.keeps (V:=⟨V.w,V.O,fun _=>False,V.ρ⟩) (o:=.nest et p k e xs g) hk c (My (V:=V) (V':=⟨V.w,V.O,fun _=>False,V.ρ⟩) rfl rfl a)
 | frame x fs =>
  obtain⟨h0,h1⟩:=a;refine⟨h0,fun s z d=>?_⟩;rw[Fl]at d;simp only[No]at d;obtain⟨y,j,rfl⟩:=d;exact Yw h (h1 s y j)
 | loop L=>exact A2.keeps (V:=⟨V.w,V.O,fun _=>False,V.ρ⟩) (o:=.loop L) hk c a
 | itr q u r t m=>exact A2.keeps (V:=⟨V.w,V.O,fun _=>False,V.ρ⟩) (o:=.itr q u r t m) hk c a
 | dfr=>exact A2.keeps (V:=⟨V.w,V.O,fun _=>False,V.ρ⟩) (o:=.dfr) hk c a
end
end
section
open Go Go.RowKit
theorem lI {t:Ty} (h:t.cell1=true):t.size=1:=by cases t<;>simp[Ty.cell1]at h<;>rfl
theorem W8 {V:Vw} {ty:Ty} {x:AV} {a:List Value} (c:NZ V x a) (hf:L9 ty x=true):a.length=ty.size:=by
 by_cases b:x=.top
 ·subst b;obtain⟨v,rfl,_⟩:=c;grind [L9,lI]
 ·have hf:CU ty x=true:=by cases x<;>first|exact hf|exact absurd rfl b
  exact(lF c hf).1
theorem t8 {V:Vw} {ty:Ty} {st:Bool} {fs m:List AV} {q:List Nat} {off:Nat} {u v:AV} {cs f:List Value} (g:Db V fs cs) (G:st=false→fs.length=1)
  (h:Jq st fs v q=some m) (i:OB fs q=some off) (b:JG st fs q=some u) (hu:L9 ty u=true) (P:CU ty v=true)
  (K:∀l,v=.ag l→Db V l f) (o:(∀l,v≠.ag l)→NZ V v f) (L:f.length=ty.size) :
  off+f.length≤cs.length∧Db V m (Az cs off f)∧(st=false→m.length=1):=by
 unfold Jq at h;split at h
 ·simp only[OB]at i;cases i;simp only[JG]at b;cases st with
  | true =>
   simp only[AAQ]at h b;cases b;have N:cs.length=ty.size:=by
    have:=g.length;cases ty<;>simp only[L9,CU]at hu<;>try(cases hu;done)
    grind [Ty.size]
   rw[D0 (by omega)];split at h
   ·grind [NZ,Bq,yS]
   ·grind
   ·cases h
  | false =>
   simp only[AAT,ABk]at h b;split at h
   ·rename_i c;have c:∀l,v≠.ag l:=fun l e=>by subst e;simp[Nh]at c
    cases h;obtain⟨x,rfl⟩:=AB4.1 (G rfl);simp at b;subst b;obtain⟨c1,c2,rfl,h1,a⟩:=g;have a:c2=[]:=a;subst a;have B:=W8 h1 hu;rw[AAh,D0 (by omega)];exact⟨by omega,⟨f,[],by simp,o c,rfl⟩,by simp⟩
   ·cases h
 ·rename_i k;split at h
  ·rename_i s;simp only[As]at s;obtain⟨rfl,c⟩:=s;have c:∀l,v≠.ag l:=fun l e=>by subst e;simp[Nh]at c
   cases h;simp only[JG,AAQ]at b;obtain⟨h1,a⟩:=g.get b;have B:=W8 a hu;have J:=a.length;have F:off=CE fs k:=by grind [OB,L5]
   subst F;have j:=o c;have n:=j.length;exact⟨by omega,g.set b j (by omega),by simp⟩
  ·cases h
 ·rename_i k r M;cases st with
  | false=>simp at h
  | true =>
   simp only[AAQ]at h;split at h
   ·rename_i t d I x hk;simp only[No]at h;obtain⟨y,H,rfl⟩:=h;simp only[OB,hk,No]at i;obtain⟨Q,E,rfl⟩:=i;obtain⟨h1,a⟩:=g.get hk;have A:Bq V.w V.O t _ d:=a;have j:Bq V.w V.O I f x:=o (by simp);obtain⟨n,C⟩:=Tj H E A j;have D:=a.length;simp only[AV.cells]at h1 D C n;have z:=g.set (y:=.p t y) hk (n:Bq V.w V.O t _ y) rfl;rw[Nm _ _ _ _ _ (by omega) h1]at z;exact⟨by omega,z,by simp⟩
   ·cases h
section
variable {P:Program} {tb:Tb} {w0:World} {K O0:Nat→Prop} {nt:Nat} {ds:Fp} {σ σ':St} {ρ:Nat→Value} {a:Act} {w:World} {vc:Prop}
theorem R9 {n:Nat} {o:Obj} (hn:lk n σ.objs=some o) {g:Nat} (c:blk (ρ n)=some g) {w':World} (d:w.grownBy w' (some g)):CW (vw w O0 σ ρ) (vw w' O0 σ ρ) :=
 ⟨fun _ _ h=>h,fun _ h=>h,fun _ _=>rfl,fun b f a=>d.block b f (fun e=>by injection e with e;subst e;exact a (.inr ⟨n,⟨o,hn⟩,.inl c⟩))⟩
theorem F9 (w:World) (g:Nat) (cs:Array Value):w.grownBy (w.setRow g cs) (some g) :=
 ⟨rfl,rfl,rfl,by simp,fun k _ hk=>setRow_other w g k cs (fun e=>hk (by rw[e]))⟩
theorem MH {id:TypeId} {ti:TI} (hT:EJ P tb id ti) {g off:Nat} {cs:List Value} {et:TypeId} {xv:Value} (hh:w.heap[g]?=some (.cells cs.toArray et (0,0))) (hs:xv.cells.size=ti.ty.size)
  (b:off+xv.cells.toList.length≤cs.length) (h1:∀u∈xv.cells.toList,u.oneCell'=true) :
  (Instr.storeAt id (.pointer (some ⟨g,off,none⟩)) xv).run P w=.ok () (w.setRow g (Az cs off xv.cells.toList).toArray):=by
 have a:=run_storeCells_at P g off et xv.cells.toList 0 cs.toArray w hh (by simpa using b) h1;simp only[ACS]at a;have c:¬xv.cells.size≠ti.ty.size:=by omega
 simp only[Instr.storeAt,Instr.sureAddr,storeVar,AB2,ABC,AAA,IQ w hT,At c,a];rfl
theorem qD {o:Oper} {w':World} {next:Act→World→Prop} {Q:Exit→Act→World→Prop} {r:Option Nat} (h:(execOp a.eval o).run P w=.ok .skip w') (hn:next (a.put o.dst undef) w') (b:∀c,o.op≠.defer c:=by intro c e;cases e):o.wpIn (FR r) 0 P a w next Q:=by
 refine⟨fun _ _=>trivial,?_⟩;rw[Fk _ _ _ b,h];exact hn
theorem t9 (hs:Bn w0 K O0 nt ds σ ρ a w) (al:∀b,K b→b<w0.heap.size) (hT:DL P tb) {id:TypeId} {x y:Operand} (bu:∀n e i s off,Aj σ x=some (.ep n e i s off)→Ci (lk n σ.objs)=false) (h:HL σ (lk id tb.ty) (Aj σ x) (Aj σ y)=some (vc,σ')) (cy:vc) :
  ∃w',(Instr.storeAt id (a.eval x) (a.eval y)).run P w=.ok () w'∧Bn w0 K O0 nt ds σ' ρ a w':=by
 have G:GK (vw w O0 σ ρ) σ a.eval:=D5 hs.env;unfold HL at h;split at h
 ·rename_i ti n s off v ab Q ah;have af:=G x _ Q;have D:=G y _ ah;cases hn:lk n σ.objs with
  | none=>rw[hn]at h;simp[DR]at h
  | some o =>
   rw[hn]at h;cases o with
   | arr et e xs=>simp[DR]at h
   | mapo k v l=>simp[DR]at h
   | frame cn fs=>simp[DR]at h
   | loop L=>simp[DR]at h
   | itr ci cl cj ck cg=>simp[DR]at h
   | dfr=>simp[DR]at h
   | nest et ch k e xs bq=>simp[DR]at h
   | box et st fs =>
    simp only[DR]at h;cases I:JG st fs s with
    | none=>rw[I]at h;simp[Er]at h
    | some u =>
     cases Z:Jq st fs v s with
     | none=>rw[I,Z]at h;simp[Er]at h
     | some cq =>
      rw[I,Z]at h;simp only[Er]at h;split at h
      ·rename_i ay;obtain⟨hu,ad,bv,_⟩:=ay;cases h;obtain⟨cb,b,cs,W,C,bi⟩:=hs.objs n _ hn;obtain⟨bg,b',f,ae⟩:=af;have f:ρ n=_:=f;rw[W]at f;injection f with f
       injection f with f
       injection f with f
       subst f;have H:=yK D ad (Nn D ad);have am:∀l,v=.ag l→Db (vw w O0 σ ρ) l (a.eval y).cells.toList:=by
        intro l e;subst e;obtain⟨cp,A,bj⟩:=D;rw[A];simpa[Value.cells] using bj
       obtain⟨h1,R,bd⟩:=t8 bi cb Z bv I hu ad am (fun J=>H.2 J) (by simpa using H.1);have bx:∀z∈(a.eval y).cells.toList,z.oneCell'=true:=by
        by_cases J:∃l,v=.ag l
        ·obtain⟨l,e⟩:=J;exact(am l e).one
        ·exact(H.2 (fun l e=>J ⟨l,e⟩)).one
       have Y:=MH (hT _ _ ab) C H.1 h1 bx;rw[ae];refine⟨_,Y,?_⟩;have t:blk (ρ n)=some b:=by rw[W];rfl
       refine hs.upd al hn t (F9 w b _) ⟨bd,b,_,W,setRow_heap w b _ _ et _ C,?_⟩;exact R.keeps (R9 hn t (F9 w b _))
      ·cases h
 ·rename_i ti n e i s off v ab Q ah;have af:=G x _ Q;have D:=G y _ ah;cases hn:lk n σ.objs with
  | none=>rw[hn]at h;simp[DS]at h
  | some o =>
   rw[hn]at h;cases o with
   | box et st fs=>simp[DS]at h
   | mapo k v l=>simp[DS]at h
   | frame cn fs=>simp[DS]at h
   | loop L=>simp[DS]at h
   | itr ci cl cj ck cg=>simp[DS]at h
   | dfr=>simp[DS]at h
   | nest et ch k e xs bq=>have:=bu _ _ _ _ _ Q;rw[hn]at this;cases this
   | arr et d xs =>
    simp only[DS]at h;cases T:BP (.slice e) ⟨.slice d,xs⟩ with
    | none=>rw[T]at h;simp[EH]at h
    | some ys =>
     obtain⟨rfl,R⟩:=Bk T;cases R;rw[T]at h;cases S:Kv false σ ti.ty v with
     | none=>rw[S]at h;simp[EH]at h
     | some co =>
      rw[S]at h;simp only[EH]at h;cases aa:Sg s d (xs.getD i d.dflt) ⟨ti.ty,co⟩ with
      | none=>rw[aa]at h;simp[FJ]at h
      | some z =>
       rw[aa]at h;simp only[FJ]at h;split at h
       ·rename_i bw;cases h;obtain⟨bs,cells,M,F⟩:=hs.objs n _ hn;obtain⟨bg,g,m,c,f,X,ae⟩:=af;have f:plc (ρ n)=_:=f;have M:w.ownsRow 0 et d.size (ρ n) xs.length cells:=M;rw[Hs M]at f;have F:Dv w (own O0 σ ρ) d cells xs:=F;have ce:=KM (V:=vw w O0 σ ρ) (O':=own O0 σ ρ) (fun _ h=>h) (fun h=>by cases h) hs.objs S D;obtain⟨ax,aw⟩:=Wu ce;obtain⟨av,bz⟩:=M;rcases bz with ⟨A,_⟩|⟨cr,cap,r,A,cu,C,ao,bh,U,cc⟩
        ·grind
        ·rw[f]at A;injection A with B bk bl
         injection B with B
         injection B with B
         subst B;subst bk;have cf:xs[i]?=some (xs.getD i d.dflt):=by
          rw[AT X,AS,AT X];rfl
         obtain⟨ak,bn,aq,bm⟩:=F i _ cf;obtain⟨be,bf⟩:=Tj aa bw bm aw;have ct:cells.length=xs.length*d.size:=av;have bp:(i+1)*d.size≤xs.length*d.size:=oS _ X;have cv:xs.length*d.size≤cap*d.size:=oS _ ao;rw[AB0]at bp;have an:i*d.size+off+(a.eval y).cells.toList.length≤r.toList.length:=by
          have br:r.toList.length=cap*d.size:=by rw[←U];simp
          have cx:(a.eval y).cells.toList.length=ti.ty.size:=by rw[←ax];simp
          omega
         have bo:w.heap[g]?=some (.cells r.toList.toArray et (0,0)):=by simpa using C
         have Y:=MH (hT _ _ ab) bo ax an aw.one;rw[ae];refine⟨_,Y,?_⟩;have t:blk (ρ n)=some g:=by rw[f];rfl
         have ca:(Az r.toList (i*d.size+off) (a.eval y).cells.toList).length=r.size:=by rw[FL an];simp
         have cd:(Az r.toList (i*d.size+off) (a.eval y).cells.toList).take (xs.length*d.size)=Az cells (i*d.size+off) (a.eval y).cells.toList:=by
          rw[←cc];apply ABJ;intro j;simp only[Az,oF,AAe,AAM,OS,AAz,ABO];have ai:min (i*d.size+off) r.toList.length=i*d.size+off:=by omega
          have E:min (i*d.size+off) (xs.length*d.size)=i*d.size+off:=by omega
          have cm:min (xs.length*d.size) r.toList.length=xs.length*d.size:=by
           have br:r.toList.length=cap*d.size:=by rw[←U];simp
           omega
          simp only[ai,E,cm];by_cases c1:j<i*d.size+off
          ·simp[c1,show j<xs.length*d.size by omega]
          ·by_cases c2:j-(i*d.size+off)<(a.eval y).cells.toList.length
           ·simp only[c1,c2,ABk,AAQ,show j<xs.length*d.size by omega]
           ·simp only[c1,c2,ABk];by_cases aj:j<xs.length*d.size
            ·rw[BY aj,BY (by omega)]
            ·rw[At aj,At (by omega)]
         refine hs.upd al hn t (F9 w g _) ⟨by simpa using bs,Az cells (i*d.size+off) (a.eval y).cells.toList,⟨?_,.inr ⟨g,cap,_,by rw[f,bl];simp,NO _,setRow_heap w g _ _ et _ C,by simpa using ao,bh,by simp[ca,U],?_⟩⟩,?_⟩
         ·rw[FL (by omega)];simpa using av
         ·simpa using cd
         ·have hk:=R9 (O0:=O0) hn t (F9 w g (Az r.toList (i*d.size+off) (a.eval y).cells.toList).toArray);have bt:Dv (vw w O0 σ ρ).w (vw w O0 σ ρ).O d (Az cells (i*d.size+off) (a.eval y).cells.toList) (xs.set i z):=by
           intro k q N;rw[AAy]at N;split at N
           ·rename_i ar;subst ar;cases N;refine⟨Az ak off (a.eval y).cells.toList,by rw[FL bf];exact bn,fun j u p=>?_,be⟩;simp only[Az,oF,AAM,OS,AAe,AAz]at p ⊢;have ai:min off ak.length=off:=by omega
            have E:min (i*d.size+off) cells.length=i*d.size+off:=by omega
            simp only[ai]at p;simp only[E];by_cases c1:j<off
            ·simp only[c1,AAQ]at p;simp only[show i*d.size+j<i*d.size+off by omega,AAQ];exact aq _ _ p
            ·simp only[c1,ABk]at p;simp only[show ¬i*d.size+j<i*d.size+off by omega,ABk];rw[show i*d.size+j-(i*d.size+off)=j-off by omega];by_cases c2:j-off<(a.eval y).cells.toList.length
             ·simp only[c2,AAQ]at p ⊢;exact p
             ·simp only[c2,ABk]at p ⊢;have:=aq _ _ p;rw[←this]
              congr 1
              omega
           ·rename_i ar;obtain⟨az,ba,bb,bc⟩:=F k q N;refine⟨az,ba,fun j u p=>?_,bc⟩;have cw:=(aT.1 p).1;have ap:=bb j u p;simp only[Az,oF,AAM,OS,AAe,AAz];have E:min (i*d.size+off) cells.length=i*d.size+off:=by omega
            simp only[E];rcases Nat.lt_or_ge k i with au|au
            ·have:(k+1)*d.size≤i*d.size:=oS _ au;rw[AB0]at this;simp only[show k*d.size+j<i*d.size+off by omega,AAQ];exact ap
            ·have:(i+1)*d.size≤k*d.size:=oS _ (by omega);rw[AB0]at this;simp only[show ¬k*d.size+j<i*d.size+off by omega,ABk,show ¬k*d.size+j-(i*d.size+off)<(a.eval y).cells.toList.length by omega];rw[←ap]
             congr 1
             omega
          exact bt.keeps hk
       ·cases h
 ·cases h
theorem uA (hs:Bn w0 K O0 nt ds σ ρ a w) (B:∀b,K b→b<w0.heap.size) (s:DL P tb) {t:TypeId} {m x y:Operand} (h:Jt tb σ (lk t tb.ty) (Aj σ m) (Aj σ x) (Aj σ y)=some (vc,σ')) :
  ∃w',(Instr.mapUpdate t (a.eval m) (a.eval x) (a.eval y)).run P w=.ok () w'∧Bn w0 K O0 nt ds σ' ρ a w':=by
 have g:GK (vw w O0 σ ρ) σ a.eval:=D5 hs.env;unfold Jt at h;split at h
 ·rename_i k e _ _ n xv W N J O R;have Q:=g x _ O;have S:=g y _ R;obtain⟨X,b,d,L⟩:=g m _ J;have d:ρ n=_:=d;cases hn:lk n σ.objs with
  | none=>rw[hn]at h;simp[FT]at h
  | some o =>
   rw[hn]at h;cases o with
   | mapo Y U l =>
    cases j:lk k tb.ty with
    | none=>simp[FT,j]at h
    | some T =>
     simp only[FT,j,ABd,AB9]at h;split at h
     ·rename_i E;obtain⟨rfl,F⟩:=E;cases f:Kv false σ T.ty xv with
      | none=>rw[f]at h;simp[F6]at h
      | some kd =>
       cases p:Kv false σ U W with
       | none=>rw[f,p]at h;simp[F6]at h
       | some aa =>
        rw[f,p]at h;simp only[F6]at h;split at h
        ·rename_i H;cases h;have h1:=KM (V:=vw w O0 σ ρ) (O':=own O0 σ ρ) (fun _ h=>h) (fun h=>by cases h) hs.objs f Q;have A:=KM (V:=vw w O0 σ ρ) (O':=own O0 σ ρ) (fun _ h=>h) (fun h=>by cases h) hs.objs p S;obtain⟨b',r,q,c,M,⟨Z,z⟩,G,D⟩:=A6k (w:=w) (V:=vw w O0 σ ρ) s (s _ _ N) (n:=n) rfl rfl j rfl (hs.objs n _ hn) F H h1 A;have c:ρ n=_:=c;rw[d]at c;injection c with c
         injection c with c
         subst c;rw[L];refine⟨_,M,?_⟩;have u:blk (ρ n)=some b:=by rw[d];rfl
         have v:w.grownBy { w with heap:=w.heap.setIfInBounds b (.map r q) } (some b) :=
          ⟨rfl,rfl,rfl,by simp,fun i _ hi=>(ACn z).2 i (fun e=>hi (by rw[e]))⟩
         refine hs.upd B hn u v ⟨b,r,q,d,(ACn z).1,?_⟩;refine⟨?_,D⟩;exact G.mono (fun _ _ h=>h) (fun b2 I C=>v.block b2 I (fun e=>by injection e with e;subst e;exact C (.inr ⟨n,⟨_,hn⟩,.inl u⟩)))
        ·cases h
     ·cases h
   | _=>simp[FT]at h
 ·cases h
end
end
section
open Go Go.RowKit
section
variable {P:Program} {tb:Tb} {w0:World} {K O0:Nat→Prop} {nt:Nat} {ds:Fp} {σ σ':St} {ρ:Nat→Value} {a:Act} {w:World} {vc:Prop} {id:TypeId}
theorem S0 {w:World} {base:Nat} {et:TypeId} {sz n:Nat} {s:Value} {xs:List Value} (h:w.ownsRow base et sz s n xs):s.ownBlock=blk s:=by
 rcases h.2 with ⟨rfl,_⟩|⟨g,cap,a,rfl,_⟩<;>rfl
theorem Ht (v:DL P tb) {el:TypeId} {e:Ty} (hu:P.underlying id=some (.slice el)) {te:TI} (A:lk el tb.ty=some te) (J:te.ty=e) {base ty:Nat} {s xv:Value} {n:Nat} {xs C:List Value}
  (q:w.ownsRow base el e.size s n xs) {O:Nat→Prop} {ys:List e.den} (T:Src w O e xv ys C) (U:(n+ys.length)*te.bytes≤AO) {f:Value} {w':World}
  (h:(Builtin.append_ #[id,id] ty #[s,xv]).run P w=.ok f w'):blk f=blk s∨∀b,blk f=some b→w.heap.size≤b:=by
 subst J;obtain⟨⟨⟨_,H,_⟩,i,z,hi,o,x,B,ai⟩,_⟩:=v _ _ A;have R:n+ys.length≤AO:=by
  have:(n+ys.length)*1≤(n+ys.length)*te.bytes:=ABv _ H;omega
 have ae:AO=140737488355328:=rfl;obtain⟨⟨a,c,rfl,F⟩,M,Z,ag,ab⟩:=T;have hs:(sizeOf el).run P w=.ok te.ty.size w:=IQ w (v _ _ A);have aj:∀ {l D:Nat} {W:World},Result.ok (Value.slice (some ⟨w.heap.size,0,none⟩) l D) W=Result.ok f w'→blk f=blk s∨∀b,blk f=some b→w.heap.size≤b:=by grind [blk]
 have V:∀(ad:Addr) (m:Nat) (d:List Value),d.length=m*te.ty.size→(∀(j:Nat) (u:Value),d[j]?=some u→w.cell? (ad.add j)=some u)→(∀u∈d,u.oneCell'=true)→n+m≤AO→(n+m)*te.bytes≤AO →
   (Builtin.append_ #[id,id] ty #[s,.slice (some ad) m c]).run P w=.ok f w'→blk f=blk s∨∀b,blk f=some b→w.heap.size≤b:=by
  intro ad m d k p h1 aa G h;rcases q.2 with ⟨rfl,rfl⟩|⟨g,cap,t,rfl,X,L,af,Y,I,ah⟩
  ·by_cases N:m=0
   ·subst N;have:d=[]:=nO (by simpa using k);simp[Builtin.append_,iF hu,hs,Builtin.lenOf,Builtin.firstCells,loadCells,loadCellsFrom]at h;grind
   ·have:=run_append_nil (P:=P) w id ty el i z hu hi B ad m c d (by rw[o];exact k) p (by omega) (by omega) (by rw[x];simp at G;omega);grind
  ·by_cases y:n+m≤cap
   ·have K:n*i.size+d.length≤t.size:=by
     rw[k,o,I,←ACt];exact oS _ y
    have:=run_append_room (P:=P) w id ty el i hu hi g n cap t L ad m c d (by rw[o];exact k) p h1 y K;rw[this]at h;injection h with r E
    subst r;exact .inl rfl
   ·have S:∀j u,xs[j]?=some u→w.cell? ((⟨g,0,none⟩:Addr).add j)=some u:=q.cells (g:=g) rfl;have:=run_append_grow (P:=P) w id ty el i z hu hi B ⟨g,0,none⟩ n cap xs (by rw[o];exact q.1) S ad m c d (by rw[o];exact k) p (by omega) (by omega) (by rw[x];exact growslice_fits (by omega) (by omega));grind
 rcases F with rfl|⟨ad,rfl,p⟩
 ·have Q:C=[]:=nO (by simpa using M);subst Q;cases a with
  | none =>
   have:=R0 (P:=P) (ty:=ty) hu hs q c;rw[show ([]:List te.ty.den).length=0 from rfl,this]at h;injection h with r E
   subst r;exact .inl rfl
  | some ad=>exact V ad 0 [] (by simp) (by simp) (by simp) (by simpa using R) (by simpa using U) h
 ·grind
theorem lJ {w:World} {O:Nat→Prop} {e:Ty} {c:List Value} {xs:List e.den} (h:Dv w O e c xs) (n:Nat):Dv w O e (c.take (n*e.size)) (xs.take n):=by
 intro i x hi;rw[AAe]at hi;split at hi
 ·rename_i g;obtain⟨a,b,k,d⟩:=h i x hi;refine⟨a,b,fun j u f=>?_,d⟩;have l:=(aT.1 f).1;have:(i+1)*e.size≤n*e.size:=oS _ g;grind
 ·cases hi
theorem lK (hs:Bn w0 K O0 nt ds σ ρ a w) (ae:∀b,K b→b<w0.heap.size) (af:∀b,O0 b→b<w0.heap.size) (hT:DL P tb) {d:Option Nat} (ah:∀k,d=some k→k<nt) {t u ty:TypeId} {x y:Operand}
  (h:DE tb σ d t u (Aj σ x) (Aj σ y)=some (vc,σ')) (aq:vc) (ag:∃n e hi,Aj σ x=some (.sr n e 0 hi)∧Ci (lk n σ.objs)=false) :
  ∃z w' ρ',(Builtin.append_ #[t,u] ty #[a.eval x,a.eval y]).run P w=.ok z w'∧Bn w0 K O0 nt ds σ' ρ' (a.put d z) w':=by
 have O:GK (vw w O0 σ ρ) σ a.eval:=D5 hs.env;obtain⟨n0,ab,al,Y,S⟩:=ag;unfold DE at h;split at h
 ·rename_i n e hi v X ar;obtain⟨rfl,rfl,rfl⟩:n=n0∧e=ab∧hi=al:=by rw[X]at Y;cases Y;exact⟨rfl,rfl,rfl⟩
  split at h
  ·rename_i d;split at h
   ·rename_i I;obtain⟨I,ak⟩:=I;subst I;cases H:lk t tb.ty with
    | none=>rw[H]at h;simp[EI]at h
    | some ti =>
     rw[H]at h;unfold EI at h;split at h
     ·rename_i p offs el b i;cases i;split at h
      ·rename_i ai;subst ai;obtain⟨hu,bh,te,G,U⟩:=CJ (hT _ _ H) hT;rw[G]at h;cases hn:lk n σ.objs with
       | none=>rw[hn]at h;cases f:O6 σ p v<;>rw[f]at h<;>simp[CV]at h
       | some o =>
        rw[hn]at h;cases o with
        | box et st fs=>cases f:O6 σ p v<;>rw[f]at h<;>simp[CV]at h
        | mapo au v1 l=>cases f:O6 σ p v<;>rw[f]at h<;>simp[CV]at h
        | frame bq fs=>cases f:O6 σ p v<;>rw[f]at h<;>simp[CV]at h
        | loop L=>cases f:O6 σ p v<;>rw[f]at h<;>simp[CV]at h
        | itr bk bn bl bm bi=>cases f:O6 σ p v<;>rw[f]at h<;>simp[CV]at h
        | nest et bj au s xs bd=>rw[hn]at S;cases S
        | dfr=>cases f:O6 σ p v<;>rw[f]at h<;>simp[CV]at h
        | arr et j xs =>
         simp only[CV]at h;split at h
         ·rename_i aj;subst aj;cases B:BP (.slice p) ⟨.slice j,xs⟩ with
          | none=>rw[B]at h;simp[Es]at h
          | some br =>
           obtain⟨rfl,ad⟩:=Bk B;cases ad;rw[B]at h;cases f:O6 σ j v with
           | none=>rw[f]at h;simp[Es]at h
           | some ys =>
            rw[f]at h;simp only[Es]at h;cases h;obtain⟨bo,F⟩:=Sy hs.objs f (O y _ ar);obtain⟨bg,cells,r,C⟩:=hs.objs n _ hn;have r:w.ownsRow 0 et j.size (ρ n) xs.length cells:=r;have C:Dv w (own O0 σ ρ) j cells xs:=C;obtain⟨ba,a0,m,c,q,bf,bc,Z,aa,J,bb,h0,h1⟩:=O x _ X;have q:plc (ρ n)=.slice a0 m c:=q;rw[Hs r]at q;obtain⟨rfl,rfl⟩:=h0 rfl;simp only[Nat.sub_zero]at J;have be:=r.1;have R:hi≤xs.length:=by
             rcases r.2 with ⟨i,ao⟩|⟨g,cap,M,i,_⟩
             ·rw[q]at i;injection i;omega
             ·rw[q]at i;injection i;omega
            have an:hi*j.size≤xs.length*j.size:=oS _ R;have E:w.ownsRow 0 et j.size (a.eval x) hi (cells.take (hi*j.size)):=by
             rw[J];refine⟨by rw[OS];omega,?_⟩;rcases r.2 with ⟨i,ao⟩|⟨g,cap,M,i,av,aw,bp,ax,ay,az⟩
             ·rw[q]at i;injection i with s j A
              subst s;subst A;have:hi=0:=by omega
              subst this;exact .inl ⟨rfl,rfl⟩
             ·rw[q]at i;injection i with s j A
              subst s;subst A;refine .inr ⟨g,aa,M,rfl,av,aw,by omega,ax,ay,?_⟩;rw[←az,ABO,AAU an]
            have V:(hi+ys.length)*te.bytes≤AO:=aq;obtain⟨z,w',T,ap,Q,am⟩:=Gc (ty:=ty) hT hu G U E F V (NO _);have W:=Ht (ty:=ty) hT hu G U E F V T;have N:blk (a.eval x)=blk (ρ n):=by
             rw[J,q];cases Z<;>rfl
            rw[N]at W;rw[S0 E,N]at Q;refine⟨z,w',Ek ρ n z,T,?_⟩;have D:(xs.take hi++ys).length=hi+ys.length:=by simp;omega
            exact hs.app ae af ak hn Q W (by rw[D];exact am) (by rw[D];exact ap) (K7 (lJ C hi) F.elems (by rw[OS,OS];rw[AAU R];omega)) (ah d rfl) D.symm
         ·cases h
      ·cases h
     ·cases h
   ·cases h
  ·cases h
 ·grind
 ·grind
 ·cases h
theorem M3 (n:Nat) (e:Ty) (xs:List e.den) (s:Nat):∀l:List (Nat×AV),lk s (DJ n e xs l)=(lk s l).map (AV.frz n e xs)
 | []=>rfl
 | (j,v) :: l=>by
  simp only[DJ,lk];split
  ·rfl
  ·exact M3 n e xs s l
def Obj.frz (n:Nat) (e:Ty) (xs:List e.den):Obj→Obj
 | .arr et a ys=>.arr et a ys
 | .box et st fs=>.box et st (AV.frzs n e xs fs)
 | .mapo k v l=>.mapo k v l
 | .nest et c k e ys h=>.nest et c k e ys h
 | .frame j fs=>.frame j (DJ n e xs fs)
 | .loop L=>.loop L
 | .itr d i f g b=>.itr d i f g b
 | .dfr=>.dfr
theorem Cc (n:Nat) (e:Ty) (xs:List e.den) (s:Nat):∀l:List (Nat×Obj),lk s (A7 n e xs l)=(lk s l).map (Obj.frz n e xs)
 | []=>rfl
 | (j,.arr et a ys) :: l=>by
  simp only[A7,lk];split
  ·rfl
  ·exact Cc n e xs s l
 | (j,.box et st fs) :: l=>by
  simp only[A7,lk];split
  ·rfl
  ·exact Cc n e xs s l
 | (j,.mapo k v x) :: l=>by
  simp only[A7,lk];split
  ·rfl
  ·exact Cc n e xs s l
 | (j,.nest _ _ _ _ _ _) :: l=>by
  simp only[A7,lk];split
  ·rfl
  ·exact Cc n e xs s l
 | (j,.frame h fs) :: l=>by
  simp only[A7,lk];split
  ·rfl
  ·exact Cc n e xs s l
 | (j,.loop L) :: l=>by
  simp only[A7,lk];split
  ·rfl
  ·exact Cc n e xs s l
 | (j,.itr c g d f b) :: l=>by
  simp only[A7,lk];split
  ·rfl
  ·exact Cc n e xs s l
 | (j,.dfr) :: l=>by
  simp only[A7,lk];split
  ·rfl
  ·exact Cc n e xs s l
theorem SA (n:Nat) (e:Ty) (xs:List e.den):∀l:List AV,(AV.frzs n e xs l).length=l.length
 | []=>rfl
 | _ :: r=>by simp[AV.frzs,SA n e xs r]
section
variable {V V':Vw} {n:Nat} {et:TypeId} {e:Ty} {xs:List e.den}
structure qE (V V':Vw) (n:Nat):Prop where
 w:V'.w=V.w
 ρ:V'.ρ=V.ρ
 L:∀m,V.L m→m≠n→V'.L m
 O:∀b,¬V.O b→¬V'.O b
 n:∀b,bk (V.ρ n) b→¬V'.O b
theorem qE.keeps (h:qE V V' n):CW (V.but n) V':=⟨fun b _ c=>h.O b c,fun m a=>h.L m a.1 a.2,fun m _=>by rw[h.ρ];rfl,fun b _ _=>by rw[h.w];rfl⟩
structure Pa (V V':Vw) (n:Nat) (e:Ty) (xs:List e.den):Prop where
 seat:seat (V.ρ n)
 read:∀lo hi v,DK (plc (V.ρ n)) e.size lo hi v→Bq V'.w V'.O (.slice e) [v] (sub xs lo hi)
theorem aZ {V:Vw} {et:TypeId} {e:Ty} {xs:List e.den} {loc:Value} (b:A2 V (.arr et e xs) loc):seat loc:=by
 obtain⟨_,cells',c,_⟩:=b;rcases c.2 with ⟨a,_⟩|⟨g,cap,d,a,_⟩
 ·exact .inl ⟨_,_,_,a⟩
 ·exact .inl ⟨_,_,_,a⟩
theorem qE.arr (h:qE V V' n) (a:A2 V (.arr et e xs) (V.ρ n)):Pa V V' n e xs:=⟨aZ a,fun lo hi v f=>by
 have d:=Yn (V:=V) (O':=V'.O) h.O (fun b c=>h.n b (.inl c)) a f
 rwa [←h.w]at d⟩
theorem qE.nest (h:qE V V' n) {f:TypeId} {k e:Ty} {xs:List (k.den×List e.den)} (a:A2 V (.nest et f k e xs none) (V.ρ n)):Pa V V' n (.agg (.prod k (.slice e))) xs:=⟨by
 obtain⟨o,ins,cells,b,_⟩:=a;exact b.elim (fun h=>.inr ⟨_,h⟩) (fun h=>.inl ⟨_,_,_,h.1⟩),fun lo hi v d=>by
 have c:=aG (V:=V) (O':=V'.O) h.O h.n a d
 rwa [←h.w]at c⟩
theorem Yx (h:qE V V' n) (g:Pa V V' n e xs) {x:AV} {v:Value} (b:Tf V x v):Tf V' (x.frz n e xs) v∧((∀t d,x≠.p t d)→∀t d,x.frz n e xs=.p t d→t.wrap [v]=v∧Bq V'.w V'.O t [v] d):=by
 have hk:=h.keeps;have c:=g.seat;cases x;case sr m f lo hi =>
  simp only[AV.frz];split
  ·rename_i a;subst a;split
   ·rename_i q;subst q;obtain⟨u,k⟩:=b;have j:=g.read lo hi v k;obtain⟨_,_,_,_,_,_,r,s,l,_⟩:=k;refine⟨⟨[v],j,by rw[l];rfl⟩,fun _ t d h=>?_⟩;injection h with h1 o
    subst h1;cases o;exact⟨by rw[l];rfl,j⟩
   ·exact⟨trivial,fun _ t d h=>by cases h⟩
  ·rename_i a;have:=JN c b;simp only[AV.drp,At a]at this;exact⟨this.keeps hk,fun _ t d h=>by cases h⟩
 case ep m f i y off =>
  have:=JN c b;simp only[AV.drp]at this;simp only[AV.frz];split
  ·exact⟨trivial,fun _ t d h=>by cases h⟩
  ·rename_i a;rw[At a]at this;exact⟨this.keeps hk,fun _ t d h=>by cases h⟩
 case nin m f i len =>
  have:=JN c b;simp only[AV.drp]at this;simp only[AV.frz];split
  ·exact⟨trivial,fun _ t d h=>by cases h⟩
  ·rename_i a;rw[At a]at this;exact⟨this.keeps hk,fun _ t d h=>by cases h⟩
 case p t d=>exact⟨(JN c b).keeps hk,fun hp=>absurd rfl (hp t d)⟩
 all_goals
  have:=JN c b;simp only[AV.drp]at this;simp only[AV.frz];exact⟨this.keeps hk,fun _ t d h=>by cases h⟩
theorem A49 (h:qE V V' n) (j:Pa V V' n e xs) {x:AV} {cs:List Value} (c:NZ V x cs):NZ V' (x.frz n e xs) cs:=by
 by_cases hp:∃t d,x=.p t d
 ·obtain⟨t,d,rfl⟩:=hp;simp only[AV.frz];have c:Bq V.w V.O t cs d:=c;have:Bq V'.w V'.O t cs d:=c.mono (fun b _ i=>h.O b i) (fun b _ _=>by rw[h.w]);exact this
 ·have k:∃v,cs=[v]∧v.oneCell'=true∧Tf V x v:=by
   cases x;case p t d=>exact absurd ⟨t,d,rfl⟩ hp
   all_goals exact c
  obtain⟨v,rfl,h1,g⟩:=k;obtain⟨f,a⟩:=Yx h j g;have a:=a (fun t d e=>hp ⟨t,d,e⟩);generalize l:x.frz n e xs=y at f a;cases y;case p t d=>exact(a t d rfl).2
  all_goals exact⟨v,rfl,h1,f⟩
theorem Pb (h:qE V V' n) (b:Pa V V' n e xs):∀ {l:List AV} {cs:List Value},Db V l cs→Db V' (AV.frzs n e xs l) cs
 | [],cs,a=>(a:cs=[])
 | x :: r,cs,a=>by
  obtain⟨c1,c2,rfl,h1,c⟩:=a;simp only[AV.frzs];exact⟨c1,c2,rfl,A49 h b h1,Pb h b c⟩
theorem A4a (h:qE V V' n) (b:Pa V V' n e xs) {x:AV} {v:Value} (a:Rx V x v):Rx V' (x.frz n e xs) v:=by
 cases x;case ag l=>obtain⟨cs,h1,c⟩:=a;simp only[AV.frz];exact⟨cs,h1,Pb h b c⟩
 all_goals
  simp only[Rx]at a;exact Rx.of1 (Yx h b a).1
theorem a9 (h:qE V V' n) (c:Pa V V' n e xs):∀ {l:List AV} {a:List Value},KJ V l a→KJ V' (AV.frzs n e xs l) a
 | [],a,b=>(b:a=[])
 | x :: r,a,b=>by
  obtain⟨v,f,rfl,h1,d⟩:=b;simp only[AV.frzs];exact⟨v,f,rfl,A4a h c h1,a9 h c d⟩
theorem qF (h:qE V V' n) (c:Pa V V' n e xs) {x:AV} {v:Value} (a:B1 V x v):B1 V' (x.frz n e xs) v:=by
 cases x;case ag l=>obtain⟨cs,h1,b⟩:=a;simp only[AV.frz];exact⟨cs,h1,Pb h c b⟩
 case tup l=>obtain⟨d,h1,b⟩:=a;simp only[AV.frz];exact⟨d,h1,a9 h c b⟩
 all_goals
  simp only[B1]at a;exact A43 (Yx h c a).1
end
theorem bA (hs:Bn w0 K O0 nt ds σ ρ a w) (n:Nat) (N:¬GX n=true) {U:Obj} (hn:lk n σ.objs=some U) {e:Ty} {xs:List e.den}
  (Q:qE (vw w O0 σ ρ) (vw w O0 ⟨DJ n e xs σ.env,A7 n e xs (del n σ.objs)⟩ ρ) n→Pa (vw w O0 σ ρ) (vw w O0 ⟨DJ n e xs σ.env,A7 n e xs (del n σ.objs)⟩ ρ) n e xs) :
  Bn w0 K O0 nt ds ⟨DJ n e xs σ.env,A7 n e xs (del n σ.objs)⟩ ρ a w:=by
 have F:∀m x,lk m (A7 n e xs (del n σ.objs))=some x→m≠n∧∃y,lk m σ.objs=some y∧x=y.frz n e xs:=by
  intro m x d;rw[Cc,Qu]at d;split at d
  ·simp at d
  ·rename_i B;simp only[No]at d;grind
 have h:∀m,Gt ⟨DJ n e xs σ.env,A7 n e xs (del n σ.objs)⟩ m↔(Gt σ m∧m≠n):=by
  intro m;constructor
  ·rintro⟨x,C⟩;obtain⟨h1,y,g,_⟩:=F m x C;exact⟨⟨y,g⟩,h1⟩
  ·rintro⟨⟨x,C⟩,B⟩;exact⟨x.frz n e xs,by simp[Cc,Qu,B,C]⟩
 have hF:qE (vw w O0 σ ρ) (vw w O0 ⟨DJ n e xs σ.env,A7 n e xs (del n σ.objs)⟩ ρ) n:=by
  refine⟨rfl,rfl,fun m h1 g=>(h m).2 ⟨h1,g⟩,fun b f A=>?_,fun b f A=>?_⟩
  ·rcases A with h0|⟨m,c,d⟩
   ·exact f (.inl h0)
   ·exact f (.inr ⟨m,((h m).1 c).1,d⟩)
  ·have f:bk (ρ n) b:=f;rcases A with h0|⟨m,c,d⟩
   ·exact(hs.free n b ⟨_,hn⟩ f).2 h0
   ·exact((h m).1 c).2 (hs.dist m n b ((h m).1 c).1 ⟨_,hn⟩ d f)
 have t:=Q hF;have P:∀p∈ds.pin,Gt ⟨DJ n e xs σ.env,A7 n e xs (del n σ.objs)⟩ p.1∧ρ p.1=p.2∧(A69 p.2=true∨GX p.1=true):=by
  intro p hp;obtain⟨h1,g,q⟩:=hs.pin p hp;refine⟨(h p.1).2 ⟨h1,fun j=>?_⟩,g,q⟩;have q:A69 p.2=true:=q.resolve_right (by rw[j];exact N);have D:seat (ρ n):=t.seat;rw[←j,g]at D;rcases D with ⟨_,_,_,E⟩|⟨_,E⟩<;>rw[E]at q<;>cases q
 refine⟨hs.frm,hs.nt,hs.defers,P,?_,?_,?_,?_⟩
 ·intro m x d;obtain⟨B,y,r,rfl⟩:=F m x d;have i:=hs.objs m y r;cases y with
  | arr u j J=>exact A2.keeps (V:=(vw w O0 σ ρ).but n) hF.keeps (fun _ _=>rfl) i
  | box u st fs =>
   obtain⟨h0,b,cs,c,hh,M⟩:=i;exact⟨fun R=>by rw[SA];exact h0 R,b,cs,c,hh,Pb hF t M⟩
  | nest u S T j J c=>exact A2.keeps (V:=(vw w O0 σ ρ).but n) (o:=.nest u S T j J c) hF.keeps (fun _ _=>rfl) (My (V:=vw w O0 σ ρ) (V':=(vw w O0 σ ρ).but n) rfl rfl i)
  | mapo k v l=>exact A2.keeps (V:=(vw w O0 σ ρ).but n) hF.keeps (fun _ _=>rfl) i
  | frame ab fs =>
   obtain⟨h0,h1⟩:=i;refine⟨h0,fun s z H=>?_⟩;simp only[M3,No]at H;obtain⟨y,r,rfl⟩:=H;exact qF hF t (h1 s y r)
  | loop L=>exact A2.keeps (V:=(vw w O0 σ ρ).but n) hF.keeps (fun _ _=>rfl) i
  | itr X aa Y Z W=>exact A2.keeps (V:=(vw w O0 σ ρ).but n) hF.keeps (fun _ _=>rfl) i
  | dfr=>exact A2.keeps (V:=(vw w O0 σ ρ).but n) hF.keeps (fun _ _=>rfl) i
 ·intro m b c f;exact hs.free m b ((h m).1 c).1 f
 ·intro m I b c O h1 g;exact hs.dist m I b ((h m).1 c).1 ((h I).1 O).1 h1 g
 ·intro s v G;simp only[M3,No]at G;obtain⟨y,r,rfl⟩:=G;exact qF hF t (hs.env s y r)
theorem A4b (hs:Bn w0 K O0 nt ds σ ρ a w) (n:Nat):Bn w0 K O0 nt ds (frz n σ) ρ a w:=by
 unfold frz;split
 ·exact hs
 rename_i b;cases hn:lk n σ.objs with
 | none=>exact hs
 | some d =>
 cases d with
 | box et st fs=>exact hs
 | mapo k v l=>exact hs
 | frame q fs=>exact hs
 | loop L=>exact hs
 | itr j p m o f=>exact hs
 | dfr=>exact hs
 | arr et e xs=>exact bA hs n b hn fun h=>h.arr (hs.objs n _ hn)
 | nest et g k e xs c =>
  cases c with
  | some i=>exact hs
  | none=>exact bA hs n b hn fun h=>h.nest (hs.objs n _ hn)
theorem K9:∀ {l:List Nat} {σ:St},Bn w0 K O0 nt ds σ ρ a w→Bn w0 K O0 nt ds (Ck l σ) ρ a w
 | [],_,h=>h
 | n :: r,σ,h=>K9 (l:=r) (σ:=frz n σ) (A4b h n)
end
end
section
open Go Go.RowKit
section
variable {P:Program} {tb:Tb} {w0:World} {K O0:Nat→Prop} {nt:Nat} {ds:Fp} {σ σ':St} {ρ:Nat→Value} {a:Act} {w:World} {vc:Prop}
theorem A4c (hs:Bn w0 K O0 nt ds σ ρ a w) (bs:∀b,K b→b<w0.heap.size) (bt:∀b,O0 b→b<w0.heap.size) (hT:DL P tb) {d:Nat} (bx:d<nt) {t ty:TypeId} {x y:Operand} {n i len:Nat} {e:Ty} {v:AV}
  (cm:Aj σ x=some (.nin n e i len)) (cn:Aj σ y=some v) {et el:TypeId} {k:Ty} {xs:List (k.den×List e.den)} (hn:lk n σ.objs=some (.nest et el k e xs none)) (ca:GX n=false)
  (hu:P.underlying t=some (.slice el)) {te:TI} (ao:lk el tb.ty=some te) (ap:te.ty=e) (h:Ll σ d n et el k e xs i te.bytes (O6 σ e v)=some (vc,σ')) (ab:vc) :
  ∃z w' ρ',(Builtin.append_ #[t,t] ty #[a.eval x,a.eval y]).run P w=.ok z w'∧Bn w0 K O0 nt ds σ' ρ' (a.put (some d) z) w':=by
 have av:GK (vw w O0 σ ρ) σ a.eval:=D5 hs.env;cases aq:O6 σ e v with
 | none=>rw[aq]at h;simp[Ll]at h
 | some ys =>
  rw[aq]at h;simp only[Ll]at h;split at h
  ·rename_i aw;have am:lk d σ.objs=none:=by simpa using aw.1
   cases h;obtain⟨cs,W⟩:=Sy hs.objs aq (av y _ cn);obtain⟨cw,ct,ad,c,U,J,E,cc,dc⟩:=av x _ cm;have J:ρ n=.tuple ct:=J;have be:=hs.objs n _ hn;have ax:=Sv (z:=(k.dflt,[])) be J E;obtain⟨o,ins,cells,ck,C⟩:=be;obtain rfl:=ck.tup J;have E:ins[i]?=some U:=by simpa using E
   obtain⟨c1,dd,bw,cj,s⟩:=C.row i _ _ ax E;rcases s with ⟨s,_⟩|⟨_,cy,p,bg,N,bz⟩
   ·cases s
   generalize db:xs.getD i (k.dflt,[])=row at *;obtain⟨z,w',Q,D,B,an,bf⟩:∃z w',(Builtin.append_ #[t,t] ty #[a.eval x,a.eval y]).run P w=.ok z w'∧w'.ownsRow 0 el e.size z (row.2.length+ys.length) (bg++cs)∧w.grownBy w' (blk U)∧row.2.length+ys.length≤AO∧(blk z=blk U∨∀b,blk z=some b→w.heap.size≤b):=by
    rcases cc with G|⟨G,a0,cl⟩
    ·rw[G];obtain⟨z,w',Q,D,B,an⟩:=Gc (ty:=ty) hT hu ao ap N W ab (NO _);have bf:=Ht (ty:=ty) hT hu ao ap N W ab Q;rw[S0 N]at B;exact⟨z,w',Q,D,B,an,bf⟩
    ·subst G;have bc:=K5 N;have ci:row.2=[]:=nO bc.symm;have cb:bg=[]:=nO (by rw[N.1,←bc,ACw]);subst cb;have co:0<ys.length:=by
      cases ys with
      | nil=>simp at aw
      | cons _ _=>simp
     rw[cl];rw[ci]at ab ⊢;obtain⟨z,w',Q,D,B⟩:=R1 (ty:=ty) hT hu ao ap (xs:=([]:List e.den)) (a:=a0) (Sx w (own O0 σ ρ) e a0 0) W co ab;refine⟨z,w',Q,⟨D.1,D.2.imp (fun h=>h) fun⟨g,cap,ah,e,_,r⟩=>⟨g,cap,ah,e,NO _,r⟩⟩,B,by simpa using W.max,.inr fun b f=>?_⟩;rcases D.2 with ⟨h1,_⟩|⟨g,cap,ah,h1,q,_⟩
     ·rw[h1]at f;simp[blk]at f
     ·rw[h1]at f;simp[blk]at f;omega
   have Y:∀b,bk (ρ n) b↔blk o=some b∨∃(j:Nat) (u:Value),ins[j]?=some u∧blk u=some b:=fun b=>by rw[J];exact A9
   have cz:i<ins.length:=(aT.1 E).1;have bd:n≠d:=fun l=>by rw[l,am]at hn;cases hn
   generalize az:(Value.tuple (o :: ins.set i (.slice none 0 0)).toArray)=loc;have af:Ek (Ek ρ n loc) d z n=loc:=by simp[Ek,bd]
   have ae:Ek (Ek ρ n loc) d z d=z:=Bj _ _ _;have ag:∀m,m≠n→m≠d→Ek (Ek ρ n loc) d z m=ρ m:=fun m h1 q=>by simp[Ek,h1,q]
   generalize Ek (Ek ρ n loc) d z=ρ' at af ae ag;have aa:∀(j:Nat) (u:Value),(ins.set i (.slice none 0 0))[j]?=some u→(j=i∧u=.slice none 0 0)∨(j≠i∧ins[j]?=some u):=by grind
   have au:∀b,bk loc b→blk o=some b∨∃(j:Nat) (u:Value),j≠i∧ins[j]?=some u∧blk u=some b:=by grind [A9,blk]
   have bv:∀b,bk loc b→bk (ρ n) b:=fun b f=>(Y b).2 ((au b f).imp id fun⟨j,u,_,h1,q⟩=>⟨j,u,h1,q⟩);have Z:∀b,blk U=some b→bk (ρ n) b:=fun b f=>(Y b).2 (.inr ⟨i,_,E,f⟩);have cx:∀b,bk z b→blk z=some b:=fun b f=>by
    rcases D.2 with ⟨G,_⟩|⟨g,cap,ah,G,_⟩<;>rw[G]at f ⊢<;>exact MD.1 f
   have cr:∀b,bk z b→blk U=some b∨w.heap.size≤b:=fun b f=>by grind
   have ba:∀b,bk (ρ n) b→b<w.heap.size:=fun b f=>(hs.objs n _ hn).block_lt f;have da:∀b,bk loc b→blk U≠some b:=by
    intro b f G;rcases au b f with h1|⟨j,u,h1,q,s⟩
    ·exact C.out i b _ E G h1
    ·exact h1 (C.dist j i b u _ q E s G)
   have ay:(row.2++ys).length=row.2.length+ys.length:=by simp
   let S:St:=⟨(d,.sr d e 0 (row.2.length+ys.length)) :: Dy n [] σ.env,(d,.arr el e (row.2++ys)) :: (n,.nest et el k e xs (some i)) :: CZ n [] σ.objs⟩
   have ar:∀m H,lk m S.objs=some H→(m=d∧H=.arr el e (row.2++ys))∨(m=n∧m≠d∧H=.nest et el k e xs (some i))∨(m≠d∧m≠n∧∃A,lk m σ.objs=some A∧H=A.trn n []):=by
    intro m H p;simp only[S,lk]at p;split at p
    ·rename_i l;cases p;exact .inl ⟨l,rfl⟩
    ·rename_i l;split at p
     ·rename_i ai;cases p;exact .inr (.inl ⟨ai,l,rfl⟩)
     ·rename_i ai;rw[Dd]at p;split at p
      ·cases p
      ·simp only[No]at p;obtain⟨A,h1,rfl⟩:=p;exact .inr (.inr ⟨l,ai,A,h1,rfl⟩)
   have bu:∀m,m≠d→m≠n→∀A,lk m σ.objs=some A→lk m S.objs=some (A.trn n []):=by grind [lk,Dd,AY]
   have cg:∀b,b<w.heap.size→¬own O0 σ ρ b→¬own O0 S ρ' b:=by
    intro b f I cq;rcases cq with h0|⟨m,⟨H,cf⟩,L⟩
    ·exact I (.inl h0)
    ·rcases ar m H cf with ⟨rfl,_⟩|⟨rfl,_,_⟩|⟨h1,q,A,s,_⟩
     ·rw[ae]at L;rcases cr b L with F|F
      ·exact I (.inr ⟨n,⟨_,hn⟩,Z b F⟩)
      ·omega
     ·rw[af]at L;exact I (.inr ⟨_,⟨_,hn⟩,bv b L⟩)
     ·rw[ag m q h1]at L;exact I (.inr ⟨m,⟨A,s⟩,L⟩)
   have ch:plc loc=o:=by rw[←az];rfl
   have X:Qx (vw w O0 σ ρ) (vw w' O0 S ρ') n []:=by
    refine⟨cg,fun m p _=>?_,fun m p _ ce=>?_,⟨_,J⟩,?_,fun b f I=>B.block b f fun l=>I (.inr ⟨n,⟨_,hn⟩,Z b l.symm⟩)⟩
    ·obtain⟨A,h1⟩:=p;by_cases bb:m=n
     ·subst bb;exact⟨.nest et el k e xs (some i),by simp[S,lk,bd]⟩
     ·have cd:m≠d:=fun l=>by rw[l,am]at h1;cases h1
      exact⟨_,bu m cd bb A h1⟩
    ·obtain⟨A,h1⟩:=p;exact ag m ce (fun l=>by rw[l,am]at h1;cases h1)
    ·show plc (ρ' n)=plc (ρ n);rw[af,ch,J];rfl
   have M:CW ⟨w,own O0 σ ρ,fun _=>False,ρ⟩ (vw w' O0 S ρ'):=⟨X.O,fun _ h=>h.elim,fun _ h=>h.elim,X.heap⟩;refine⟨z,w',ρ',Q,hs.swap bs bt (T:=fun m=>m=n) (fun m p=>by obtain rfl:m=n:=p;exact⟨ca,_,hn,by rw[J];exact .inr ⟨_,rfl⟩⟩) (new:=[(d,.arr el e (row.2++ys)),(n,.nest et el k e xs (some i))]) B.os B.tape B.output B.size ?_ ?_ ?_ ?_ ?_ ?_ ?_ ?_⟩
   ·exact fun b f I=>B.block b f fun l=>I n rfl (Z b l.symm)
   ·grind [lk]
   ·grind [lk]
   ·grind [lk]
   ·grind [lk]
   ·grind [bk,lk]
   ·intro m H p;rcases ar m H p with ⟨rfl,rfl⟩|⟨rfl,_,rfl⟩|⟨h1,q,A,s,rfl⟩
    ·rw[ae];refine⟨by rw[ay];exact an,_,by rw[ay];exact D,?_⟩;exact Dv.keeps M (K7 bz W.elems N.1)
    ·rw[af];refine⟨o,ins.set i (.slice none 0 0),cells,.inl az.symm,C.max,by rw[AAm];exact C.len,Jv (fun b f=>B.block b (ba b ((Y b).2 (.inl f))) fun l=>C.out i b _ E l.symm f) C.own,fun j cu u h1 q=>?_,?_,?_⟩
     ·rcases aa j u q with ⟨rfl,rfl⟩|⟨s,F⟩
      ·rw[ax]at h1;cases h1;exact⟨c1,_,bw,Bq.mono M.O M.heap cj,.inl ⟨by simp,rfl⟩⟩
      ·obtain⟨c2,bm,bn,bo,ak⟩:=C.row j cu u h1 F;rcases ak with ⟨ak,_⟩|⟨_,bp,bq⟩
       ·cases ak
       ·refine⟨c2,bm,bn,Bq.mono M.O M.heap bo,.inr ⟨AB8.2 (fun l=>s (by injection l with l;exact l.symm)),bp,?_⟩⟩;exact OC.keeps (V:=⟨w,own O0 σ ρ,fun _=>False,ρ⟩) M (fun b f=>B.block b (ba b ((Y b).2 (.inr ⟨j,u,F,f⟩))) fun l=>s (C.dist j i b u _ F E f l.symm)) bq
     ·intro bh bi b bj bl h1 q s F;rcases aa bh bj h1 with ⟨_,rfl⟩|⟨_,al⟩
      ·simp[blk]at s
      ·rcases aa bi bl q with ⟨_,rfl⟩|⟨_,br⟩
       ·simp[blk]at F
       ·exact C.dist bh bi b bj bl al br s F
     ·intro j b u h1 q;rcases aa j u h1 with ⟨_,rfl⟩|⟨_,al⟩
      ·simp[blk]at q
      ·exact C.out j b u al q
    ·rw[ag m q h1];refine qC X (fun b f=>B.block b ((hs.objs m A s).block_lt f) fun l=>q (hs.dist m n b ⟨_,s⟩ ⟨_,hn⟩ f (Z b l.symm))) (hs.objs m A s)
   ·intro s2 bm R;rw[K4 a d z s2 (by rw[hs.nt];exact bx)];simp only[S,lk]at R;split at R
    ·rename_i aj;cases R;rw[BY aj];refine⟨⟨.arr el e (row.2++ys),by simp[S,lk]⟩,?_⟩;show DK (plc (ρ' d)) e.size 0 _ z;rw[ae,Hs D];exact Fh D
    ·rename_i aj;rw[At aj];rw[Fl]at R;simp only[No]at R;obtain⟨cv,cp,rfl⟩:=R;exact Yw X (hs.env s2 cv cp)
  ·cases h
end
end
section
open Go Go.RowKit
theorem Yy {w:World} {et:TypeId} {sz len g m c:Nat} {cells:List Value} (h:w.ownsRow 0 et sz (.slice (some ⟨g,0,none⟩) m c) len cells) {p:Nat} (hp:p<len*sz) (v:Value) :
  ∃a:List Value,w.heap[g]?=some (.cells a.toArray et (0,0))∧p+1≤a.length∧(w.setRow g (Az a p [v]).toArray).ownsRow 0 et sz (.slice (some ⟨g,0,none⟩) m c) len (cells.set p v):=by
 obtain⟨t,l⟩:=h;rcases l with ⟨d,_⟩|⟨y,cap,a,d,z,i,e,o,f,u⟩
 ·cases d
 ·injection d with b q r
  injection b with b
  injection b with b
  subst b;have A:len*sz≤cap*sz:=oS _ e;have B:a.toList.length=cap*sz:=by rw[←f];simp
  have n:p + [v].length≤a.toList.length:=by simp only[aS];omega
  have s:w.heap[g]?=some (.cells a.toList.toArray et (0,0)):=by simpa using i
  have k:Az a.toList p [v]=a.toList.set p v:=by
   apply ABJ;intro j;simp only[Az,oF,AAM,OS,AAe,AAz,aS,AAy];have x:min p a.toList.length=p:=by omega
   simp only[x];by_cases c1:j<p
   ·grind
   ·grind
  refine⟨a.toList,s,by simpa using n,?_,.inr ⟨g,cap,_,by rw[q,r],NO _,setRow_heap w g _ _ et _ i,e,o,?_,?_⟩⟩
  ·rw[AAm];exact t
  ·rw[k];simp[f]
  ·rw[k,←u];simp[List.take_set]
section
variable {P:Program} {tb:Tb} {w0:World} {K O0:Nat→Prop} {nt:Nat} {ds:Fp} {σ σ':St} {ρ:Nat→Value} {a:Act} {w:World} {vc:Prop}
theorem yZ (hs:Bn w0 K O0 nt ds σ ρ a w) (bl:∀b,K b→b<w0.heap.size) (bm:∀b,O0 b→b<w0.heap.size) (hT:DL P tb) {id:TypeId} {ti:TI} (cg:lk id tb.ty=some ti) {x y:Operand} {n m i hi:Nat} {k e:Ty} (ch:ti.ty=.slice e) {cr:List Nat}
  (ci:Aj σ x=some (.ep n (.agg (.prod k (.slice e))) i cr k.size)) (cm:Aj σ y=some (.sr m e 0 hi)) {et B:TypeId} {xs:List (k.den×List e.den)} {ys:List e.den} (hn:lk n σ.objs=some (.nest et B k e xs (some i))) (G:lk m σ.objs=some (.arr B e ys))
  (bt:GX n=false) (cy:GX m=false) (dc:hi=ys.length) :
  ∃w' ρ',(Instr.storeAt id (a.eval x) (a.eval y)).run P w=.ok () w'∧Bn w0 K O0 nt ds ⟨Dy n [m] σ.env,(n,.nest et B k e (xs.set i ((xs.getD i (k.dflt,[])).1,ys)) none) :: CZ n [m] σ.objs⟩ ρ' a w':=by
 have ar:GK (vw w O0 σ ρ) σ a.eval:=D5 hs.env;have cb:m≠n:=fun d=>by rw[d,hn]at G;cases G
 obtain⟨cw,g,bd,c,al,bx,ck⟩:=ar x _ ci;obtain⟨cx,bg,cq,bh,N,_,da,ct,cu,dd,_,h0,_⟩:=ar y _ cm;obtain⟨o,ins,cells,az,t⟩:=hs.objs n _ hn;have ao:OC (vw w O0 σ ρ) B e ys (ρ m):=hs.objs m _ G;have aw:=hs.objs m _ G;have N:plc (ρ m)=.slice bg cq bh:=N;rw[PO aw]at N;have cp:a.eval y=ρ m:=by
  obtain⟨rfl,rfl⟩:=h0 rfl;obtain⟨_,de,db,_⟩:=ao;grind [K5]
 have al:plc (ρ n)=.slice (some ⟨g,0,none⟩) bd c:=al;have cc:o=.slice (some ⟨g,0,none⟩) bd c:=by rw[←az.plc];exact al
 subst cc;have ca:=K5 t.own;subst ca;have M:i<xs.length:=bx;have aj:i<ins.length:=by rw[t.len];exact M
 have aa:ρ n=.tuple ((.slice (some ⟨g,0,none⟩) xs.length c) :: ins).toArray:=az.resolve_right fun h=>by rw[h.2.2]at aj;simp at aj
 have hp:i*(k.size+1)+k.size<xs.length*(k.size+1):=by
  have:(i+1)*(k.size+1)≤xs.length*(k.size+1):=oS _ M;rw[AB0]at this;omega
 obtain⟨Q,bu,bq,Y⟩:=Yy t.own hp (ρ m);have ce:(ρ m).oneCell'=true:=by rw[N];rfl
 have W:(a.eval y).cells=#[ρ m]:=by rw[cp,N];rfl
 have ay:=MH (P:=P) (xv:=a.eval y) (hT _ _ cg) bu (off:=i*(k.size+1)+k.size) (by rw[W,ch];rfl) (by rw[W];simpa using bq) (by rw[W];intro u hu;simp at hu;subst hu;exact ce);rw[W]at ay;refine⟨_,Ek ρ n (.tuple ((.slice (some ⟨g,0,none⟩) xs.length c) :: ins.set i (ρ m)).toArray),by rw[ck];exact ay,?_⟩;have E:=F9 w g (Az Q (i*(k.size+1)+k.size) [ρ m]).toArray;change Bn w0 K O0 nt ds _ _ a (w.setRow g (Az Q (i*(k.size+1)+k.size) [ρ m]).toArray);have Y:(w.setRow g (Az Q (i*(k.size+1)+k.size) [ρ m]).toArray).ownsRow 0 et (k.size+1) (.slice (some ⟨g,0,none⟩) xs.length c) xs.length (cells.set (i*(k.size+1)+k.size) (ρ m)):=Y;generalize w.setRow g (Az Q (i*(k.size+1)+k.size) [ρ m]).toArray=w' at E Y;generalize av:(Value.tuple ((.slice (some ⟨g,0,none⟩) xs.length c) :: ins.set i (ρ m)).toArray)=loc;have ab:Ek ρ n loc n=loc:=Bj _ _ _;have ad:∀j,j≠n→Ek ρ n loc j=ρ j:=fun j h1=>by simp[Ek,h1]
 generalize Ek ρ n loc=ρ' at ab ad;have aq:∀b,bk (ρ n) b↔blk (.slice (some ⟨g,0,none⟩) xs.length c)=some b∨∃(j:Nat) (u:Value),ins[j]?=some u∧blk u=some b:=fun b=>by rw[aa];exact A9
 have Z:∀(j:Nat) (u:Value),(ins.set i (ρ m))[j]?=some u→(j=i∧u=ρ m)∨(j≠i∧ins[j]?=some u):=by grind
 have ag:∀b,blk (ρ m)=some b→bk (ρ m) b:=fun b f=>.inl f;have bo:∀b,bk loc b→bk (ρ n) b∨blk (ρ m)=some b:=by grind [A9]
 have br:∀b,bk (ρ n) b→blk (ρ m)=some b→False:=fun b h1 s=>cb (hs.dist m n b ⟨_,G⟩ ⟨_,hn⟩ (ag b s) h1);have ah:bk (ρ n) g:=(aq g).2 (.inl rfl);have bw:∀b,bk (ρ n) b→b<w.heap.size:=fun b f=>(hs.objs n _ hn).block_lt f;have bz:∀b,blk (ρ m)=some b→b<w.heap.size:=fun b f=>aw.block_lt (ag b f)
 let S:St:=⟨Dy n [m] σ.env,(n,.nest et B k e (xs.set i ((xs.getD i (k.dflt,[])).1,ys)) none) :: CZ n [m] σ.objs⟩
 have ap:∀j C,lk j S.objs=some C→(j=n∧C=.nest et B k e (xs.set i ((xs.getD i (k.dflt,[])).1,ys)) none)∨(j≠n∧j≠m∧∃r,lk j σ.objs=some r∧C=r.trn n [m]):=by
  intro j C p;simp only[S,lk]at p;split at p
  ·grind
  ·rename_i d;rw[Dd]at p;split at p
   ·cases p
   ·rename_i cv;simp only[No]at p;grind [AY]
 have bn:∀j,j≠n→j≠m→∀r,lk j σ.objs=some r→lk j S.objs=some (r.trn n [m]):=by grind [lk,Dd,AY]
 have cf:∀b,b<w.heap.size→¬own O0 σ ρ b→¬own O0 S ρ' b:=by
  intro b f H co;rcases co with h0|⟨j,⟨C,cd⟩,U⟩
  ·exact H (.inl h0)
  ·rcases ap j C cd with ⟨rfl,_⟩|⟨h1,s,r,l,_⟩
   ·rw[ab]at U;rcases bo b U with v|v
    ·exact H (.inr ⟨_,⟨_,hn⟩,v⟩)
    ·exact H (.inr ⟨m,⟨_,G⟩,ag b v⟩)
   ·rw[ad j h1]at U;exact H (.inr ⟨j,⟨r,l⟩,U⟩)
 have R:Qx (vw w O0 σ ρ) (vw w' O0 S ρ') n [m]:=by
  refine⟨cf,fun j p bv=>?_,fun j _ _ ak=>ad j ak,⟨_,aa⟩,?_,fun b f H=>E.block b f fun d=>?_⟩
  ·obtain⟨r,h1⟩:=p;by_cases au:j=n
   ·exact⟨.nest et B k e (xs.set i ((xs.getD i (k.dflt,[])).1,ys)) none,by simp[S,lk,au]⟩
   ·exact⟨_,bn j au (fun d=>by simp[AY,d]at bv) r h1⟩
  ·show plc (ρ' n)=plc (ρ n);rw[ab,←av,aa];rfl
  ·injection d with d
   subst d;exact H (.inr ⟨n,⟨_,hn⟩,ah⟩)
 have F:CW ⟨w,own O0 σ ρ,fun _=>False,ρ⟩ (vw w' O0 S ρ'):=⟨R.O,fun _ h=>h.elim,fun _ h=>h.elim,R.heap⟩;have ai:∀b,b<w.heap.size→b≠g→w'.heap[b]?=w.heap[b]?:=fun b h1 s=>E.block b h1 fun d=>s (by injection d);refine hs.swap bl bm (T:=fun j=>j=n∨j=m) (dst:=none) (u:=undef) (fun j p=>?_) (new:=[(n,.nest et B k e (xs.set i ((xs.getD i (k.dflt,[])).1,ys)) none)]) E.os E.tape E.output E.size ?_ ?_ ?_ ?_ ?_ ?_ ?_ ?_
 ·rcases p with rfl|rfl
  ·exact⟨bt,_,hn,by rw[aa];exact .inr ⟨_,rfl⟩⟩
  ·grind [aZ]
 ·grind
 ·grind [lk]
 ·grind [lk]
 ·grind [lk]
 ·grind [lk]
 ·grind [lk]
 ·intro j C p;rcases ap j C p with ⟨rfl,rfl⟩|⟨h1,s,r,l,rfl⟩
  ·rw[ab];have bp:cells.length=xs.length*(k.size+1):=t.own.1;refine⟨_,ins.set i (ρ m),cells.set (i*(k.size+1)+k.size) (ρ m),.inl av.symm,by rw[AAm];exact t.max,by rw[AAm,AAm];exact t.len,by rw[AAm];exact Y,fun j an u h1 s=>?_,?_,?_⟩
   ·have bs:∀(c2:List Value) (D:Value),j≠i→c2.length=k.size→(∀(q:Nat) (z:Value),(c2++[D])[q]?=some z→cells[j*(k.size+1)+q]?=some z)→∀(q:Nat) (z:Value),(c2++[D])[q]?=some z→(cells.set (i*(k.size+1)+k.size) (ρ m))[j*(k.size+1)+q]?=some z:=by
     intro c2 D cz X I q z A;have am:=(aT.1 A).1;simp only[Do,aS,X]at am;have ak:i*(k.size+1)+k.size≠j*(k.size+1)+q:=by
      intro d;rcases Nat.lt_or_ge i j with l|l
      ·have:(i+1)*(k.size+1)≤j*(k.size+1):=oS _ l;rw[AB0]at this;omega
      ·have:(j+1)*(k.size+1)≤i*(k.size+1):=oS _ (by omega);rw[AB0]at this;omega
     rw[AAy,At ak];exact I q z A
    rcases Z j u s with ⟨rfl,rfl⟩|⟨l,v⟩
    ·have cl:xs[j]?=some (xs.getD j (k.dflt,[])):=by
      rw[AT M,AS,AT M];rfl
     obtain⟨c2,D,I,J,_⟩:=t.row j _ ins[j] cl (AT aj);have cj:an=((xs.getD j (k.dflt,[])).1,ys):=by
      rw[AC9 M]at h1;exact(Option.some.inj h1).symm
     subst cj;have X:c2.length=k.size:=J.length;refine⟨c2,ρ m,fun q z A=>?_,Bq.mono F.O F.heap J,.inr ⟨rfl,.inl rfl,?_⟩⟩
     ·have am:=(aT.1 A).1;simp only[Do,aS,X]at am;rw[AAy];by_cases ax:q=k.size
      ·rw[ax,BY rfl,BY (by rw[bp];exact hp)];rw[ax,←X,AA2 (Is _),AAI]at A;exact A
      ·rw[At (by omega)];refine I q z ?_;rw[AA5 (by omega)]at A ⊢;exact A
     ·exact OC.keeps (V:=⟨w,own O0 σ ρ,fun _=>False,ρ⟩) F (fun b f=>ai b (bz b f) fun d=>br b (by rw[d];exact ah) f) ao
    ·have h1:xs[j]?=some an:=by
      rw[AAy,At (fun d=>l d.symm)]at h1;exact h1
     obtain⟨c2,D,I,J,ae⟩:=t.row j an u h1 v;rcases ae with ⟨ae,_⟩|⟨_,bi,bj⟩
     ·exact absurd (by simpa using ae) (fun d:i=j=>l d.symm)
     ·refine⟨c2,D,bs c2 D l J.length I,Bq.mono F.O F.heap J,.inr ⟨rfl,bi,?_⟩⟩;exact OC.keeps (V:=⟨w,own O0 σ ρ,fun _=>False,ρ⟩) F (fun b f=>ai b (bw b ((aq b).2 (.inr ⟨j,u,v,f⟩))) fun d=>t.out j b u v f (by rw[d];rfl)) bj
   ·intro bb bc b be bf h1 s l v;rcases Z bb be h1 with ⟨L,rfl⟩|⟨_,L⟩<;>rcases Z bc bf s with ⟨af,rfl⟩|⟨_,af⟩
    ·rw[L,af]
    ·grind
    ·grind
    ·exact t.dist bb bc b be bf L af l v
   ·intro j b u h1 s l;rcases Z j u h1 with ⟨_,rfl⟩|⟨_,L⟩
    ·grind
    ·exact t.out j b u L s l
  ·rw[ad j h1];refine qC R (fun b f=>ai b ((hs.objs j r l).block_lt f) fun d=>h1 (hs.dist j n b ⟨_,l⟩ ⟨_,hn⟩ f (by rw[d];exact ah))) (hs.objs j r l)
 ·intro s2 D ba;simp only[Fl,No]at ba;obtain⟨cs,cn,rfl⟩:=ba;exact Yw R (hs.env s2 cs cn)
end
end
section
open Go Go.RowKit
section
variable {P:Program} {tb:Tb} {w0:World} {K O0:Nat→Prop} {nt:Nat} {ds:Fp} {σ σ':St} {ρ:Nat→Value} {a:Act} {w:World} {vc:Prop}
theorem Bn.swap1 (h:Bn w0 K O0 nt ds σ ρ a w) (I:∀b,K b→b<w0.heap.size) (J:∀b,O0 b→b<w0.heap.size) {tl:List Nat} (hT:∀n,n∈tl→GX n=false∧∃o,lk n σ.objs=some o∧seat (ρ n))
  {e:Nat} (af:e∈tl∨lk e σ.objs=none) {j:Obj} {loc:Value} {w':World}
  (V:w'.os=w.os) (Z:w'.tape=w.tape) (W:w'.output=w.output) (X:w.heap.size≤w'.heap.size)
  (C:∀b,b<w.heap.size→(∀n,n∈tl→¬bk (ρ n) b)→w'.heap[b]?=w.heap[b]?)
  (Q:∀b,bk loc b→(∃m,m∈tl∧bk (ρ m) b)∨w.heap.size≤b)
  (U:∀V':Vw,V'.w=w'→CW ⟨w,own O0 σ ρ,fun _=>False,ρ⟩ V'→A2 V' j loc)
  {d:Nat} (O:d<nt) {v:AV} {u:Value} (N:∀V':Vw,V'.L e→V'.ρ e=loc→B1 V' v u) :
  Bn w0 K O0 nt ds ⟨(d,v) :: BV tl σ.env,(e,j) :: Af tl tl σ.objs⟩ (Ek ρ e loc) (a.put (some d) u) w':=by
 let S:St:=⟨(d,v) :: BV tl σ.env,(e,j) :: Af tl tl σ.objs⟩
 have E:∀m o,lk m S.objs=some o→(m=e∧o=j)∨(m≠e∧m∉tl∧∃c,lk m σ.objs=some c∧o=c.fgt tl):=by
  intro m o f;simp only[S,lk]at f;split at f
  ·grind
  ·rename_i ad;rw[BS]at f;split at f
   ·cases f
   ·rename_i ae;simp only[No]at f;grind [AZ]
 have M:∀m,m≠e→m∉tl→∀c,lk m σ.objs=some c→lk m S.objs=some (c.fgt tl):=by grind [lk,BS,AZ]
 have G:∀m,m∉tl→(∃o,lk m σ.objs=some o)→m≠e:=by grind
 have r:Ek ρ e loc e=loc:=Bj _ _ _;have z:∀m,m≠e→Ek ρ e loc m=ρ m:=fun m h1=>by simp[Ek,h1]
 generalize Ek ρ e loc=ρ' at r z;have H:∀b,b<w.heap.size→¬own O0 σ ρ b→¬own O0 S ρ' b:=by
  intro b l p ab;rcases ab with h0|⟨m,⟨o,R⟩,q⟩
  ·exact p (.inl h0)
  ·rcases E m o R with ⟨rfl,_⟩|⟨h1,i,c,g,_⟩
   ·rw[r]at q;rcases Q b q with ⟨t,Y,D⟩|D
    ·obtain⟨_,c,k,_⟩:=hT t Y;exact p (.inr ⟨t,⟨c,k⟩,D⟩)
    ·omega
   ·rw[z m h1]at q;exact p (.inr ⟨m,⟨c,g⟩,q⟩)
 have F:∀b,b<w.heap.size→¬own O0 σ ρ b→w'.heap[b]?=w.heap[b]?:=fun b l p=>C b l fun n hn B=>by
  obtain⟨_,c,k,_⟩:=hT n hn;exact p (.inr ⟨n,⟨c,k⟩,B⟩)
 have P:CW ⟨w,own O0 σ ρ,fun _=>False,ρ⟩ (vw w' O0 S ρ'):=⟨H,fun _ h=>h.elim,fun _ h=>h.elim,F⟩;have hk:CW ((vw w O0 σ ρ).buts tl) (vw w' O0 S ρ'):=by
  refine⟨H,fun m f=>?_,fun m f=>?_,F⟩
  ·obtain⟨⟨c,h1⟩,i⟩:=f;have g:m∉tl:=fun h=>by rw[(AZ _ _).2 h]at i;cases i
   exact⟨_,M m (G m g ⟨c,h1⟩) g c h1⟩
  ·obtain⟨⟨c,h1⟩,i⟩:=f;have g:m∉tl:=fun h=>by rw[(AZ _ _).2 h]at i;cases i
   exact z m (G m g ⟨c,h1⟩)
 refine h.swap I J (T:=fun m=>m∈tl) hT (new:=[(e,j)]) V Z W X C ?_ ?_ ?_ ?_ ?_ ?_ ?_
 ·grind [lk]
 ·grind [lk]
 ·grind [lk]
 ·grind [lk]
 ·grind [lk]
 ·intro m o f;rcases E m o f with ⟨rfl,rfl⟩|⟨h1,i,c,g,rfl⟩
  ·rw[r];exact U _ rfl P
  ·rw[z m h1];refine Sz hk (fun b l=>C b ((h.objs m c g).block_lt l) fun n hn B=>?_) (h.objs m c g);obtain⟨_,ag,k,_⟩:=hT n hn;exact i ((h.dist m n b ⟨_,g⟩ ⟨_,k⟩ l B)▸hn)
 ·intro s x hs;rw[K4 a d u s (by rw[h.nt];exact O)];simp only[S,lk]at hs;split at hs
  ·rename_i A;cases hs;rw[BY A];exact N _ ⟨j,by simp[S,lk]⟩ r
  ·rename_i A;rw[At A];rw[DQ]at hs;simp only[No]at hs;obtain⟨y,aa,rfl⟩:=hs;exact(PY (h.env s y aa)).keeps hk
theorem Yk.move {V:Vw} {a:TypeId} {k e:Ty} {hole:Bool} {cells cells':List Value} {i i':Nat} {x:k.den×List e.den} {u:Value} (h:Yk V a k e hole cells i x u)
  (c:∀(j:Nat) (z:Value),cells[i*(k.size+1)+j]?=some z→cells'[i'*(k.size+1)+j]?=some z):Yk V a k e hole cells' i' x u :=
 let ⟨c1,v,h1,b⟩:=h
 ⟨c1,v,fun j z d=>c j z (h1 j z d),b⟩
theorem W9 {V V':Vw} {et E A:TypeId} {k e:Ty} {xs ys:List (k.den×List e.den)} {o D z:Value} {ins f cells m:List Value} (h1:Lm V et A k e xs none o ins cells) (p:Lm V E A k e ys none D f m)
  (r:∀b,bk (.tuple (o :: ins).toArray) b→bk (.tuple (D :: f).toArray) b→False)
  (K:V'.w.ownsRow 0 et (k.size+1) z (xs.length+ys.length) (cells++m)) (L:blk z=blk o∨∀b,blk z=some b→V.w.heap.size≤b)
  (B:∀b,b<V.w.heap.size→blk o≠some b→V'.w.heap[b]?=V.w.heap[b]?) (hk:CW ⟨V.w,V.O,fun _=>False,V.ρ⟩ V') (I:xs.length+ys.length≤AO) :
  Lm V' et A k e (xs++ys) none z (ins++f) (cells++m):=by
 have F:cells.length=xs.length*(k.size+1):=h1.own.1;have G:∀(i b:Nat) (u:Value),ins[i]?=some u→blk u=some b→b<V.w.heap.size:=fun i b u hi c=>h1.block_lt (A9.2 (.inr ⟨i,u,hi,c⟩));have H:∀(i b:Nat) (u:Value),f[i]?=some u→blk u=some b→b<V.w.heap.size:=fun i b u hi c=>p.block_lt (A9.2 (.inr ⟨i,u,hi,c⟩));have C:∀(i b:Nat) (u:Value),f[i]?=some u→blk u=some b→blk o≠some b:=fun i b u hi c J=>r b (A9.2 (.inl J)) (A9.2 (.inr ⟨i,u,hi,c⟩));have y:∀(i:Nat) (u:Value),(ins++f)[i]?=some u→(i<xs.length∧ins[i]?=some u)∨(xs.length≤i∧f[i-xs.length]?=some u):=by
  intro i u hi;rw[AAM]at hi;split at hi
  ·rename_i h;rw[h1.len]at h;exact .inl ⟨h,hi⟩
  ·rename_i h;rw[h1.len]at h hi;exact .inr ⟨by omega,hi⟩
 have M:∀b,blk z=some b→(∃(i:Nat) (u:Value),ins[i]?=some u∧blk u=some b)∨(∃(i:Nat) (u:Value),f[i]?=some u∧blk u=some b)→False:=by
  intro b c hi;rcases L with d|d
  ·rw[d]at c;rcases hi with ⟨i,u,a,g⟩|⟨i,u,a,g⟩
   ·exact h1.out i b u a g c
   ·exact C i b u a g c
  ·grind
 refine⟨by rw[Do];exact I,by rw[Do,Do,h1.len,p.len],by rw[Do];exact K,fun i x u l hu=>?_,fun i j b u v hi s hu q=>?_,fun i b u hi c N=>?_⟩
 ·rcases y i u hu with ⟨d,a⟩|⟨d,a⟩
  ·have l:xs[i]?=some x:=by rwa [AA5 d]at l
   have t:=(h1.row i x u l a).move (cells':=cells++m) (i':=i) fun j z s=>by grind
   exact Yk.keeps (V:=⟨V.w,V.O,fun _=>False,V.ρ⟩) hk (fun b c=>B b (G i b u a c) (h1.out i b u a c)) t
  ·have l:ys[i-xs.length]?=some x:=by rwa [AA2 d]at l
   have t:=(p.row _ x u l a).move (cells':=cells++m) (i':=i) fun j z s=>by
    have g:i*(k.size+1)=cells.length+(i-xs.length)*(k.size+1):=by
     rw[F,←ACt];congr 1;omega
    grind
   exact Yk.keeps (V:=⟨V.w,V.O,fun _=>False,V.ρ⟩) hk (fun b c=>B b (H _ b u a c) (C _ b u a c)) t
 ·rcases y i u hi with ⟨d,a⟩|⟨d,a⟩<;>rcases y j v s with ⟨g,n⟩|⟨g,n⟩
  ·exact h1.dist i j b u v a n hu q
  ·exact(r b (A9.2 (.inr ⟨i,u,a,hu⟩)) (A9.2 (.inr ⟨_,v,n,q⟩))).elim
  ·exact(r b (A9.2 (.inr ⟨j,v,n,q⟩)) (A9.2 (.inr ⟨_,u,a,hu⟩))).elim
  ·have:=p.dist _ _ b u v a n hu q;omega
 ·grind
theorem y3 (V:Vw) (et a:TypeId) (k e:Ty):Lm V et a k e [] none (.slice none 0 0) [] [] :=
 ⟨by simp[AO],rfl,ABL V.w 0 et _,fun i x u h=>by simp at h,fun i j b u v h=>by simp at h,fun i b u h=>by simp at h⟩
theorem JO {w:World} {base:Nat} {et:TypeId} {sz b n:Nat} {loc v:Value} {cells:List Value} (f:w.ownsRow base et sz loc n cells) (h:DK loc b 0 n v):v=loc:=by
 obtain⟨a,m,c,rfl,_,_,d,e,rfl,_,h0,_⟩:=h;grind [K5]
theorem A4d {w:World} {O:Nat→Prop} {et:TypeId} {e:Ty} {xs:List e.den} {loc:Value} {cells:List Value} (d:xs.length≤AO) (a:w.ownsRow 0 et e.size loc xs.length cells) (c:Dv w O e cells xs):Src w O e loc xs cells:=by
 refine⟨?_,a.1,c,Ww (V:=⟨w,O,fun _=>False,fun _=>undef⟩) a c,d⟩;rcases a.2 with ⟨b,hn⟩|⟨g,cap,f,b,_⟩
 ·grind
 ·subst b;exact⟨some ⟨g,0,none⟩,cap,rfl,.inr ⟨_,rfl,a.cells (g:=g) rfl⟩⟩
theorem Pc {V:Vw} {et a:TypeId} {k e:Ty} {xs:List (k.den×List e.den)} {o:Value} {ins cells:List Value} (h:Lm V et a k e xs none o ins cells):Src V.w (fun _=>False) (.agg (.prod k (.slice e))) o xs cells :=
 A4d (e:=.agg (.prod k (.slice e))) (xs:=xs) h.max h.own (OG (fun _ _ h=>h) h fun _ _ _ _ _ h=>h)
theorem Qy {V:Vw} {et c:TypeId} {k e:Ty} {xs:List (k.den×List e.den)} {a:Option Nat} {loc:Value} (b:A2 V (.nest et c k e xs a) loc):seat loc:=by
 obtain⟨o,ins,cells,a,_⟩:=b;exact a.elim (fun h=>.inr ⟨_,h⟩) (fun h=>.inl ⟨_,_,_,h.1⟩)
theorem y4 (hs:Bn w0 K O0 nt ds σ ρ a w) (T:∀b,K b→b<w0.heap.size) (V:∀b,O0 b→b<w0.heap.size) (hT:DL P tb) {d:Nat} (W:d<nt) {t ty:TypeId} {x y:Operand} {n m hi C:Nat} {E A:Ty} {k e:Ty}
  (f:Aj σ x=some (.sr n E 0 hi)) (g:Aj σ y=some (.sr m A 0 C)) {et R v:TypeId} {xs ys:List (k.den×List e.den)} (hn:lk n σ.objs=some (.nest et v k e xs none)) (D:lk m σ.objs=some (.nest R v k e ys none)) (Z:n≠m)
  (ah:GX n=false) (ag:GX m=false) (hu:P.underlying t=some (.slice et)) {te:TI} (J:lk et tb.ty=some te) (L:te.ty=.agg (.prod k (.slice e))) (ab:hi=xs.length) (ad:C=ys.length) (M:(xs.length+ys.length)*te.bytes≤AO) :
  ∃z w' ρ',(Builtin.append_ #[t,t] ty #[a.eval x,a.eval y]).run P w=.ok z w' ∧
   Bn w0 K O0 nt ds ⟨(d,.sr n (.agg (.prod k (.slice e))) 0 (xs.length+ys.length)) :: BV [n,m] σ.env,(n,.nest et v k e (xs++ys) none) :: Af [n,m] [n,m] σ.objs⟩ ρ' (a.put (some d) z) w':=by
 subst ab ad;have B:GK (vw w O0 σ ρ) σ a.eval:=D5 hs.env;have F:=hs.objs n _ hn;have G:=hs.objs m _ D;have aj:=Qy F;have ak:=Qy G;obtain⟨o,ins,cells,p,l⟩:=F;obtain⟨al,O,Q,s,q⟩:=G;obtain⟨_,f⟩:=B x _ f;obtain⟨_,g⟩:=B y _ g;have f:DK (plc (ρ n)) E.size 0 xs.length (a.eval x):=f;have g:DK (plc (ρ m)) A.size 0 ys.length (a.eval y):=g;rw[p.plc]at f;rw[s.plc]at g;have f:=JO l.own f;have g:=JO q.own g;rw[f,g];obtain⟨z,w',I,H,h,X⟩:=Gc (ty:=ty) hT hu J L l.own (Pc q) M (NO _);have N:=Ht (ty:=ty) hT hu J L l.own (Pc q) M I;rw[S0 l.own]at h;refine⟨z,w',_,I,hs.swap1 (loc:=.tuple (z :: (ins++O)).toArray) T V (tl:=[n,m]) (fun j ai=>?_) (.inl (by simp)) h.os h.tape h.output h.size ?_ ?_ ?_ W ?_⟩
 ·grind
 ·exact fun b c aa=>h.block b c fun r=>aa n (by simp) (p.bk.2 (A9.2 (.inl r.symm)))
 ·intro b c;rcases A9.1 c with c|⟨i,u,hi,c⟩
  ·rcases N with h1|h1
   ·exact .inl ⟨n,by simp,p.bk.2 (A9.2 (.inl (by rw[←h1];exact c)))⟩
   ·exact .inr (h1 b c)
  ·rw[AAM]at hi;split at hi
   ·exact .inl ⟨n,by simp,p.bk.2 (A9.2 (.inr ⟨_,u,hi,c⟩))⟩
   ·exact .inl ⟨m,by simp,s.bk.2 (A9.2 (.inr ⟨_,u,hi,c⟩))⟩
 ·intro V' ae hk;subst ae;refine⟨z,ins++O,cells++Q,.inl rfl,W9 l q (fun b h1 S=>?_) H N (fun b c Y=>h.block b c fun r=>Y r.symm) hk X⟩;exact Z (hs.dist n m b ⟨_,hn⟩ ⟨_,D⟩ (p.bk.2 h1) (s.bk.2 S))
 ·intro V' U af;refine⟨U,?_⟩;show DK (plc (V'.ρ n)) _ 0 _ z;rw[af];exact Fh H
theorem A4e (hs:Bn w0 K O0 nt ds σ ρ a w) (M:∀b,K b→b<w0.heap.size) (O:∀b,O0 b→b<w0.heap.size) (hT:DL P tb) {d:Nat} (Q:d<nt) {t ty:TypeId} {x y:Operand} {m v:Nat} {q:Ty} {k e:Ty}
  (o:Aj σ x=some (.raw (.slice none 0 0))) (f:Aj σ y=some (.sr m q 0 v)) {et L p:TypeId} {ys:List (k.den×List e.den)} (S:lk m σ.objs=some (.nest L p k e ys none)) (R:lk d σ.objs=none)
  (Z:GX m=false) (hu:P.underlying t=some (.slice et)) {te:TI} (E:lk et tb.ty=some te) (F:te.ty=.agg (.prod k (.slice e))) (V:v=ys.length) (G:ys.length*te.bytes≤AO) :
  ∃z w' ρ',(Builtin.append_ #[t,t] ty #[a.eval x,a.eval y]).run P w=.ok z w' ∧
   Bn w0 K O0 nt ds ⟨(d,.sr d (.agg (.prod k (.slice e))) 0 ys.length) :: BV [m] σ.env,(d,.nest et p k e ys none) :: Af [m] [m] σ.objs⟩ ρ' (a.put (some d) z) w':=by
 subst V;have s:GK (vw w O0 σ ρ) σ a.eval:=D5 hs.env;have A:=hs.objs m _ S;have ad:=Qy A;obtain⟨ae,I,J,D,l⟩:=A;have o:a.eval x=.slice none 0 0:=s x _ o;obtain⟨_,f⟩:=s y _ f;have f:DK (plc (ρ m)) q.size 0 ys.length (a.eval y):=f;rw[D.plc]at f;have f:=JO l.own f;rw[o,f];have h:=y3 (vw w O0 σ ρ) et p k e;obtain⟨z,w',C,B,g,T⟩:=Gc (ty:=ty) hT hu E F h.own (Pc l) (by simpa using G) (NO _);have H:=Ht (ty:=ty) hT hu E F h.own (Pc l) (by simpa using G) C;rw[S0 h.own]at g;refine⟨z,w',_,C,hs.swap1 (loc:=.tuple (z :: ([]++I)).toArray) M O (tl:=[m]) (fun j aa=>?_) (.inr R) g.os g.tape g.output g.size ?_ ?_ ?_ Q ?_⟩
 ·grind
 ·exact fun b c ab=>g.block b c fun n=>by simp[blk]at n
 ·intro b c;rcases A9.1 c with c|⟨i,u,hi,c⟩
  ·rcases H with h1|h1
   ·grind [blk]
   ·exact .inr (h1 b c)
  ·exact .inl ⟨m,by simp,D.bk.2 (A9.2 (.inr ⟨_,u,by simpa using hi,c⟩))⟩
 ·intro V' W hk;subst W;refine⟨z,[]++I,[]++J,.inl rfl,?_⟩;have:=W9 h l (fun b h1 Y=>?_) B H (fun b c U=>g.block b c fun n=>U n.symm) hk T
  ·simpa using this
  ·grind [A9,blk]
 ·intro V' N X;refine⟨N,?_⟩;show DK (plc (V'.ρ d)) _ 0 _ z;rw[X];have r:=Fh B;simp only[AAW,AAS]at r;exact r
theorem lL (hs:Bn w0 K O0 nt ds σ ρ a w) (s:∀b,K b→b<w0.heap.size) (A:∀b,O0 b→b<w0.heap.size) (hT:DL P tb) {d:Option Nat} (B:∀k,d=some k→k<nt) {t u ty:TypeId} {x y:Operand}
  (h:DE tb σ d t u (Aj σ x) (Aj σ y)=some (vc,σ')) (q:vc) :
  ∃z w' ρ',(Builtin.append_ #[t,u] ty #[a.eval x,a.eval y]).run P w=.ok z w'∧Bn w0 K O0 nt ds σ' ρ' (a.put d z) w':=by
 by_cases M:∃n e hi,Aj σ x=some (.sr n e 0 hi)∧Ci (lk n σ.objs)=false
 ·exact lK hs s A hT B h q M
 unfold DE at h;split at h
 ·rename_i n e hi v j r;split at h
  ·rename_i d;split at h
   ·rename_i p;obtain⟨rfl,I⟩:=p;cases f:lk t tb.ty with
    | none=>rw[f]at h;simp[EI]at h
    | some ti =>
     rw[f]at h;unfold EI at h;split at h
     ·rename_i Q offs el b F;cases F;split at h
      ·rename_i G;subst G;obtain⟨hu,N,te,g,o⟩:=CJ (hT _ _ f) hT;rw[g]at h;unfold CV at h;split at h
       ·rename_i ti et L xs h1 hn;exact absurd ⟨n,_,hi,j,by rw[hn];rfl⟩ M
       ·rename_i ti et O k L xs h1 hn;cases h1;split at h
        ·rename_i c;obtain⟨rfl,rfl⟩:=c;unfold PN at h;split at h
         ·rename_i m E V;unfold Kz at h;split at h
          ·rename_i S ad aa R ys J;split at h
           ·rename_i c;obtain⟨rfl,W,H⟩:=c;cases D:BP (.slice (.agg (.prod k (.slice L)))) ⟨.slice (.agg (.prod aa (.slice R))),ys⟩ with
            | none=>rw[D]at h;simp[Js]at h
            | some af =>
             obtain⟨l,T⟩:=Bk D;injection l with l
             injection l with l C
             injection C with C
             subst l C;cases T;rw[D]at h;simp only[Js]at h;cases h;obtain⟨X,Y,Z⟩:=q;exact y4 hs s A hT (B _ rfl) j r hn J W I H hu g o X Y Z
           ·cases h
          ·cases h
         ·cases h
        ·cases h
       ·cases h
      ·cases h
     ·cases h
   ·cases h
  ·cases h
 ·rename_i n e i len v j r;split at h
  ·rename_i d;split at h
   ·rename_i p;subst p;cases f:lk t tb.ty with
    | none=>rw[f]at h;simp[MC]at h
    | some ti =>
     rw[f]at h;unfold MC at h;split at h
     ·rename_i Q offs el b F;cases F;split at h
      ·rename_i G;subst G;obtain⟨hu,N,te,g,o⟩:=CJ (hT _ _ f) hT;rw[g]at h;unfold Ni at h;split at h
       ·rename_i ti et O k ab xs h1 hn;cases h1;split at h
        ·rename_i c;obtain⟨rfl,rfl,I⟩:=c;exact A4c hs s A hT (B _ rfl) j r hn I hu g o h q
        ·cases h
       ·cases h
      ·cases h
     ·cases h
   ·cases h
  ·cases h
 ·rename_i v j r;split at h
  ·rename_i d;split at h
   ·rename_i p;subst p;unfold Wa at h;split at h
    ·rename_i m E V ae offs el b f;obtain⟨hu,N,te,g,o⟩:=CJ (hT _ _ f) hT;rw[g]at h;unfold Nk at h;split at h
     ·rename_i ti S O k e ys h1 J;cases h1;split at h
      ·rename_i c;subst c;unfold Nj at h;split at h
       ·rename_i c;obtain⟨U,H⟩:=c;cases h;exact A4e hs s A hT (B _ rfl) j r J (by simpa using U) H hu g o q.1 q.2
       ·cases h
      ·cases h
     ·cases h
    ·cases h
   ·cases h
  ·cases h
 ·cases h
theorem lM (hs:Bn w0 K O0 nt ds σ ρ a w) (t:∀b,K b→b<w0.heap.size) (u:∀b,O0 b→b<w0.heap.size) (hT:DL P tb) {id:TypeId} {x y:Operand} (h:HL σ (lk id tb.ty) (Aj σ x) (Aj σ y)=some (vc,σ')) (G:vc) :
  ∃w' ρ',(Instr.storeAt id (a.eval x) (a.eval y)).run P w=.ok () w'∧Bn w0 K O0 nt ds σ' ρ' a w':=by
 by_cases C:∃n e i o off,Aj σ x=some (.ep n e i o off)∧Ci (lk n σ.objs)=true
 ·obtain⟨n,e,i,o,off,g,f⟩:=C;unfold HL at h;split at h
  ·grind
  ·rename_i ti N I i' Q O v D l H;rw[g]at l;cases l;unfold DS at h;split at h
   ·rename_i hn;rw[hn]at f;cases f
   ·rename_i et L k J xs j hn;split at h
    ·rename_i m E hi;split at h
     ·rename_i c;obtain⟨rfl,rfl,s⟩:=c;subst s;unfold K0 at h;split at h
      ·rename_i c;obtain⟨F,rfl,rfl⟩:=c;unfold Ky at h;split at h
       ·rename_i M p ys B;split at h
        ·rename_i c;obtain⟨rfl,z,A⟩:=c;cases d:BP (.slice E) ⟨.slice p,ys⟩ with
         | none=>rw[d]at h;simp[Jr]at h
         | some R =>
          obtain⟨q,r⟩:=Bk d;subst q;cases r;rw[d]at h;simp only[Jr]at h;cases h;exact yZ hs t u hT D F g H hn B A z G
        ·cases h
       ·cases h
      ·cases h
     ·cases h
    ·cases h
   ·cases h
  ·cases h
 ·grind [t9,Ci,lk]
end
end
end Go.Proofs.YtdapahgnpbehbaaGreat.Fw
