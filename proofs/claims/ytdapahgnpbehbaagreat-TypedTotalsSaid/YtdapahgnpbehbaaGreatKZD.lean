/- Calls by contract; stores; appends. -/
import Derived.Test.YtdapahgnpbehbaaGreatKZC
import Derived.CallsIn
import Derived.TacticsIn
import Derived.OrdersIn
import Derived.RangeFuncCalls
set_option linter.unusedVariables false
set_option linter.unusedSimpArgs false
namespace Go.Proofs.YtdapahgnpbehbaaGreat.Fw
section
open Go Go.RowKit
abbrev AC7:=@Go.MapKept.heap_set
abbrev ACu:=@Go.Oper.uponIn_enter
def RQ (w:World) (O:Nat→Prop):(ts:List Ty)→List Value→KI ts→Prop
 | [],a,_=>a=[]
 | t :: ts,a,ds=>∃(v:Value) (r:List Value),a=v :: r∧BW w O t v ds.1∧RQ w O ts r ds.2
def FR (r:Option Nat):Fence:={ fn:=fun _=>True,depth:=none,alive:=false,round:=r }
theorem KV {r:Option Nat} {n:Nat} {P:Program} {f:FuncId} {args:Array Value} {w:World} {R:Ending→World→Prop} (h:Calls P f args w R):CallsIn (FR r) n P f args w R:=by
 cases r with
 | none=>exact callsIn_wide.2 h
 | some l=>exact((callsIn_wide.2 h:CallsIn Fence.wide n P f args w R).inRound l:CallsIn _ n P f args w R)
theorem FQ (r:Option Nat) (ρ:Operand→Value) (o:Oper) (h:∀c,o.op≠.defer c):o.semAt r ρ=execOp ρ o:=by
 cases r with
 | none=>exact Oper.semAt_none ρ o
 | some l=>exact Oper.semAt_some l ρ o h
def uN (w:World) (O:Nat→Prop) (a:List RV) (u:Value) (w':World):Prop :=
 ∀nm:Nat,∃ρ',QS w O ⟨[],[]⟩ (fun _=>undef) (Il nm a) (Cj nm a) u ρ' w'
def A3m (P:Program) (f:FuncId) (a:Ac):Prop :=
 ∀(w:World) (O:Nat→Prop) (c:List Value) (ds:KI a.ins),(∀b,O b→b<w.heap.size)→RQ w O a.ins c ds→a.pre ds →
  Calls P f c.toArray w fun e w'=>∃u,e=.returned u∧uN w O (a.out ds) u w'
def Ah (P:Program) (f:FuncId) (a:Ac):Prop :=
 (∃ fn : Func, P.funcs[f]? = some fn ∧ (fn.name == "runtime.NumGoroutine") = false ∧ fn.body.isNone = false) ∧ A3m P f a
def Iq (P:Program) (tb:Tb):Prop:=∀f a,lk f tb.fns=some a→Ah P f a
theorem Jp {w w':World} {O O':Nat→Prop}:∀ {t:Ty} {cs:List Value} {d:t.den},t.flat=true→Br w O t cs d→Br w' O' t cs d
 | .int _,_,_,_,h=>h
 | .bool,_,_,_,h=>h
 | .str,_,_,_,h=>h
 | .ref _,_,_,_,h=>h
 | .slice _,_,_,hf,_=>by simp[Ty.flat]at hf
 | .prod a b,_,_,hf,h=>by
  simp only[Ty.flat,An]at hf;obtain⟨c1,c2,rfl,h1,c⟩:=h;exact⟨c1,c2,rfl,Jp hf.1 h1,Jp hf.2 c⟩
 | .agg t,cs,d,hf,h=>by
  simp only[Ty.flat]at hf;have h:Br w O t cs d:=h;exact(Jp hf h:Br w' O' t cs d)
theorem WB {w w':World} {O O':Nat→Prop} {t:Ty} {v:Value} {d:t.den} (hf:t.flat=true) (h:BW w O t v d):BW w' O' t v d :=
 let ⟨cs,h1,a⟩:=h
 ⟨cs,Jp hf h1,a⟩
theorem RR:∀ {l:List RV} (nm:Nat),l.all RV.flat=true→Cj nm l=[]
 | [],_,_=>rfl
 | .p t d :: l,nm,h=>by
  simp only[AB0,An]at h;simp[Cj,OO,RR (nm+10000) h.2]
 | .own _ _ _ :: l,nm,h=>by simp[RV.flat]at h
theorem uO {r:RV} (h:r.flat=true) (nm:Nat):∃t d,Xl nm r=.p t d∧t.flat=true:=by
 cases r with
 | p t d=>exact⟨t,d,rfl,h⟩
 | own _ _ _=>simp[RV.flat]at h
theorem uP {V V':Vw}:∀ {l:List RV} {nm:Nat} {a:List Value},l.all RV.flat=true→Jl V (Lf nm l) a→Jl V' (Lf nm l) a
 | [],_,_,_,h=>h
 | r :: l,nm,a,hf,h=>by
  simp only[AB0,An]at hf;obtain⟨v,f,rfl,h1,b⟩:=h;obtain⟨t,d,e,c⟩:=uO hf.1 nm;refine⟨v,f,rfl,?_,uP hf.2 b⟩;rw[e]at h1 ⊢;exact WB c h1
theorem uQ {V V':Vw} {l:List RV} {nm:Nat} {u:Value} (hf:l.all RV.flat=true) (h:B2 V (Il nm l) u):B2 V' (Il nm l) u:=by
 match l,hf,h with
 | [],_,h=>exact h
 | [r],hf,h =>
  simp only[AB0,List.all_nil,Bool.and_true]at hf;obtain⟨t,d,e,a⟩:=uO hf nm;simp only[Il]at h ⊢;rw[e]at h ⊢;exact WB a h
 | c :: f :: l,hf,h =>
  obtain⟨b,rfl,h1⟩:=h;exact⟨b,rfl,uP hf h1⟩
section
variable {P:Program} {tb:Tb} {w:World} {O0:Nat→Prop} {σ:St} {ρ:Nat→Value} {vc:Prop} {v:AV} {obs:List (Nat×Obj)}
theorem QS.call {c:List RV} {nm:Nat} {u:Value} {ρ':Nat→Value} {w':World} (hf:BZ (Cj nm c) σ=true)
  (h:QS w (own O0 σ ρ) ⟨[],[]⟩ (fun _=>undef) (Il nm c) (Cj nm c) u ρ' w') :
  QS w O0 σ ρ (Il nm c) (Cj nm c) u (fun n=>if (lk n (Cj nm c)).isSome then ρ' n else ρ n) w':=by
 have f:∀n,Gb (EL ⟨[],[]⟩ (Cj nm c)) n↔∃o,lk n (Cj nm c)=some o:=fun n=>by simp[Gb,EL]
 have hk:CN (vw w' (own O0 σ ρ) (EL ⟨[],[]⟩ (Cj nm c)) ρ') (vw w' O0 (EL σ (Cj nm c)) (fun n=>if (lk n (Cj nm c)).isSome then ρ' n else ρ n)):=by
  refine⟨?_,?_,?_,fun _ _ _=>rfl⟩
  ·intro b _ d e;rcases e with h0|⟨n,i,hn⟩
   ·exact d (.inl (.inl h0))
   ·rcases Lj i with ⟨o,a⟩|⟨k,j⟩
    ·refine d (.inr ⟨n,(f n).2 ⟨o,a⟩,?_⟩);simpa[a] using hn
    ·refine d (.inl (.inr ⟨n,j,?_⟩));simpa[k] using hn
  ·intro n hn;obtain⟨o,a⟩:=(f n).1 hn;exact⟨o,by simp[EL,A0,a]⟩
  ·intro n hn;obtain⟨o,a⟩:=(f n).1 hn;simp[vw,a]
 refine⟨h.below,fun n hn=>by simp[hn],h.av.keeps hk,fun n o a=>?_,fun n o b a d=>?_,fun n m o l b a g d e=>?_⟩
 ·simp only[a,ACe,AAC];exact(h.obj n o a).keeps hk (fun _ _=>rfl)
 ·simp only[a,ACe,AAC]at d;exact h.new n o b a d
 ·simp only[a,g,ACe,AAC]at d e;exact h.dist n m o l b a g d e
theorem Xv {V:Vw} {O':Nat→Prop} {l:Bool} (c:∀b,¬V.O b→¬O' b) (f:l=true→∀b,¬O' b) (e:∀n o,lk n σ.objs=some o→A1 V o (V.ρ n)) {ev:Operand→Value} (d:F4 V σ ev) :
  ∀ {ts:List Ty} {xs:List Operand} {ds:KI ts},Fh l σ ts xs=some ds→RQ V.w O' ts (xs.map ev) ds
 | [],[],ds,h=>rfl
 | [],_ :: _,ds,h=>by simp[Fh]at h
 | _ :: _,[],ds,h=>by simp[Fh]at h
 | t :: ts,x :: xs,ds,h=>by
  simp only[Fh]at h;cases a:Ae σ x with
  | none=>rw[a]at h;cases h
  | some av =>
   rw[a]at h;simp only at h;split at h
   ·rename_i y ys g i;cases h;exact⟨ev x,xs.map ev,rfl,Jo c f e g (d x av a),Xv c f e d i⟩
   ·cases h
theorem A3n (I:Iq P tb) (A:∀n o,lk n σ.objs=some o→A1 (vw w O0 σ ρ) o (ρ n)) (N:∀b,own O0 σ ρ b→b<w.heap.size) {a:Act} (p:F4 (vw w O0 σ ρ) σ a.eval) {d:Nat} {xs:List Operand} {g:Operand}
  {o:Oper} {ts:Array TypeId} (z:o.op=.call { callee:=.value g,args:=xs.toArray,argTypes:=ts })
  (h:LB tb σ d xs (Ae σ g)=some (vc,v,obs)) (C:vc) (hf:BZ obs σ=true) {next:Act→World→Prop} {Q:Exit→Act→World→Prop} {r:Option Nat}
  (hn:∀u ρ' w',QS w O0 σ ρ v obs u ρ' w'→next (a.put o.dst u) w'):o.wpIn (FR r) 0 P a w next Q:=by
 cases q:Ae σ g with
 | none=>rw[q]at h;simp[LB]at h
 | some D =>
  rw[q]at h;have K:=p g D q;unfold LB at h;split at h
  ·rename_i f G;cases G;have J:a.eval g=.func (.func f) #[] #[]:=K;cases x:lk f tb.fns with
   | none=>rw[x]at h;simp[Hw]at h
   | some k =>
    rw[x]at h;simp only[Hw]at h;cases i:Fh k.lend σ k.ins xs with
    | none=>rw[i]at h;simp[JL]at h
    | some ds =>
     rw[i]at h;simp only[JL]at h;split at h
     ·rename_i j;cases h;obtain⟨⟨fn,H,M,F⟩,B⟩:=I f k x;have O:(execOp a.eval o).run P w=.ok (.enter f (xs.map a.eval).toArray) w:=by
       have h1 : ¬ fn.name = "runtime.NumGoroutine" := by simpa using M
       have E:¬fn.body=none:=by intro e;simp[e]at F
       simp[execOp,z,resolve,Deferred.ofValue,J,invoke,callFunc,H,h1,E]
      refine⟨fun _ _=>trivial,?_⟩;rw[FQ _ _ _ (fun c e=>by rw[z]at e;cases e),O,ACu];refine⟨fun h=>(by simp[FR]at h),KV ?_⟩;by_cases s:k.lend=true
      ·rw[s]at i;have y:(k.out ds).all RV.flat=true:=by
        rcases j with j|j
        ·rw[s]at j;cases j
        ·exact j
       have m:=Xv (V:=vw w O0 σ ρ) (O':=fun _=>False) (fun _ _ h=>h) (fun _ _ h=>h) A p i;refine(B w (fun _=>False) _ ds (fun _ h=>h.elim) m C).mono fun e w' hh=>?_;obtain⟨u,rfl,t⟩:=hh;obtain⟨ρ',l⟩:=t d;refine hn u ρ w' ?_;rw[RR d y]at l ⊢;exact⟨l.below,fun _ _=>rfl,uQ y l.av,(fun _ _ h=>by cases h),(fun _ _ _ h=>by cases h),(fun _ _ _ _ _ h=>by cases h)⟩
      ·have L:k.lend=false:=by simpa using s
       rw[L]at i;have m:=Xv (V:=vw w O0 σ ρ) (O':=own O0 σ ρ) (fun _ h=>h) (fun h=>by cases h) A p i;refine(B w (own O0 σ ρ) _ ds N m C).mono fun e w' hh=>?_;obtain⟨u,rfl,t⟩:=hh;obtain⟨ρ',l⟩:=t d;exact hn u _ w' (QS.call hf l)
     ·cases h
  ·cases h
end
end
section
open Go Go.RowKit
section
variable {P:Program} {tb:Tb} {w:World} {O0:Nat→Prop} {σ:St} {ρ:Nat→Value} {vc:Prop} {v:AV} {obs:List (Nat×Obj)}
theorem Al {o:Oper} {a:Act} {u:Value} {w':World} {next:Act→World→Prop} {Q:Exit→Act→World→Prop} {r:Option Nat} (h:(execOp a.eval o).run P w=.ok (.value u) w') (hn:next (a.put o.dst u) w') (b:∀c,o.op≠.defer c:=by intro c e;cases e):o.wpIn (FR r) 0 P a w next Q:=by
 refine⟨fun _ _=>trivial,?_⟩;rw[FQ _ _ _ b,h];exact hn
theorem uR {V:Vw} (x:Value):B2 V (Ga x) x:=by
 unfold Ga;split
 ·rename_i k n;split
  ·rename_i h;exact BM h
  ·exact(rfl:(Value.int k n)=_)
 ·exact Bg _
 ·rename_i s;split
  ·rename_i h;exact S2 h
  ·exact(rfl:(Value.string s)=_)
 ·exact(rfl:x=x)
theorem Dn {V:Vw} {a:Act} (h:∀s v,lk s σ.env=some v→B2 V v (a.tmps.getD s undef)):F4 V σ a.eval:=by
 intro x v b;cases x with
 | tmp t=>exact h t v b
 | const c=>simp only[Ae]at b;cases b;exact uR c
 | global g=>simp[Ae]at b
 | func f=>simp only[Ae]at b;cases b;rfl
structure A4q (P:Program) (tb:Tb) (w:World) (O0:Nat→Prop) (σ:St) (ρ:Nat→Value) (a:Act):Prop where
 hT:DB P tb
 hF:Iq P tb
 obj:∀n o,lk n σ.objs=some o→A1 (vw w O0 σ ρ) o (ρ n)
 own:∀b,own O0 σ ρ b→b<w.heap.size
 ev:F4 (vw w O0 σ ρ) σ a.eval
theorem QS.toP {d n:Nat} {el:TypeId} {e:Ty} {xs:List e.den} {u:Value} {ρ':Nat→Value} {w':World} (hown:∀b,own O0 σ ρ b→b<w.heap.size) (hf:BZ [(d,.arr el e xs)] σ=true)
  (hq:QS w O0 σ ρ (.sr d e 0 n) [(d,.arr el e xs)] u ρ' w') (hn:n=xs.length):QS w O0 σ ρ (.p (.slice e) xs) [] u ρ w' where
 below:=hq.below
 rho:=fun _ _=>rfl
 av:=by
  have hO:∀b,¬own O0 (EL σ [(d,.arr el e xs)]) ρ' b→¬own O0 (EL σ []) ρ b:=by
   intro b hb hb';rcases hb' with h0|⟨m,⟨o,hm⟩,hmb⟩
   ·exact hb (.inl h0)
   ·have hm:lk m σ.objs=some o:=hm;have hne:lk m [(d,Obj.arr el e xs)]=none:=by
     cases h':lk m [(d,Obj.arr el e xs)] with
     | none=>rfl
     | some o'=>have:=NY hf h';rw[this]at hm;cases hm
    refine hb (.inr ⟨m,⟨o,by simp only[EL,A0,hne];simpa using hm⟩,?_⟩);rw[hq.rho m hne];exact hmb
  have hd:lk d [(d,Obj.arr el e xs)]=some (.arr el e xs):=by simp[lk]
  have hb:∀b,bk (ρ' d) b→¬own O0 (EL σ []) ρ b:=fun b hb hb'=>by
   have h1:=hq.new d _ b hd hb;have h2:=hown b hb';omega
  have hr:=Xp (V:=vw w' O0 (EL σ [(d,.arr el e xs)]) ρ') hO (fun b hb'=>hb b (.inl hb')) (hq.obj d _ hd) hq.av.2;rw[hn,HQ]at hr;obtain⟨_,_,_,_,_,_,a',c',hve,_⟩:=hq.av.2;exact⟨[u],hr,by rw[hve];rfl⟩
 obj:=fun _ _ h=>by cases h
 new:=fun _ _ _ h=>by cases h
 dist:=fun _ _ _ _ _ h=>by cases h
theorem Vd {id:TypeId} {ti:TI} (hT:D0 P tb id ti) (g:DB P tb) (r:∀n o,lk n σ.objs=some o→A1 (vw w O0 σ ρ) o (ρ n)) (A:∀b,own O0 σ ρ b→b<w.heap.size) {ev:Operand→Value} (i:F4 (vw w O0 σ ρ) σ ev) {s:Bool} {d n:Nat} {parts:List (Nat×Operand)}
  (h:BQ s σ d n parts (some ti)=some (vc,v,obs)) (f:vc) (hf:BZ obs σ=true) :
  ∃u ρ' w',(Instr.buildSlice id n (parts.map fun p=>(p.1,ev p.2)).toArray).run P w=.ok u w'∧QS w O0 σ ρ v obs u ρ' w':=by
 cases s with
 | false=>exact Oa hT g r i h f hf
 | true =>
  unfold BQ at h;split at h
  ·rename_i e offs el b z;cases hp:EX σ e 0 parts with
   | none=>rw[hp]at h;simp[BU]at h
   | some xs =>
    rw[hp]at h;simp only[BU,AAC]at h;cases h;obtain⟨a,y⟩:∃a,lk a σ.objs=none:=by
     have:∀l:List (Nat×Obj),∃m,∀k,m≤k→lk k l=none:=by
      intro l;induction l with
      | nil=>exact⟨0,fun _ _=>rfl⟩
      | cons x l C =>
       obtain⟨m,c⟩:=C;refine⟨max m (x.1+1),fun k hk=>?_⟩;have:¬k=x.1:=by omega
       obtain⟨j,o⟩:=x;simp only[lk,this,AAU];exact c k (by omega)
     obtain⟨m,c⟩:=this σ.objs;exact⟨m,c m (NO m)⟩
    have q:BZ [(a,.arr el e xs)] σ=true:=by simp[BZ,y]
    have B:BQ false σ a n parts (some ti)=some (xs.length=n∧n*e.size≤16777216,.sr a e 0 n,[(a,.arr el e xs)]):=by
     unfold BQ;rw[z];simp only;rw[hp];simp[BU]
    obtain⟨u,ρ',w',h1,t⟩:=Oa hT g r i B f q;exact⟨u,ρ,w',h1,t.toP A q f.1.symm⟩
  ·cases h
theorem mQ {a:Act} (F:A4q P tb w O0 σ ρ a) {o:Oper} (h:aq tb σ (o.dst.getD 0) o.op=some (vc,v,obs)) (C:vc) (hf:BZ obs σ=true)
  {next:Act→World→Prop} {Q:Exit→Act→World→Prop} {r:Option Nat} (hn:∀u ρ' w',QS w O0 σ ρ v obs u ρ' w'→next (a.put o.dst u) w'):o.wpIn (FR r) 0 P a w next Q:=by
 obtain⟨hT,hF,E,W,q⟩:=F;have R:∀n,(vw w O0 σ ρ).L n→∃o,A1 (vw w O0 σ ρ) o ((vw w O0 σ ρ).ρ n):=fun n ⟨o,ab⟩=>⟨o,E n o ab⟩;obtain⟨dst,op,type,pos,after,guard⟩:=o;simp only at h hn;cases op<;>simp only[aq]at h<;>try(cases h;done)
 case move x =>
  cases d:Ae σ x with
  | none=>rw[d]at h;cases h
  | some xv =>
   rw[d]at h;simp only[GF]at h;cases h;exact Al (u:=a.eval x) (by simp[execOp]) (hn _ _ _ (QS.still (q x _ d)))
 case assign x =>
  cases d:Ae σ x with
  | none=>rw[d]at h;cases h
  | some xv =>
   rw[d]at h;simp only[GF]at h;cases h;exact Al (u:=a.eval x) (by simp[execOp]) (hn _ _ _ (QS.still (q x _ d)))
 case pick c x y =>
  cases F:Ae σ c with
  | none=>rw[F]at h;simp[Jj]at h
  | some O =>
   rw[F]at h;have T:=q c O F;unfold Jj at h;split at h
   ·rename_i G;cases G;have D:=EC T;cases d:Ae σ x with
    | none=>rw[d]at h;simp[GF]at h
    | some xv =>
     rw[d]at h;simp only[GF]at h;cases h;exact Al (u:=a.eval x) (by simp[execOp,D,asBool]) (hn _ _ _ (QS.still (q x _ d)))
   ·rename_i G;cases G;have D:=EC T;cases A:Ae σ y with
    | none=>rw[A]at h;simp[GF]at h
    | some H =>
     rw[A]at h;simp only[GF]at h;cases h;exact Al (u:=a.eval y) (by simp[execOp,D,asBool]) (hn _ _ _ (QS.still (q y _ A)))
   ·cases h
 case alloc t =>
  cases j:lk t tb.ty with
  | none=>rw[j]at h;simp[JI]at h
  | some ti =>
   rw[j]at h;obtain⟨u,ρ',w',h1,k⟩:=A1h (w:=w) (O0:=O0) (ρ:=ρ) (hT _ _ j) h hf;exact Al (u:=u) (w':=w') (by simp[execOp,h1]) (hn _ _ _ k)
 case box t x =>
  cases j:lk t tb.ty with
  | none=>rw[j]at h;simp[QE]at h
  | some ti =>
   cases d:Ae σ x with
   | none=>rw[j,d]at h;simp[QE]at h
   | some xv =>
    rw[j,d]at h;obtain⟨u,ρ',w',h1,k⟩:=A4o (hT _ _ j) h (q x _ d) hf;exact Al (u:=u) (w':=w') (by simp[execOp,h1]) (hn _ _ _ k)
 case build t parts =>
  cases j:lk t tb.ty with
  | none=>rw[j]at h;simp[Hq]at h
  | some ti =>
   rw[j]at h;obtain⟨rfl,u,h1,k⟩:=A1j (hT _ _ j) E q h;have h1:(Instr.build t (parts.map fun p=>(p.1,a.eval p.2))).run P w=.ok u w:=by
    rw[←h1]
    congr 2
    apply ACI;simp
   exact Al (u:=u) (w':=w) (by simp[execOp,h1]) (hn _ _ _ (QS.still k))
 case buildSlice t n parts =>
  cases U:lk (dst.getD 0) tb.nests with
  | some aj =>
   rw[U]at h;simp only[Fi]at h;cases j:lk t tb.ty with
   | none=>rw[j]at h;simp[Hs]at h
   | some ti =>
    rw[j]at h;obtain⟨u,ρ',w',h1,k⟩:=A3h (hT _ _ j) hT E q h C hf;have h1:(Instr.buildSlice t n (parts.map fun p=>(p.1,a.eval p.2))).run P w=.ok u w':=by
     rw[←h1]
     congr 2
     apply ACI;simp
    exact Al (u:=u) (w':=w') (by simp[execOp,h1]) (hn _ _ _ k)
  | none =>
  rw[U]at h;simp only[Fi]at h;cases j:lk t tb.ty with
  | none=>rw[j]at h;simp[BQ]at h
  | some ti =>
   rw[j]at h;obtain⟨u,ρ',w',h1,k⟩:=Vd (hT _ _ j) hT E W q h C hf;have h1:(Instr.buildSlice t n (parts.map fun p=>(p.1,a.eval p.2))).run P w=.ok u w':=by
    rw[←h1]
    congr 2
    apply ACI;simp
   exact Al (u:=u) (w':=w') (by simp[execOp,h1]) (hn _ _ _ k)
 case load t x =>
  cases j:lk t tb.ty with
  | none=>rw[j]at h;simp[Im]at h
  | some ti =>
   cases d:Ae σ x with
   | none=>rw[j,d]at h;simp[Im]at h
   | some xv =>
    rw[j,d]at h;obtain⟨rfl,u,h1,k⟩:=uE (hT _ _ j) E h (q x _ d);exact Al (u:=u) (w':=w) (by simp[execOp,h1]) (hn _ _ _ (QS.still k))
 case nilCheck x =>
  cases d:Ae σ x with
  | none=>rw[d]at h;simp[R9]at h
  | some xv =>
   rw[d]at h;obtain⟨rfl,⟨ad,G⟩,k⟩:=A4n h (q x _ d);exact Al (u:=a.eval x) (w':=w) (by simp[execOp,G]) (hn _ _ _ (QS.still k))
 case binOp op t x y ao =>
  cases d:Ae σ x with
  | none=>rw[d]at h;simp[OQ]at h
  | some xv =>
   cases A:Ae σ y with
   | none=>rw[d,A]at h;cases xv<;>simp[OQ]at h
   | some H =>
    rw[d,A]at h;obtain⟨rfl,h1,u,k,B⟩:=A4j (P:=P) (t:=t) (fun D=>by
     cases j:lk t tb.ty with
     | none=>rw[j]at D;cases D
     | some ti =>
      have h0:=(hT _ _ j).2;rw[j]at D;unfold OP at D;split at D
      ·rename_i e;cases e;exact h0
      ·cases D) w h C (q x _ d) (q y _ A)
    exact Al (u:=u) (w':=w) (by simp[execOp,h1,k]) (hn _ _ _ (QS.still B))
 case unOp op t x =>
  cases d:Ae σ x with
  | none=>rw[d]at h;cases op<;>simp[tQ]at h
  | some xv =>
   rw[d]at h;obtain⟨rfl,u,k,B⟩:=A6V (P:=P) w h C (q x _ d);exact Al (u:=u) (w':=w) (by simp[execOp,k]) (hn _ _ _ (QS.still B))
 case convert s t x =>
  cases hs:lk s tb.ty with
  | none=>rw[hs]at h;simp[Ip]at h
  | some an =>
   cases j:lk t tb.ty with
   | none=>rw[hs,j]at h;simp[Ip]at h
   | some ti =>
    cases d:Ae σ x with
    | none=>rw[hs,j,d]at h;simp[Ip]at h
    | some xv =>
     rw[hs,j,d]at h;obtain⟨rfl,u,k,B⟩:=A3d (P:=P) hT rfl (hT _ _ hs) (hT _ _ j) h C (q x _ d);have k:(convert s t (a.eval x)).run P w=.ok u w:=k;exact Al (u:=u) (w':=w) (by simp[execOp,k]) (hn _ _ _ (QS.still B))
 case makeSlice t l c =>
  cases j:lk t tb.ty with
  | none=>rw[j]at h;simp[Ht]at h
  | some ti =>
   cases d:Ae σ l with
   | none=>rw[j,d]at h;simp[Ht]at h
   | some al =>
    cases A:Ae σ c with
    | none=>rw[j,d,A]at h;simp[Ht]at h
    | some O =>
     rw[j,d,A]at h;obtain⟨u,ρ',w',h1,k⟩:=A3i (hT _ _ j) hT h C (q l _ d) (q c _ A) hf;exact Al (u:=u) (w':=w') (by simp[execOp,h1]) (hn _ _ _ k)
 case slice t x lo hi af =>
  cases af with
  | some m =>
   cases lo with
   | some _=>cases hi<;>simp[aq]at h
   | none =>
    cases hi with
    | none=>simp[aq]at h
    | some h1 =>
     simp only[aq]at h;cases j:lk t tb.ty with
     | none=>rw[j]at h;simp[DZ]at h
     | some ti =>
      cases d:Ae σ x with
      | none=>rw[j,d]at h;simp[DZ]at h
      | some xv =>
       cases hh:Ae σ h1 with
       | none=>rw[j,d,hh]at h;simp[DZ]at h
       | some ai =>
        cases K:Ae σ m with
        | none=>rw[j,d,hh,K]at h;simp[DZ]at h
        | some am =>
         rw[j,d,hh,K]at h;obtain⟨rfl,u,k,B⟩:=uJ (P:=P) (V:=vw w O0 σ ρ) (hT _ _ j) hT h C (q x _ d) (q h1 _ hh) (q m _ K);have k:(Instr.sliceAt t (a.eval x) none (some (a.eval h1)) (some (a.eval m))).run P w=.ok u w:=k;exact Al (u:=u) (w':=w) (by simp[execOp,k]) (hn _ _ _ (QS.still B))
  | none =>
   simp only[aq]at h;cases j:lk t tb.ty with
   | none=>rw[j]at h;simp[Ex]at h
   | some ti =>
    cases d:Ae σ x with
    | none=>rw[j,d]at h;simp[Ex]at h
    | some xv =>
     have S:∀ {y:Option Operand} {N:Option AV},F6 σ y=some N→ZI (V:=vw w O0 σ ρ) N (y.map a.eval):=by
      intro y N A;cases y with
      | none=>simp only[F6]at A;cases A;trivial
      | some z =>
       simp only[F6,Is]at A;obtain⟨Z,ae,rfl⟩:=A;exact q z Z ae
     cases I:F6 σ lo with
     | none=>rw[j,d,I]at h;simp[Ex]at h
     | some ak =>
      cases J:F6 σ hi with
      | none=>rw[j,d,I,J]at h;simp[Ex]at h
      | some ah =>
       rw[j,d,I,J]at h;obtain⟨rfl,u,k,B⟩:=A1g (P:=P) (V:=vw w O0 σ ρ) (hT _ _ j) hT h C (q x _ d) (S I) (S J);have k:(Instr.sliceAt t (a.eval x) (lo.map a.eval) (hi.map a.eval) none).run P w=.ok u w:=k;exact Al (u:=u) (w':=w) (by simp[execOp,k]) (hn _ _ _ (QS.still B))
 case fieldAddr s x f =>
  cases hs:lk s tb.ty with
  | none=>rw[hs]at h;simp[GG]at h
  | some ti =>
   cases d:Ae σ x with
   | none=>rw[hs,d]at h;simp[GG]at h
   | some xv =>
    rw[hs,d]at h;obtain⟨rfl,u,k,B⟩:=A1c (P:=P) (hT _ _ hs) w h (q x _ d);exact Al (u:=u) (w':=w) (by simp[execOp,k]) (hn _ _ _ (QS.still B))
 case indexAddr t x i =>
  cases j:lk t tb.ty with
  | none=>rw[j]at h;simp[FE]at h
  | some ti =>
   cases d:Ae σ x with
   | none=>rw[j,d]at h;simp[FE]at h
   | some xv =>
    cases hi:Ae σ i with
    | none=>rw[j,d,hi]at h;simp[FE]at h
    | some X =>
     rw[j,d,hi]at h;obtain⟨rfl,u,k,B⟩:=A1d (P:=P) (V:=vw w O0 σ ρ) (hT _ _ j) hT h C (q x _ d) (q i _ hi) R;have k:(Instr.indexAt t (a.eval x) (a.eval i)).run P w=.ok u w:=k;exact Al (u:=u) (w':=w) (by simp[execOp,k]) (hn _ _ _ (QS.still B))
 case index t x i =>
  cases j:lk t tb.ty with
  | none=>rw[j]at h;simp[Dl]at h
  | some ti =>
   cases d:Ae σ x with
   | none=>rw[j,d]at h;simp[Dl]at h
   | some xv =>
    cases hi:Ae σ i with
    | none=>rw[j,d,hi]at h;simp[Dl]at h
    | some X =>
     rw[j,d,hi]at h;obtain⟨rfl,u,k,B⟩:=uG (P:=P) (hT _ _ j) w h C (q x _ d) (q i _ hi);exact Al (u:=u) (w':=w) (by simp[execOp,k]) (hn _ _ _ (QS.still B))
 case extract x i =>
  cases d:Ae σ x with
  | none=>rw[d]at h;simp[Dw]at h
  | some xv =>
   rw[d]at h;obtain⟨rfl,u,k,B⟩:=pM (P:=P) w h (q x _ d);exact Al (u:=u) (w':=w) (by simp[execOp,k]) (hn _ _ _ (QS.still B))
 case makeFunc fn first aa =>
  obtain⟨rfl,u,k,B⟩:=A4p (P:=P) q h;have k:(Instr.makeFunc fn (first.map a.eval) (aa.map a.eval)).run P w=.ok u w:=by
   rw[←k]
   congr 2<;>(apply ACI;simp)
  exact Al (u:=u) (w':=w) (by simp[execOp,k]) (hn _ _ _ (QS.still B))
 case makeMap t res =>
  cases res with
  | some z=>simp[aq]at h
  | none =>
   simp only[aq]at h;cases j:lk t tb.ty with
   | none=>rw[j]at h;simp[E0]at h
   | some ti =>
    rw[j]at h;obtain⟨u,ρ',w',h1,k⟩:=pR (w:=w) (O0:=O0) (ρ:=ρ) (hT _ _ j) h hf;exact Al (u:=u) (w':=w') (by simp[execOp,h1]) (hn _ _ _ k)
 case lookup t x i ok =>
  cases j:lk t tb.ty with
  | none=>rw[j]at h;simp[Hx]at h
  | some ti =>
   cases d:Ae σ x with
   | none=>rw[j,d]at h;simp[Hx]at h
   | some xv =>
    cases hi:Ae σ i with
    | none=>rw[j,d,hi]at h;simp[Hx]at h
    | some X =>
     rw[j,d,hi]at h;obtain⟨rfl,u,k,B⟩:=A3l (P:=P) (hT _ _ j) hT E h (q x _ d) (q i _ hi);exact Al (u:=u) (w':=w) (by simp[execOp,k]) (hn _ _ _ (QS.still B))
 case call c =>
  obtain⟨callee,args,argTypes⟩:=c;cases callee with
  | invoke r m=>simp[CZ]at h
  | value g =>
   simp only[CZ]at h;exact A3n hF E W q (xs:=args.toList) (ts:=argTypes) (o:=⟨dst,.call ⟨.value g,args,argTypes⟩,type,pos,after,guard⟩) (by simp) h C hf hn
  | builtin b =>
   simp only[CZ]at h;obtain⟨args⟩:=args;obtain⟨argTypes⟩:=argTypes;simp only at h;unfold Ck at h;split at h
   ·rename_i x t;cases j:lk t tb.ty with
    | none=>rw[j]at h;simp[QF]at h
    | some ti =>
     cases d:Ae σ x with
     | none=>rw[j,d]at h;simp[QF]at h
     | some xv =>
      rw[j,d]at h;obtain⟨rfl,u,k,B⟩:=A4k (P:=P) (ty:=type) (V:=vw w O0 σ ρ) R (hT _ _ j) w h (q x _ d);exact Al (u:=u) (w':=w) (by simp[execOp,resolve,invoke,builtin,k]) (hn _ _ _ (QS.still B))
   ·rename_i x y t u;cases d:Ae σ x with
    | none=>rw[d]at h;simp[CS]at h
    | some xv =>
     cases A:Ae σ y with
     | none=>rw[d,A]at h;simp[CS]at h
     | some H =>
      rw[d,A]at h;obtain⟨z,ρ',w',h1,k⟩:=uM (ty:=type) hT E h C (q x _ d) (q y _ A) hf;exact Al (u:=z) (w':=w') (by simp[execOp,resolve,invoke,builtin,h1]) (hn _ _ _ k)
   ·rename_i x y t u;cases d:Ae σ x with
    | none=>rw[d]at h;simp[OT]at h
    | some xv =>
     cases A:Ae σ y with
     | none=>rw[d,A]at h;simp[OT]at h
     | some H =>
      rw[d,A]at h;obtain⟨rfl,z,h1,k⟩:=A4l (P:=P) (ts:=#[t,u]) (ty:=type) w h (q x _ d) (q y _ A);exact Al (u:=z) (w':=w) (by simp[execOp,resolve,invoke,builtin,h1]) (hn _ _ _ (QS.still k))
   ·rename_i x y t u;cases d:Ae σ x with
    | none=>rw[d]at h;simp[OU]at h
    | some xv =>
     cases A:Ae σ y with
     | none=>rw[d,A]at h;simp[OU]at h
     | some H =>
      rw[d,A]at h;obtain⟨rfl,z,h1,k⟩:=A4m (P:=P) (ts:=#[t,u]) (ty:=type) w h (q x _ d) (q y _ A);exact Al (u:=z) (w':=w) (by simp[execOp,resolve,invoke,builtin,h1]) (hn _ _ _ (QS.still k))
   ·rename_i x y Y t u ag;cases d:Ae σ x with
    | none=>rw[d]at h;simp[Hv]at h
    | some xv =>
     cases A:Ae σ y with
     | none=>rw[d,A]at h;simp[Hv]at h
     | some H =>
      cases M:Ae σ Y with
      | none=>rw[d,A,M]at h;simp[Hv]at h
      | some Z =>
       rw[d,A,M]at h;obtain⟨rfl,z,h1,k⟩:=A3e (P:=P) (ts:=#[t,u,ag]) (ty:=type) w h (q x _ d) (q y _ A) (q Y _ M);exact Al (u:=z) (w':=w) (by simp[execOp,resolve,invoke,builtin,h1]) (hn _ _ _ (QS.still k))
   ·cases h
end
end
section
open Go Go.RowKit
section
variable {w0:World} {K O0:Nat→Prop} {nt:Nat} {ds:Fp} {σ:St} {ρ:Nat→Value} {a:Act} {w:World}
theorem A1l {n:Nat} {o:Obj} {env:List (Nat×AV)} (m:Nat):Gb ⟨env,upd n o σ.objs⟩ m↔Gb σ m:=by
 constructor
 ·rintro⟨x,a⟩;rw[GH]at a;split at a
  ·rename_i e;subst e;simp only[Is]at a;obtain⟨y,b,_⟩:=a;exact⟨y,b⟩
  ·exact⟨x,a⟩
 ·rintro⟨x,a⟩;by_cases e:m=n
  ·subst e;exact⟨o,by simp[GH,a]⟩
  ·exact⟨x,by simp[GH,e,a]⟩
theorem Bo.upd (h:Bo w0 K O0 nt ds σ ρ a w) (A:∀b,K b→b<w0.heap.size) {n:Nat} {o j:Obj} (hn:lk n σ.objs=some o) {g:Nat} (r:blk (ρ n)=some g) {w':World} (d:w.grownBy w' (some g))
  (E:A1 (vw w' O0 σ ρ) j (ρ n)):Bo w0 K O0 nt ds ⟨σ.env,Fw.upd n j σ.objs⟩ ρ a w':=by
 have i:Gb ⟨σ.env,Fw.upd n j σ.objs⟩=Gb σ:=funext fun m=>propext (A1l m);have y:vw w' O0 ⟨σ.env,Fw.upd n j σ.objs⟩ ρ=vw w' O0 σ ρ:=by
  have F:own O0 ⟨σ.env,Fw.upd n j σ.objs⟩ ρ=own O0 σ ρ:=by
   funext b;simp only[own,i]
  simp only[vw,i,F]
 have C:own O0 σ ρ g:=.inr ⟨n,⟨o,hn⟩,.inl r⟩;have hk:CN (vw w O0 σ ρ) (vw w' O0 σ ρ):=⟨fun _ _ h=>h,fun _ h=>h,fun _ _=>rfl,fun b D B=>d.block b D (fun e=>by injection e with e;subst e;exact B C)⟩;refine⟨⟨d.os.trans h.frm.os,d.tape.trans h.frm.tape,d.output.trans h.frm.output,To h.frm.size d.size,fun k t=>?_⟩,h.nt,h.defers,fun p hp=>by rw[i];exact h.pin p hp,?_,?_,?_,?_⟩
 ·refine(d.block k (AAu (A k t) h.frm.size) (fun e=>?_)).trans (h.frm.block k t);injection e with e
  subst e;exact(h.free n k ⟨o,hn⟩ (.inl r)).1 t
 ·intro m x c;rw[y];rw[GH]at c;split at c
  ·rename_i e;subst e;rw[hn]at c;simp only[AAY]at c;cases c;exact E
  ·rename_i e;refine(h.objs m x c).keeps hk fun b l=>?_;refine d.block b ((h.objs m x c).block_lt l) (fun q=>?_);injection q with q
   subst q;exact e (h.dist m n b ⟨x,c⟩ ⟨o,hn⟩ l (.inl r))
 ·intro m b f l;rw[i]at f;exact h.free m b f l
 ·intro m G b f u h1 z;rw[i]at f u;exact h.dist m G b f u h1 z
 ·intro s v hs;rw[y];exact(h.env s v hs).keeps hk
theorem Jq (n s:Nat):∀l:List (Nat×AV),lk s (FC n l)=(lk s l).map (AV.drp n)
 | []=>rfl
 | (j,v) :: l=>by
  simp only[FC,lk];split
  ·rfl
  ·exact Jq n s l
def Obj.drp (n:Nat):Obj→Obj
 | .arr et e xs=>.arr et e xs
 | .box et i fs=>.box et i (AV.drps n fs)
 | .mapo k v l=>.mapo k v l
 | .nest et b k e xs h=>.nest et b k e xs h
 | .frame j fs=>.frame j (FC n fs)
 | .loop L=>.loop L
 | .itr c g d f a=>.itr c g d f a
 | .dfr=>.dfr
theorem Bp (n s:Nat):∀l:List (Nat×Obj),lk s (BT n l)=(lk s l).map (Obj.drp n)
 | []=>rfl
 | (j,.arr et e xs) :: l=>by
  simp only[BT,lk];split
  ·rfl
  ·exact Bp n s l
 | (j,.box et i fs) :: l=>by
  simp only[BT,lk];split
  ·rfl
  ·exact Bp n s l
 | (j,.mapo k v x) :: l=>by
  simp only[BT,lk];split
  ·rfl
  ·exact Bp n s l
 | (j,.nest et b k e xs h) :: l=>by
  simp only[BT,lk];split
  ·rfl
  ·exact Bp n s l
 | (j,.frame m fs) :: l=>by
  simp only[BT,lk];split
  ·rfl
  ·exact Bp n s l
 | (j,.loop L) :: l=>by
  simp only[BT,lk];split
  ·rfl
  ·exact Bp n s l
 | (j,.itr c g d f a) :: l=>by
  simp only[BT,lk];split
  ·rfl
  ·exact Bp n s l
 | (j,.dfr) :: l=>by
  simp only[BT,lk];split
  ·rfl
  ·exact Bp n s l
def Vw.but (V:Vw) (n:Nat):Vw:=⟨V.w,V.O,fun m=>V.L m∧m≠n,V.ρ⟩
def seat (v:Value):Prop:=(∃a m c,v=.slice a m c)∨∃b,v=.tuple b
theorem Ir {V:Vw} {n:Nat} (hn:seat (V.ρ n)) {x:AV} {v:Value} (h:Sx V x v):Sx (V.but n) (x.drp n) v:=by
 cases x;case sr m e lo hi =>
  simp only[AV.drp];split
  ·trivial
  ·rename_i g;exact⟨⟨h.1,g⟩,h.2⟩
 case ep m e i p off =>
  simp only[AV.drp];split
  ·trivial
  ·rename_i g;exact⟨⟨h.1,g⟩,h.2⟩
 case nin m e i len =>
  simp only[AV.drp];split
  ·trivial
  ·rename_i g;exact⟨⟨h.1,g⟩,h.2⟩
 case bp m p off =>
  simp only[AV.drp];refine⟨⟨h.1,fun e=>?_⟩,h.2⟩;subst e;obtain⟨_,b,d,_⟩:=h;rcases hn with ⟨a,j,c,hs⟩|⟨k,hs⟩<;>(rw[hs]at d;cases d)
 case clo f ns =>
  simp only[AV.drp];refine⟨h.1,fun m o=>?_⟩;obtain⟨h1,b,d⟩:=h.2 m o;refine⟨⟨h1,fun e=>?_⟩,b,d⟩;subst e;rcases hn with ⟨a,j,c,hs⟩|⟨k,hs⟩<;>(rw[hs]at d;cases d)
 case mp m =>
  simp only[AV.drp];refine⟨⟨h.1,fun e=>?_⟩,h.2⟩;subst e;obtain⟨_,b,d,_⟩:=h;rcases hn with ⟨a,j,c,hs⟩|⟨k,hs⟩<;>(rw[hs]at d;cases d)
 case yl m =>
  simp only[AV.drp];refine⟨⟨h.1,fun e=>?_⟩,h.2⟩;subst e;obtain⟨_,b,d,_⟩:=h;rcases hn with ⟨a,j,c,hs⟩|⟨k,hs⟩<;>(rw[hs]at d;cases d)
 case ag l=>exact h.elim
 case tup l=>exact h.elim
 all_goals simp only[AV.drp];exact h
theorem A1m {V:Vw} {n:Nat} (hn:seat (V.ρ n)) {x:AV} {cs:List Value} (h:M2 V x cs):M2 (V.but n) (x.drp n) cs:=by
 cases x;case p t d=>simp only[AV.drp];exact h
 case ag l=>obtain⟨v,_,_,hf⟩:=h;exact hf.elim
 case tup l=>obtain⟨v,_,_,hf⟩:=h;exact hf.elim
 all_goals
  obtain⟨v,rfl,h1,c⟩:=h;have a:=Ir hn c;simp only[AV.drp]at a ⊢;first
   | exact⟨v,rfl,h1,a⟩
   | (split at a<;>rename_i b<;>first|(rw[BY b];exact⟨v,rfl,h1,a⟩)|(rw[At b];exact⟨v,rfl,h1,a⟩))
theorem Oc {V:Vw} {n:Nat} (hn:seat (V.ρ n)):∀ {l:List AV} {cs:List Value},DQ V l cs→DQ (V.but n) (AV.drps n l) cs
 | [],cs,h=>(h:cs=[])
 | x :: r,cs,h=>by
  obtain⟨c1,c2,rfl,h1,a⟩:=h;simp only[AV.drps];exact⟨c1,c2,rfl,A1m hn h1,Oc hn a⟩
theorem A1n {V:Vw} {n:Nat} (hn:seat (V.ρ n)) {x:AV} {v:Value} (a:RI V x v):RI (V.but n) (x.drp n) v:=by
 cases x;case ag l=>obtain⟨cs,h1,b⟩:=a;simp only[AV.drp];exact⟨cs,h1,Oc hn b⟩
 all_goals exact RI.of1 (Ir hn a)
theorem ZQ {V:Vw} {n:Nat} (hn:seat (V.ρ n)):∀ {l:List AV} {a:List Value},Jl V l a→Jl (V.but n) (AV.drps n l) a
 | [],a,h=>(h:a=[])
 | x :: r,a,h=>by
  obtain⟨v,c,rfl,h1,b⟩:=h;simp only[AV.drps];exact⟨v,c,rfl,A1n hn h1,ZQ hn b⟩
theorem A1o {V:Vw} {x:AV} {v:Value} (h:Sx V x v):B2 V x v:=by
 cases x;case ag l=>exact h.elim
 case tup l=>exact h.elim
 all_goals exact h
theorem mR {V:Vw} {n:Nat} (hn:seat (V.ρ n)) {x:AV} {v:Value} (h:B2 V x v):B2 (V.but n) (x.drp n) v:=by
 cases x;case ag l=>obtain⟨cs,h1,a⟩:=h;simp only[AV.drp];exact⟨cs,h1,Oc hn a⟩
 case tup l=>obtain⟨b,h1,a⟩:=h;simp only[AV.drp];exact⟨b,h1,ZQ hn a⟩
 all_goals exact A1o (Ir hn h)
theorem RS (n:Nat):∀l:List AV,(AV.drps n l).length=l.length
 | []=>rfl
 | _ :: r=>by simp[AV.drps,RS n r]
theorem A1p {n:Nat} {c:Obj} {env:List (Nat×AV)} (m:Nat):Gb ⟨env,upd n c (BT n σ.objs)⟩ m↔Gb σ m:=by
 constructor
 ·rintro⟨x,a⟩;rw[GH,Bp,Bp]at a;split at a
  ·rename_i e;subst e;simp only[Option.map_map,Is]at a;obtain⟨y,b,_⟩:=a;exact⟨y,b⟩
  ·simp only[Is]at a;obtain⟨y,b,_⟩:=a;exact⟨y,b⟩
 ·rintro⟨x,a⟩;by_cases e:m=n
  ·subst e;exact⟨c,by simp[GH,Bp,a]⟩
  ·exact⟨x.drp n,by simp[GH,Bp,e,a]⟩
theorem Bo.app (h:Bo w0 K O0 nt ds σ ρ a w) (aa:∀b,K b→b<w0.heap.size) (af:∀b,O0 b→b<w0.heap.size) {n:Nat} (aj:GE n=false) {et:TypeId} {e:Ty} {xs ys:List e.den} (hn:lk n σ.objs=some (.arr et e xs)) {loc:Value} {w':World} {cells:List Value}
  (G:w.grownBy w' (blk (ρ n))) (W:blk loc=blk (ρ n)∨∀b,blk loc=some b→w.heap.size≤b) (N:ys.length≤AO)
  (T:w'.ownsRow 0 et e.size loc ys.length cells) (ai:Dh w (own O0 σ ρ) e cells ys) {d:Nat} (ah:d<nt) {hi:Nat} (ak:hi=ys.length) :
  Bo w0 K O0 nt ds ⟨(d,.sr n e 0 hi) :: FC n σ.env,Fw.upd n (.arr et e ys) (BT n σ.objs)⟩ (EM ρ n loc) (a.put (some d) loc) w':=by
 subst ak;have O:∃a m c,(vw w O0 σ ρ).ρ n=.slice a m c:=by
  obtain⟨_,cells',ao,_⟩:=h.objs n _ hn;rcases ao.2 with ⟨F,_⟩|⟨g,cap,Y,F,_⟩
  ·exact⟨_,_,_,F⟩
  ·exact⟨_,_,_,F⟩
 let σ':St:=⟨(d,.sr n e 0 ys.length) :: FC n σ.env,Fw.upd n (.arr et e ys) (BT n σ.objs)⟩
 have I:∀m,Gb σ' m↔Gb σ m:=fun m=>A1p m;have M:∀b,bk loc b↔blk loc=some b:=fun b=>by
  rcases T.2 with ⟨F,_⟩|⟨g,cap,Y,F,_⟩
  ·rw[F];exact Li
  ·rw[F];exact Li
 have aw:∀b,bk (ρ n) b↔blk (ρ n)=some b:=fun b=>by
  obtain⟨ab,ar,c2,B⟩:=O;have B:ρ n=_:=B;rw[B];exact Li
 have am:∀b,bk loc b→own O0 σ ρ b∨w.heap.size≤b:=by
  intro b f;replace f:=(M b).1 f;rcases W with h1|h1
  ·exact .inl (.inr ⟨n,⟨_,hn⟩,.inl (by rw[←h1];exact f)⟩)
  ·exact .inr (h1 b f)
 have hk:CN ((vw w O0 σ ρ).but n) (vw w' O0 σ' (EM ρ n loc)):=by
  refine⟨?_,fun m N=>(I m).2 N.1,fun m N=>?_,?_⟩
  ·intro b R f E;rcases E with h0|⟨m,i,P⟩
   ·exact f (.inl h0)
   ·by_cases S:m=n
    ·subst S;rw[Bj]at P;rcases am b P with h1|h1
     ·exact f h1
     ·have R:b<w.heap.size:=R;omega
    ·have:EM ρ n loc m=ρ m:=by simp[EM,S]
     rw[this]at P;exact f (.inr ⟨m,(I m).1 i,P⟩)
  ·have:m≠n:=N.2;show EM ρ n loc m=ρ m;simp[EM,this]
  ·intro b R f;exact G.block b R (fun j=>f (.inr ⟨n,⟨_,hn⟩,.inl j.symm⟩))
 refine⟨⟨G.os.trans h.frm.os,G.tape.trans h.frm.tape,G.output.trans h.frm.output,To h.frm.size G.size,fun k H=>?_⟩,by rw[Jn];exact h.nt,by rw[GI];exact h.defers,fun p hp=>?_,?_,?_,?_,?_⟩
 ·refine(G.block k (AAu (aa k H) h.frm.size) (fun j=>?_)).trans (h.frm.block k H);exact(h.free n k ⟨_,hn⟩ (.inl j.symm)).1 H
 ·obtain⟨h1,r,A⟩:=h.pin p hp;have al:p.1≠n:=by
   intro q;obtain⟨ab,ar,c2,B⟩:=O;have B:ρ n=_:=B;rw[←q,r]at B;rw[B]at A;rcases A with A|A
   ·cases A
   ·rw[q,aj]at A;cases A
  exact⟨(I p.1).2 h1,by simp[EM,al,r],A⟩
 ·intro m x C;show A1 (vw w' O0 σ' (EM ρ n loc)) x (EM ρ n loc m);rw[GH]at C;split at C
  ·rename_i j;subst j;rw[Bp,hn]at C;simp only[AAY]at C;cases C;rw[Bj];exact⟨N,cells,T,ai.keeps (V:=(vw w O0 σ ρ).but m) hk⟩
  ·rename_i j;rw[Bp]at C;simp only[Is]at C;obtain⟨y,t,rfl⟩:=C;have:EM ρ n loc m=ρ m:=by simp[EM,j]
   rw[this];have f:∀b,bk (ρ m) b→w'.heap[b]?=w.heap[b]?:=fun b E=>by
    refine G.block b ((h.objs m y t).block_lt E) (fun q=>?_);exact j (h.dist m n b ⟨y,t⟩ ⟨_,hn⟩ E (.inl q.symm))
   have D:=h.objs m y t;cases y with
   | arr Z q bd=>exact A1.keeps (V:=(vw w O0 σ ρ).but n) hk f D
   | box Z au fs =>
    obtain⟨h0,b,cs,i,hh,ag⟩:=D;exact A1.keeps (V:=(vw w O0 σ ρ).but n) (o:=.box Z au (AV.drps n fs)) hk f ⟨fun ap=>by rw[RS];exact h0 ap,b,cs,i,hh,Oc (.inl O) ag⟩
   | mapo k v l=>exact A1.keeps (V:=(vw w O0 σ ρ).but n) hk f D
   | nest et aq k e xs i=>exact A1.keeps (V:=(vw w O0 σ ρ).but n) (o:=.nest et aq k e xs i) hk f (MT (V:=vw w O0 σ ρ) (V':=(vw w O0 σ ρ).but n) rfl rfl D)
   | frame av fs =>
    obtain⟨h0,h1⟩:=D;refine A1.keeps (V:=(vw w O0 σ ρ).but n) (o:=.frame av (FC n fs)) hk f ⟨h0,fun s z X=>?_⟩;rw[Jq]at X;simp only[Is]at X;obtain⟨y,t,rfl⟩:=X;exact mR (.inl O) (h1 s y t)
   | loop L=>exact A1.keeps (V:=(vw w O0 σ ρ).but n) hk f D
   | itr az bc ba bb ay=>exact A1.keeps (V:=(vw w O0 σ ρ).but n) hk f D
   | dfr=>exact A1.keeps (V:=(vw w O0 σ ρ).but n) hk f D
 ·intro m b i f;replace i:=(I m).1 i;by_cases j:m=n
  ·subst j;rw[Bj]at f;rcases W with h1|h1
   ·exact h.free m b i (.inl (by rw[←h1];exact(M b).1 f))
   ·have:=h1 b ((M b).1 f);have:=h.frm.size;exact⟨fun H=>by have:=aa b H;omega,fun H=>by have:=af b H;omega⟩
  ·have:EM ρ n loc m=ρ m:=by simp[EM,j]
   rw[this]at f;exact h.free m b i f
 ·have key:∀m b,Gb σ m→m≠n→bk (ρ m) b→bk loc b→False:=by
   intro m b i S f E;rcases W with h1|h1
   ·exact S (h.dist m n b i ⟨_,hn⟩ f (.inl (by rw[←h1];exact(M b).1 E)))
   ·have r:=h1 b ((M b).1 E);obtain⟨y,t⟩:=i;have:=(h.objs m y t).block_lt f;have:b<w.heap.size:=this;omega
  intro m u b i Q h1 r;replace i:=(I m).1 i;replace Q:=(I u).1 Q;by_cases J:m=n<;>by_cases q:u=n
  ·rw[J,q]
  ·subst J;have:EM ρ m loc u=ρ u:=by simp[EM,q]
   rw[this]at r;rw[Bj]at h1;exact(key u b Q q r h1).elim
  ·subst q;have:EM ρ u loc m=ρ m:=by simp[EM,J]
   rw[this]at h1;rw[Bj]at r;exact(key m b i J h1 r).elim
  ·have ad:EM ρ n loc m=ρ m:=by simp[EM,J]
   have ae:EM ρ n loc u=ρ u:=by simp[EM,q]
   rw[ad]at h1;rw[ae]at r;exact h.dist m u b i Q h1 r
 ·intro s v hs;show B2 (vw w' O0 σ' (EM ρ n loc)) v _;rw[KR a d loc s (by rw[h.nt];exact ah)];simp only[lk]at hs;split at hs
  ·rename_i U;cases hs;rw[BY U];refine⟨(I n).2 ⟨_,hn⟩,?_⟩;show DA (plc (EM ρ n loc n)) e.size 0 ys.length loc;rw[Bj,HX T];rcases T.2 with ⟨rfl,an⟩|⟨g,cap,Y,rfl,_,_,ax,_⟩
   ·exact⟨none,0,0,rfl,by omega,by omega,none,0,by rw[an],by omega,fun _=>⟨rfl,rfl⟩,fun h=>by omega⟩
   ·exact⟨some ⟨g,0,none⟩,ys.length,cap,rfl,by omega,by omega,some ⟨g,0,none⟩,cap,by simp,by omega,fun _=>⟨rfl,rfl⟩,fun _=>by simp[MS]⟩
  ·rename_i U;rw[At U];rw[Jq]at hs;simp only[Is]at hs;obtain⟨y,t,rfl⟩:=hs;exact(mR (.inl O) (h.env s y t)).keeps hk
end
end
section
open Go Go.RowKit
def Vw.buts (V:Vw) (hs:List Nat):Vw:=⟨V.w,V.O,fun m=>V.L m∧AX m hs=false,V.ρ⟩
theorem Xw {V:Vw} {hs:List Nat} {x:AV} {v:Value} (h:Sx V x v):Sx (V.buts hs) (x.fgt hs) v:=by
 cases x;case clo f ns =>
  simp only[AV.fgt];split
  ·trivial
  ·rename_i a;refine⟨h.1,fun n hn=>⟨⟨(h.2 n hn).1,?_⟩,(h.2 n hn).2⟩⟩;cases b:AX n hs with
   | false=>rfl
   | true=>exact absurd (Of.2 ⟨n,hn,b⟩) a
 case ag l=>exact h.elim
 case tup l=>exact h.elim
 case p t d=>simp only[AV.fgt];exact h
 case pc e d=>simp only[AV.fgt];exact h
 case raw u=>simp only[AV.fgt];exact h
 case ip t d=>simp only[AV.fgt];exact h
 case fn f=>simp only[AV.fgt];exact h
 case top=>trivial
 all_goals
  simp only[AV.fgt];split
  ·trivial
  ·rename_i a;exact⟨⟨h.1,by simpa using a⟩,h.2⟩
theorem A1q {V:Vw} {hs:List Nat} {x:AV} {cs:List Value} (h:M2 V x cs):M2 (V.buts hs) (x.fgt hs) cs:=by
 cases x;case p t d=>simp only[AV.fgt];exact h
 case ag l=>obtain⟨v,_,_,hf⟩:=h;exact hf.elim
 case tup l=>obtain⟨v,_,_,hf⟩:=h;exact hf.elim
 all_goals
  obtain⟨v,rfl,h1,c⟩:=h;have a:=Xw (hs:=hs) c;simp only[AV.fgt]at a ⊢;first
   | exact⟨v,rfl,h1,a⟩
   | (split at a<;>rename_i b<;>first|(rw[BY b];exact⟨v,rfl,h1,a⟩)|(rw[At b];exact⟨v,rfl,h1,a⟩))
theorem Od {V:Vw} {hs:List Nat}:∀ {l:List AV} {cs:List Value},DQ V l cs→DQ (V.buts hs) (AV.fgts hs l) cs
 | [],cs,h=>(h:cs=[])
 | x :: r,cs,h=>by
  obtain⟨c1,c2,rfl,h1,a⟩:=h;simp only[AV.fgts];exact⟨c1,c2,rfl,A1q h1,Od a⟩
theorem A1r {V:Vw} {hs:List Nat} {x:AV} {v:Value} (a:RI V x v):RI (V.buts hs) (x.fgt hs) v:=by
 cases x;case ag l=>obtain⟨cs,h1,b⟩:=a;simp only[AV.fgt];exact⟨cs,h1,Od b⟩
 all_goals exact RI.of1 (Xw a)
theorem ZR {V:Vw} {hs:List Nat}:∀ {l:List AV} {a:List Value},Jl V l a→Jl (V.buts hs) (AV.fgts hs l) a
 | [],a,h=>(h:a=[])
 | x :: r,a,h=>by
  obtain⟨v,c,rfl,h1,b⟩:=h;simp only[AV.fgts];exact⟨v,c,rfl,A1r h1,ZR b⟩
theorem Oe {V:Vw} {hs:List Nat} {x:AV} {v:Value} (h:B2 V x v):B2 (V.buts hs) (x.fgt hs) v:=by
 cases x;case ag l=>obtain⟨cs,h1,a⟩:=h;simp only[AV.fgt];exact⟨cs,h1,Od a⟩
 case tup l=>obtain⟨b,h1,a⟩:=h;simp only[AV.fgt];exact⟨b,h1,ZR a⟩
 all_goals exact A1o (Xw h)
theorem ED (hs:List Nat) (s:Nat):∀l:List (Nat×AV),lk s (Bi hs l)=(lk s l).map (AV.fgt hs)
 | []=>rfl
 | (j,v) :: l=>by
  simp only[Bi,lk];split
  ·rfl
  ·exact ED hs s l
theorem RT (hs:List Nat):∀l:List AV,(AV.fgts hs l).length=l.length
 | []=>rfl
 | _ :: r=>by simp[AV.fgts,RT hs r]
theorem Bb (a hs:List Nat) (n:Nat):∀l:List (Nat×Obj),lk n (Ad a hs l)=if AX n a=true then none else (lk n l).map (Obj.fgt hs)
 | []=>by simp[Ad,lk]
 | (j,o) :: l=>by
  simp only[Ad];by_cases b:AX j a=true
  ·rw[BY b,Bb a hs n l];by_cases hn:n=j
   ·subst hn;simp[b]
   ·simp[lk,hn]
  ·rw[At b];simp only[lk];by_cases hn:n=j
   ·subst hn;simp[b]
   ·simp[hn,Bb a hs n l]
theorem SM {V V':Vw} {hs:List Nat} (hk:CN (V.buts hs) V') {o:Obj} {loc:Value} (a:∀b,bk loc b→V'.w.heap[b]?=V.w.heap[b]?) (h:A1 V o loc):A1 V' (o.fgt hs) loc:=by
 cases o with
 | arr et e xs=>exact A1.keeps (V:=V.buts hs) hk a h
 | box et m fs =>
  obtain⟨h0,b,cs,c,hh,f⟩:=h;exact A1.keeps (V:=V.buts hs) (o:=.box et m (AV.fgts hs fs)) hk a ⟨fun g=>by rw[RT];exact h0 g,b,cs,c,hh,Od f⟩
 | mapo k v l=>exact A1.keeps (V:=V.buts hs) hk a h
 | nest et j k e xs c=>exact A1.keeps (V:=V.buts hs) (o:=.nest et j k e xs c) hk a (MT (V:=V) (V':=V.buts hs) rfl rfl h)
 | frame n fs =>
  obtain⟨h0,h1⟩:=h;refine A1.keeps (V:=V.buts hs) (o:=.frame n (Bi hs fs)) hk a ⟨h0,fun s z d=>?_⟩;rw[ED]at d;simp only[Is]at d;obtain⟨y,i,rfl⟩:=d;exact Oe (h1 s y i)
 | loop L=>exact A1.keeps (V:=V.buts hs) hk a h
 | itr q u r t p=>exact A1.keeps (V:=V.buts hs) hk a h
 | dfr=>exact A1.keeps (V:=V.buts hs) hk a h
section
variable {w0:World} {K O0:Nat→Prop} {nt:Nat} {ds:Fp} {σ:St} {ρ:Nat→Value} {a:Act} {w:World}
theorem Bo.swap (h:Bo w0 K O0 nt ds σ ρ a w) (A:∀b,K b→b<w0.heap.size) (J:∀b,O0 b→b<w0.heap.size) {T:Nat→Prop} (hT:∀n,T n→GE n=false∧∃o,lk n σ.objs=some o∧seat (ρ n))
  {new:List (Nat×Obj)} {σ':St} {ρ':Nat→Value} {w':World} {dst:Option Nat} {u:Value}
  (X:w'.os=w.os) (ab:w'.tape=w.tape) (Y:w'.output=w.output) (Z:w.heap.size≤w'.heap.size)
  (O:∀b,b<w.heap.size→(∀n,T n→¬bk (ρ n) b)→w'.heap[b]?=w.heap[b]?)
  (r:∀n o,lk n σ'.objs=some o→lk n new=none→¬T n∧∃d,lk n σ.objs=some d)
  (P:∀n o,lk n σ.objs=some o→¬T n→lk n new=none∧∃d,lk n σ'.objs=some d)
  (l:∀n,lk n new=none→ρ' n=ρ n)
  (F:∀n o b,lk n new=some o→bk (ρ' n) b→(∃m,T m∧bk (ρ m) b)∨w.heap.size≤b)
  (L:∀n m o t b,lk n new=some o→lk m new=some t→bk (ρ' n) b→bk (ρ' m) b→n=m)
  (W:∀n o,lk n σ'.objs=some o→A1 (vw w' O0 σ' ρ') o (ρ' n))
  (M:∀s v,lk s σ'.env=some v→B2 (vw w' O0 σ' ρ') v ((a.put dst u).tmps.getD s undef)) :
  Bo w0 K O0 nt ds σ' ρ' (a.put dst u) w':=by
 have ae:∀m,T m→∀b,bk (ρ m) b→b<w.heap.size:=fun m c b i=>by
  obtain⟨_,o,g,_⟩:=hT m c;exact(h.objs m o g).block_lt i
 have C:∀m,T m→∀b,bk (ρ m) b→¬K b∧¬O0 b:=fun m c b i=>by
  obtain⟨_,o,g,_⟩:=hT m c;exact h.free m b ⟨o,g⟩ i
 refine⟨⟨X.trans h.frm.os,ab.trans h.frm.tape,Y.trans h.frm.output,To h.frm.size Z,fun k hk=>?_⟩,by rw[Jn];exact h.nt,by rw[GI];exact h.defers,fun p hp=>?_,W,?_,?_,M⟩
 ·exact(O k (AAu (A k hk) h.frm.size) fun n hn i=>(C n hn k i).1 hk).trans (h.frm.block k hk)
 ·obtain⟨⟨o,h1⟩,f,j⟩:=h.pin p hp;have R:¬T p.1:=fun aa=>by
   obtain⟨hf,_,_,hs⟩:=hT _ aa;rw[f]at hs;rcases j with j|j
   ·rcases hs with ⟨_,_,_,B⟩|⟨_,B⟩<;>rw[B]at j<;>cases j
   ·rw[hf]at j;cases j
  obtain⟨H,I⟩:=P p.1 o h1 R;exact⟨I,(l _ H).trans f,j⟩
 ·intro n b z i;obtain⟨o,g⟩:=z;cases hn:lk n new with
  | none =>
   obtain⟨_,d,h1⟩:=r n o g hn;rw[l n hn]at i;exact h.free n b ⟨d,h1⟩ i
  | some e =>
   rcases F n e b hn i with ⟨m,c,x⟩|N
   ·exact C m c b x
   ·have:=h.frm.size;exact⟨fun y=>by have:=A b y;omega,fun y=>by have:=J b y;omega⟩
 ·have key:∀n m o e b,lk n σ'.objs=some o→lk n new=none→lk m new=some e→bk (ρ' n) b→bk (ρ' m) b→False:=by
   intro n m o e b g hn c h1 f;obtain⟨S,d,q⟩:=r n o g hn;rw[l n hn]at h1;rcases F m e b c f with ⟨G,D,x⟩|N
   ·obtain⟨_,ad,V,_⟩:=hT G D;have:=h.dist n G b ⟨d,q⟩ ⟨ad,V⟩ h1 x;exact S (this▸D)
   ·have af:b<w.heap.size:=(h.objs n d q).block_lt h1;omega
  intro n m b z Q h1 f;obtain⟨o,g⟩:=z;obtain⟨t,E⟩:=Q;cases hn:lk n new with
  | none =>
   cases c:lk m new with
   | none =>
    obtain⟨_,d,q⟩:=r n o g hn;obtain⟨_,e,U⟩:=r m t E c;rw[l n hn]at h1;rw[l m c]at f;exact h.dist n m b ⟨d,q⟩ ⟨e,U⟩ h1 f
   | some e=>exact(key n m o e b g hn c h1 f).elim
  | some d =>
   cases c:lk m new with
   | none=>exact(key m n t d b E c hn f h1).elim
   | some e=>exact L n m d e b hn c h1 f
end
end
section
open Go Go.RowKit
structure QL (V V':Vw) (n:Nat) (hs:List Nat):Prop where
 O:∀b,b<V.w.heap.size→¬V.O b→¬V'.O b
 L:∀m,V.L m→AX m hs=false→V'.L m
 ρ:∀m,V.L m→AX m hs=false→m≠n→V'.ρ m=V.ρ m
 tup:∃vs,V.ρ n=.tuple vs
 plc:plc (V'.ρ n)=plc (V.ρ n)
 heap:∀b,b<V.w.heap.size→¬V.O b→V'.w.heap[b]?=V.w.heap[b]?
section
variable {V V':Vw} {n:Nat} {hs:List Nat}
theorem QL.pl (h:QL V V' n hs) {m:Nat} (a:V.L m) (b:AX m hs=false):Fw.plc (V'.ρ m)=Fw.plc (V.ρ m):=by
 by_cases e:m=n
 ·subst e;exact h.plc
 ·rw[h.ρ m a b e]
theorem QL.ptr (h:QL V V' n hs) {m:Nat} (c:V.L m) (d:AX m hs=false) {v:Value} (b:V.ρ m=v) (f:∀a,v≠.tuple a):V'.ρ m=v:=by
 have e:m≠n:=fun e=>by
  obtain⟨a,h1⟩:=h.tup;rw[←e,b]at h1;exact f a h1
 rw[h.ρ m c d e,b]
theorem Xx (h:QL V V' n hs) {x:AV} {v:Value} (c:Sx V x v):Sx V' (x.trn n hs) v:=by
 cases x;case ag l=>exact c.elim
 case tup l=>exact c.elim
 case p t d=>simp only[AV.trn];exact BW.mono h.O h.heap c
 case pc e d=>simp only[AV.trn];exact⟨BW.mono h.O h.heap c.1,c.2⟩
 case raw u=>simp only[AV.trn];exact c
 case fn f=>simp only[AV.trn];exact c
 case top=>trivial
 case ip t d =>
  simp only[AV.trn];obtain⟨ad,cs,o,q,r,hr⟩:=c;have s:ad.block<V.w.heap.size:=by
   have hp:=t.size_pos;have F:=hr.length;have:=block_lt_of_cell (r 0 (cs[0]'(by omega)) (AT (by omega)))
   rwa [CG]at this
  refine⟨ad,cs,o,h.O _ s q,fun j u B=>?_,Br.mono h.O h.heap hr⟩;rw[AC9 (w:=V.w) (w':=V'.w)]
  ·exact r j u B
  ·rw[CG];exact h.heap _ s q
 case sr m e lo hi =>
  simp only[AV.trn];split
  ·trivial
  ·rename_i a;have a:AX m hs=false:=by simpa using a
   exact⟨h.L m c.1 a,by rw[h.pl c.1 a];exact c.2⟩
 case ep m e i E off =>
  simp only[AV.trn];split
  ·trivial
  ·rename_i a;have a:AX m hs=false:=by simpa using a
   exact⟨h.L m c.1 a,by rw[h.pl c.1 a];exact c.2⟩
 case nin m e i len =>
  simp only[AV.trn];split
  ·trivial
  ·rename_i a;have C:m≠n:=fun e=>a (.inl e);have y:AX m hs=false:=by
    cases g:AX m hs with
    | false=>rfl
    | true=>exact absurd (.inr g) a
   exact⟨h.L m c.1 y,by rw[h.ρ m c.1 y C];exact c.2⟩
 case bp m E off =>
  simp only[AV.trn];split
  ·trivial
  ·rename_i a;have a:AX m hs=false:=by simpa using a
   obtain⟨k,b,g,o⟩:=c;exact⟨h.L m k a,b,h.ptr k a g (fun _ e=>by cases e),o⟩
 case mp m =>
  simp only[AV.trn];split
  ·trivial
  ·rename_i a;have a:AX m hs=false:=by simpa using a
   obtain⟨k,b,g,o⟩:=c;exact⟨h.L m k a,b,h.ptr k a g (fun _ e=>by cases e),o⟩
 case yl m =>
  simp only[AV.trn];split
  ·trivial
  ·rename_i a;have a:AX m hs=false:=by simpa using a
   obtain⟨k,b,g,o⟩:=c;exact⟨h.L m k a,b,h.ptr k a g (fun _ e=>by cases e),o⟩
 case clo f ns =>
  simp only[AV.trn];split
  ·trivial
  ·rename_i D;have z:∀m∈ns,AX m hs=false:=fun m a=>by
    cases g:AX m hs with
    | false=>rfl
    | true=>exact absurd (Of.2 ⟨m,a,g⟩) D
   have A:∀m∈ns,V'.ρ m=V.ρ m:=fun m a=>by
    obtain⟨k,b,g⟩:=c.2 m a;rw[h.ptr k (z m a) g (fun _ e=>by cases e),g]
   refine⟨?_,fun m a=>⟨h.L m (c.2 m a).1 (z m a),by rw[A m a];exact(c.2 m a).2⟩⟩;rw[c.1]
   congr 2
   exact AAw fun m a=>(A m a).symm
theorem A1s (h:QL V V' n hs) {x:AV} {cs:List Value} (b:M2 V x cs):M2 V' (x.trn n hs) cs:=by
 cases x;case p t d=>simp only[AV.trn];exact(Br.mono h.O h.heap b:Br V'.w V'.O t cs d)
 case ag l=>obtain⟨v,_,_,hf⟩:=b;exact hf.elim
 case tup l=>obtain⟨v,_,_,hf⟩:=b;exact hf.elim
 all_goals
  obtain⟨v,rfl,h1,e⟩:=b;have a:=Xx h e;simp only[AV.trn]at a ⊢;first
   | exact⟨v,rfl,h1,a⟩
   | (split at a<;>rename_i c<;>first|(rw[BY c];exact⟨v,rfl,h1,a⟩)|(rw[At c];exact⟨v,rfl,h1,a⟩))
theorem Og (h:QL V V' n hs):∀ {l:List AV} {cs:List Value},DQ V l cs→DQ V' (AV.trns n hs l) cs
 | [],cs,a=>(a:cs=[])
 | x :: r,cs,a=>by
  obtain⟨c1,c2,rfl,h1,b⟩:=a;simp only[AV.trns];exact⟨c1,c2,rfl,A1s h h1,Og h b⟩
theorem A1t (h:QL V V' n hs) {x:AV} {v:Value} (a:RI V x v):RI V' (x.trn n hs) v:=by
 cases x;case ag l=>obtain⟨cs,h1,b⟩:=a;simp only[AV.trn];exact⟨cs,h1,Og h b⟩
 all_goals exact RI.of1 (Xx h a)
theorem ZS (h:QL V V' n hs):∀ {l:List AV} {a:List Value},Jl V l a→Jl V' (AV.trns n hs l) a
 | [],a,b=>(b:a=[])
 | x :: r,a,b=>by
  obtain⟨v,d,rfl,h1,c⟩:=b;simp only[AV.trns];exact⟨v,d,rfl,A1t h h1,ZS h c⟩
theorem Xy (h:QL V V' n hs) {x:AV} {v:Value} (b:B2 V x v):B2 V' (x.trn n hs) v:=by
 cases x;case ag l=>obtain⟨cs,h1,a⟩:=b;simp only[AV.trn];exact⟨cs,h1,Og h a⟩
 case tup l=>obtain⟨c,h1,a⟩:=b;simp only[AV.trn];exact⟨c,h1,ZS h a⟩
 all_goals exact A1o (Xx h b)
theorem X1 (n:Nat) (hs:List Nat) (s:Nat):∀l:List (Nat×AV),lk s (Dk n hs l)=(lk s l).map (AV.trn n hs)
 | []=>rfl
 | (j,v) :: l=>by
  simp only[Dk,lk];split
  ·rfl
  ·exact X1 n hs s l
theorem RU (n:Nat) (hs:List Nat):∀l:List AV,(AV.trns n hs l).length=l.length
 | []=>rfl
 | _ :: r=>by simp[AV.trns,RU n hs r]
theorem DR (n:Nat) (hs:List Nat) (m:Nat):∀l:List (Nat×Obj),lk m (CR n hs l)=if AX m (n :: hs)=true then none else (lk m l).map (Obj.trn n hs)
 | []=>by simp[CR,lk]
 | (j,o) :: l=>by
  simp only[CR];by_cases b:AX j (n :: hs)=true
  ·rw[BY b,DR n hs m l];by_cases a:m=j
   ·subst a;simp[b]
   ·simp[lk,a]
  ·rw[At b];simp only[lk];by_cases a:m=j
   ·subst a;simp[b]
   ·simp[a,DR n hs m l]
theorem mS (h:QL V V' n hs) {o:Obj} {loc:Value} (c:∀b,bk loc b→V'.w.heap[b]?=V.w.heap[b]?) (a:A1 V o loc):A1 V' (o.trn n hs) loc:=by
 have hk:CN ⟨V.w,V.O,fun _=>False,V.ρ⟩ V':=⟨h.O,fun _ h=>h.elim,fun _ h=>h.elim,h.heap⟩;cases o with
 | arr et e xs=>exact A1.keeps (V:=⟨V.w,V.O,fun _=>False,V.ρ⟩) (o:=.arr et e xs) hk c a
 | box et x fs =>
  obtain⟨h0,b,cs,rfl,h1,f⟩:=a;exact⟨fun i=>by rw[RU];exact h0 i,b,cs,rfl,(c b (.inl rfl)).trans h1,Og h f⟩
 | mapo k v l=>exact A1.keeps (V:=⟨V.w,V.O,fun _=>False,V.ρ⟩) (o:=.mapo k v l) hk c a
 | nest et p k e xs g=>exact A1.keeps (V:=⟨V.w,V.O,fun _=>False,V.ρ⟩) (o:=.nest et p k e xs g) hk c (MT (V:=V) (V':=⟨V.w,V.O,fun _=>False,V.ρ⟩) rfl rfl a)
 | frame A fs =>
  obtain⟨h0,h1⟩:=a;refine⟨h0,fun s z d=>?_⟩;rw[X1]at d;simp only[Is]at d;obtain⟨y,j,rfl⟩:=d;exact Xy h (h1 s y j)
 | loop L=>exact A1.keeps (V:=⟨V.w,V.O,fun _=>False,V.ρ⟩) (o:=.loop L) hk c a
 | itr q u r t m=>exact A1.keeps (V:=⟨V.w,V.O,fun _=>False,V.ρ⟩) (o:=.itr q u r t m) hk c a
 | dfr=>exact A1.keeps (V:=⟨V.w,V.O,fun _=>False,V.ρ⟩) (o:=.dfr) hk c a
end
end
section
open Go Go.RowKit
theorem iP {t:Ty} (h:t.cell1=true):t.size=1:=by cases t<;>simp[Ty.cell1]at h<;>rfl
theorem WC {V:Vw} {ty:Ty} {x:AV} {a:List Value} (c:M2 V x a) (hf:Le ty x=true):a.length=ty.size:=by
 by_cases b:x=.top
 ·subst b;obtain⟨v,rfl,_⟩:=c;simp only[Le]at hf;rw[iP hf];rfl
 ·have hf:CL ty x=true:=by cases x<;>first|exact hf|exact absurd rfl b
  exact(iL c hf).1
theorem pS {V:Vw} {ty:Ty} {j:Bool} {fs q:List AV} {z:List Nat} {off:Nat} {u v:AV} {cs b:List Value} (i:DQ V fs cs) (J:j=false→fs.length=1)
  (h:JN j fs v z=some q) (g:NW fs z=some off) (a:Ik j fs z=some u) (hu:Le ty u=true) (P:CL ty v=true)
  (F:∀l,v=.ag l→DQ V l b) (n:(∀l,v≠.ag l)→M2 V v b) (M:b.length=ty.size) :
  off+b.length≤cs.length∧DQ V q (Az cs off b)∧(j=false→q.length=1):=by
 unfold JN at h;split at h
 ·simp only[NW]at g;cases g;simp only[Ik]at a;cases j with
  | true =>
   simp only[AAC]at h a;cases a;have N:cs.length=ty.size:=by
    have:=i.length;cases ty<;>simp only[Le,CL]at hu<;>try(cases hu;done)
    simp only[AA1]at hu;simp only[Ty.size];omega
   rw[Dm (by omega)];split at h
   ·rename_i m d;cases h;have h1:M2 V (.p (.agg m) d) b:=n (by simp);have h1:Br V.w V.O m b d:=h1;exact⟨by omega,uL V m d b h1,by simp⟩
   ·rename_i l;cases h;exact⟨by omega,F _ rfl,by simp⟩
   ·cases h
  | false =>
   simp only[AAJ,AAU]at h a;split at h
   ·rename_i f;have f:∀l,v≠.ag l:=fun l e=>by subst e;simp[ND]at f
    cases h;obtain⟨x,rfl⟩:=AAQ.1 (J rfl);simp at a;subst a;obtain⟨c1,c2,rfl,h1,c⟩:=i;have c:c2=[]:=c;subst c;have D:=WC h1 hu;rw[AAa,Dm (by omega)];exact⟨by omega,⟨b,[],by simp,n f,rfl⟩,by simp⟩
   ·cases h
 ·rename_i k;split at h
  ·rename_i A;simp only[An]at A;obtain⟨rfl,f⟩:=A;have f:∀l,v≠.ag l:=fun l e=>by subst e;simp[ND]at f
   cases h;simp only[Ik,AAC]at a;obtain⟨h1,c⟩:=i.get a;have D:=WC c hu;have L:=c.length;have I:off=B9 fs k:=by
    simp only[NW,a]at g;cases u<;>simp only[LX,AAY,List.isEmpty_nil,AAC]at g<;>cases g<;>rfl
   subst I;have o:=n f;have s:=o.length;exact⟨by omega,i.set a o (by omega),by simp⟩
  ·cases h
 ·rename_i k r hr;cases j with
  | false=>simp at h
  | true =>
   simp only[AAC]at h;split at h
   ·rename_i t d m x hk;simp only[Is]at h;obtain⟨y,K,rfl⟩:=h;simp only[NW,hk,Is]at g;obtain⟨Q,H,rfl⟩:=g;obtain⟨h1,c⟩:=i.get hk;have C:Br V.w V.O t _ d:=c;have o:Br V.w V.O m b x:=n (by simp);obtain⟨s,E⟩:=S1 K H C o;have G:=c.length;simp only[AV.cells]at h1 G E s;have B:=i.set (y:=.p t y) hk (s:Br V.w V.O t _ y) rfl;rw[NJ _ _ _ _ _ (by omega) h1]at B;exact⟨by omega,B,by simp⟩
   ·cases h
section
variable {P:Program} {tb:Tb} {w0:World} {K O0:Nat→Prop} {nt:Nat} {ds:Fp} {σ σ':St} {ρ:Nat→Value} {a:Act} {w:World} {vc:Prop}
theorem RW {n:Nat} {o:Obj} (hn:lk n σ.objs=some o) {g:Nat} (c:blk (ρ n)=some g) {w':World} (d:w.grownBy w' (some g)):CN (vw w O0 σ ρ) (vw w' O0 σ ρ) :=
 ⟨fun _ _ h=>h,fun _ h=>h,fun _ _=>rfl,fun b f a=>d.block b f (fun e=>by injection e with e;subst e;exact a (.inr ⟨n,⟨o,hn⟩,.inl c⟩))⟩
theorem Fm (w:World) (g:Nat) (cs:Array Value):w.grownBy (w.setRow g cs) (some g) :=
 ⟨rfl,rfl,rfl,by simp,fun k _ hk=>setRow_other w g k cs (fun e=>hk (by rw[e]))⟩
theorem Lm {id:TypeId} {ti:TI} (hT:D0 P tb id ti) {g off:Nat} {cs:List Value} {et:TypeId} {xv:Value} (hh:w.heap[g]?=some (.cells cs.toArray et (0,0))) (hs:xv.cells.size=ti.ty.size)
  (b:off+xv.cells.toList.length≤cs.length) (h1:∀u∈xv.cells.toList,u.oneCell'=true) :
  (Instr.storeAt id (.pointer (some ⟨g,off,none⟩)) xv).run P w=.ok () (w.setRow g (Az cs off xv.cells.toList).toArray):=by
 have a:=run_storeCells_at P g off et xv.cells.toList 0 cs.toArray w hh (by simpa using b) h1;simp only[Nat.add_zero]at a;have c:¬xv.cells.size≠ti.ty.size:=by omega
 simp only[Instr.storeAt,Instr.sureAddr,storeVar,AAH,AB6,AA6,H0 w hT,At c,a];rfl
theorem mT {o:Oper} {w':World} {next:Act→World→Prop} {Q:Exit→Act→World→Prop} {r:Option Nat} (h:(execOp a.eval o).run P w=.ok .skip w') (hn:next (a.put o.dst undef) w') (b:∀c,o.op≠.defer c:=by intro c e;cases e):o.wpIn (FR r) 0 P a w next Q:=by
 refine⟨fun _ _=>trivial,?_⟩;rw[FQ _ _ _ b,h];exact hn
theorem pT (hs:Bo w0 K O0 nt ds σ ρ a w) (am:∀b,K b→b<w0.heap.size) (hT:DB P tb) {id:TypeId} {x y:Operand} (bv:∀n e i t off,Ae σ x=some (.ep n e i t off)→CY (lk n σ.objs)=false) (h:G9 σ (lk id tb.ty) (Ae σ x) (Ae σ y)=some (vc,σ')) (cz:vc) :
  ∃w',(Instr.storeAt id (a.eval x) (a.eval y)).run P w=.ok () w'∧Bo w0 K O0 nt ds σ' ρ a w':=by
 have G:F4 (vw w O0 σ ρ) σ a.eval:=Dn hs.env;unfold G9 at h;split at h
 ·rename_i ti n t off v ab Q ah;have af:=G x _ Q;have D:=G y _ ah;cases hn:lk n σ.objs with
  | none=>rw[hn]at h;simp[DF]at h
  | some o =>
   rw[hn]at h;cases o with
   | arr et e xs=>simp[DF]at h
   | mapo k v l=>simp[DF]at h
   | frame co fs=>simp[DF]at h
   | loop L=>simp[DF]at h
   | itr cj cm ck cl ch=>simp[DF]at h
   | dfr=>simp[DF]at h
   | nest et ci k e xs br=>simp[DF]at h
   | box et aj fs =>
    simp only[DF]at h;cases I:Ik aj fs t with
    | none=>rw[I]at h;simp[EZ]at h
    | some u =>
     cases Z:JN aj fs v t with
     | none=>rw[I,Z]at h;simp[EZ]at h
     | some cr =>
      rw[I,Z]at h;simp only[EZ]at h;split at h
      ·rename_i az;obtain⟨hu,ad,bw,_⟩:=az;cases h;obtain⟨cc,b,cs,W,C,bj⟩:=hs.objs n _ hn;obtain⟨bh,b',f,ae⟩:=af;have f:ρ n=_:=f;rw[W]at f;injection f with f
       injection f with f
       injection f with f
       subst f;have H:=uD D ad (NK D ad);have an:∀l,v=.ag l→DQ (vw w O0 σ ρ) l (a.eval y).cells.toList:=by
        intro l e;subst e;obtain⟨cq,s,bk⟩:=D;rw[s];simpa[Value.cells] using bk
       obtain⟨h1,R,be⟩:=pS bj cc Z bw I hu ad an (fun J=>H.2 J) (by simpa using H.1);have bz:∀z∈(a.eval y).cells.toList,z.oneCell'=true:=by
        by_cases J:∃l,v=.ag l
        ·obtain⟨l,e⟩:=J;exact(an l e).one
        ·exact(H.2 (fun l e=>J ⟨l,e⟩)).one
       have Y:=Lm (hT _ _ ab) C H.1 h1 bz;rw[ae];refine⟨_,Y,?_⟩;have A:blk (ρ n)=some b:=by rw[W];rfl
       refine hs.upd am hn A (Fm w b _) ⟨be,b,_,W,setRow_heap w b _ _ et _ C,?_⟩;exact R.keeps (RW hn A (Fm w b _))
      ·cases h
 ·rename_i ti n e i t off v ab Q ah;have af:=G x _ Q;have D:=G y _ ah;cases hn:lk n σ.objs with
  | none=>rw[hn]at h;simp[DG]at h
  | some o =>
   rw[hn]at h;cases o with
   | box et aj fs=>simp[DG]at h
   | mapo k v l=>simp[DG]at h
   | frame co fs=>simp[DG]at h
   | loop L=>simp[DG]at h
   | itr cj cm ck cl ch=>simp[DG]at h
   | dfr=>simp[DG]at h
   | nest et ci k e xs br=>have:=bv _ _ _ _ _ Q;rw[hn]at this;cases this
   | arr et d xs =>
    simp only[DG]at h;cases T:BO (.slice e) ⟨.slice d,xs⟩ with
    | none=>rw[T]at h;simp[Dy]at h
    | some ys =>
     obtain⟨rfl,R⟩:=Bm T;cases R;rw[T]at h;cases S:KJ false σ ti.ty v with
     | none=>rw[S]at h;simp[Dy]at h
     | some cp =>
      rw[S]at h;simp only[Dy]at h;cases aa:R6 t d (xs.getD i d.dflt) ⟨ti.ty,cp⟩ with
      | none=>rw[aa]at h;simp[E1]at h
      | some z =>
       rw[aa]at h;simp only[E1]at h;split at h
       ·rename_i bx;cases h;obtain⟨bt,cells,M,F⟩:=hs.objs n _ hn;obtain⟨bh,g,m,c,f,X,ae⟩:=af;have f:plc (ρ n)=_:=f;have M:w.ownsRow 0 et d.size (ρ n) xs.length cells:=M;rw[HX M]at f;have F:Dh w (own O0 σ ρ) d cells xs:=F;have cf:=Jo (V:=vw w O0 σ ρ) (O':=own O0 σ ρ) (fun _ h=>h) (fun h=>by cases h) hs.objs S D;obtain⟨ay,ax⟩:=Vx cf;obtain⟨aw,ca⟩:=M;rcases ca with ⟨s,_⟩|⟨ct,cap,r,s,cv,C,ap,bi,U,cd⟩
        ·rw[f]at s;cases s
        ·rw[f]at s;injection s with B bl bm
         injection B with B
         injection B with B
         subst B;subst bl;have cg:xs[i]?=some (xs.getD i d.dflt):=by
          rw[AT X,AS,AT X];rfl
         obtain⟨al,bo,ar,bn⟩:=F i _ cg;obtain⟨bf,bg⟩:=S1 aa bx bn ax;have cu:cells.length=xs.length*d.size:=aw;have bq:(i+1)*d.size≤xs.length*d.size:=AA2 _ X;have cw:xs.length*d.size≤cap*d.size:=AA2 _ ap;rw[AAP]at bq;have ao:i*d.size+off+(a.eval y).cells.toList.length≤r.toList.length:=by
          have bs:r.toList.length=cap*d.size:=by rw[←U];simp
          have cy:(a.eval y).cells.toList.length=ti.ty.size:=by rw[←ay];simp
          omega
         have bp:w.heap[g]?=some (.cells r.toList.toArray et (0,0)):=by simpa using C
         have Y:=Lm (hT _ _ ab) bp ay ao ax.one;rw[ae];refine⟨_,Y,?_⟩;have A:blk (ρ n)=some g:=by rw[f];rfl
         have cb:(Az r.toList (i*d.size+off) (a.eval y).cells.toList).length=r.size:=by rw[E3 ao];simp
         have ce:(Az r.toList (i*d.size+off) (a.eval y).cells.toList).take (xs.length*d.size)=Az cells (i*d.size+off) (a.eval y).cells.toList:=by
          rw[←cd];apply ABU;intro j;simp only[Az,AAt,AA0,AAk,SH,AAi,ABq];have ai:min (i*d.size+off) r.toList.length=i*d.size+off:=by omega
          have E:min (i*d.size+off) (xs.length*d.size)=i*d.size+off:=by omega
          have cn:min (xs.length*d.size) r.toList.length=xs.length*d.size:=by
           have bs:r.toList.length=cap*d.size:=by rw[←U];simp
           omega
          simp only[ai,E,cn];by_cases c1:j<i*d.size+off
          ·simp[c1,show j<xs.length*d.size by omega]
          ·by_cases c2:j-(i*d.size+off)<(a.eval y).cells.toList.length
           ·simp only[c1,c2,AAU,AAC,show j<xs.length*d.size by omega]
           ·simp only[c1,c2,AAU];by_cases ak:j<xs.length*d.size
            ·rw[BY ak,BY (by omega)]
            ·rw[At ak,At (by omega)]
         refine hs.upd am hn A (Fm w g _) ⟨by simpa using bt,Az cells (i*d.size+off) (a.eval y).cells.toList,⟨?_,.inr ⟨g,cap,_,by rw[f,bm];simp,IN _,setRow_heap w g _ _ et _ C,by simpa using ap,bi,by simp[cb,U],?_⟩⟩,?_⟩
         ·rw[E3 (by omega)];simpa using aw
         ·simpa using ce
         ·have hk:=RW (O0:=O0) hn A (Fm w g (Az r.toList (i*d.size+off) (a.eval y).cells.toList).toArray);have bu:Dh (vw w O0 σ ρ).w (vw w O0 σ ρ).O d (Az cells (i*d.size+off) (a.eval y).cells.toList) (xs.set i z):=by
           intro k q N;rw[AAs]at N;split at N
           ·rename_i au;subst au;cases N;refine⟨Az al off (a.eval y).cells.toList,by rw[E3 bg];exact bo,fun j u p=>?_,bf⟩;simp only[Az,AAt,AAk,SH,AA0,AAi]at p ⊢;have ai:min off al.length=off:=by omega
            have E:min (i*d.size+off) cells.length=i*d.size+off:=by omega
            simp only[ai]at p;simp only[E];by_cases c1:j<off
            ·simp only[c1,AAC]at p;simp only[show i*d.size+j<i*d.size+off by omega,AAC];exact ar _ _ p
            ·simp only[c1,AAU]at p;simp only[show ¬i*d.size+j<i*d.size+off by omega,AAU];rw[show i*d.size+j-(i*d.size+off)=j-off by omega];by_cases c2:j-off<(a.eval y).cells.toList.length
             ·simp only[c2,AAC]at p ⊢;exact p
             ·simp only[c2,AAU]at p ⊢;have:=ar _ _ p;rw[←this]
              congr 1
              omega
           ·rename_i au;obtain⟨ba,bb,bc,bd⟩:=F k q N;refine⟨ba,bb,fun j u p=>?_,bd⟩;have cx:=(QB.1 p).1;have aq:=bc j u p;simp only[Az,AAt,AAk,SH,AA0,AAi];have E:min (i*d.size+off) cells.length=i*d.size+off:=by omega
            simp only[E];rcases Nat.lt_or_ge k i with av|av
            ·have:(k+1)*d.size≤i*d.size:=AA2 _ av;rw[AAP]at this;simp only[show k*d.size+j<i*d.size+off by omega,AAC];exact aq
            ·have:(i+1)*d.size≤k*d.size:=AA2 _ (by omega);rw[AAP]at this;simp only[show ¬k*d.size+j<i*d.size+off by omega,AAU,show ¬k*d.size+j-(i*d.size+off)<(a.eval y).cells.toList.length by omega];rw[←aq]
             congr 1
             omega
          exact bu.keeps hk
       ·cases h
 ·cases h
theorem pU (hs:Bo w0 K O0 nt ds σ ρ a w) (B:∀b,K b→b<w0.heap.size) (s:DB P tb) {t:TypeId} {m x y:Operand} (h:JQ tb σ (lk t tb.ty) (Ae σ m) (Ae σ x) (Ae σ y)=some (vc,σ')) :
  ∃w',(Instr.mapUpdate t (a.eval m) (a.eval x) (a.eval y)).run P w=.ok () w'∧Bo w0 K O0 nt ds σ' ρ a w':=by
 have g:F4 (vw w O0 σ ρ) σ a.eval:=Dn hs.env;unfold JQ at h;split at h
 ·rename_i k e _ _ n xv W N J O R;have Q:=g x _ O;have S:=g y _ R;obtain⟨X,b,d,L⟩:=g m _ J;have d:ρ n=_:=d;cases hn:lk n σ.objs with
  | none=>rw[hn]at h;simp[E9]at h
  | some o =>
   rw[hn]at h;cases o with
   | mapo Y U l =>
    cases j:lk k tb.ty with
    | none=>simp[E9,j]at h
    | some T =>
     simp only[E9,j,AAY,AAq]at h;split at h
     ·rename_i E;obtain⟨rfl,F⟩:=E;cases f:KJ false σ T.ty xv with
      | none=>rw[f]at h;simp[Fj]at h
      | some kd =>
       cases p:KJ false σ U W with
       | none=>rw[f,p]at h;simp[Fj]at h
       | some aa =>
        rw[f,p]at h;simp only[Fj]at h;split at h
        ·rename_i H;cases h;have h1:=Jo (V:=vw w O0 σ ρ) (O':=own O0 σ ρ) (fun _ h=>h) (fun h=>by cases h) hs.objs f Q;have A:=Jo (V:=vw w O0 σ ρ) (O':=own O0 σ ρ) (fun _ h=>h) (fun h=>by cases h) hs.objs p S;obtain⟨b',r,q,c,M,⟨Z,z⟩,G,D⟩:=A3k (w:=w) (V:=vw w O0 σ ρ) s (s _ _ N) (n:=n) rfl rfl j rfl (hs.objs n _ hn) F H h1 A;have c:ρ n=_:=c;rw[d]at c;injection c with c
         injection c with c
         subst c;rw[L];refine⟨_,M,?_⟩;have u:blk (ρ n)=some b:=by rw[d];rfl
         have v:w.grownBy { w with heap:=w.heap.setIfInBounds b (.map r q) } (some b) :=
          ⟨rfl,rfl,rfl,by simp,fun i _ hi=>(AC7 z).2 i (fun e=>hi (by rw[e]))⟩
         refine hs.upd B hn u v ⟨b,r,q,d,(AC7 z).1,?_⟩;refine⟨?_,D⟩;exact G.mono (fun _ _ h=>h) (fun b2 I C=>v.block b2 I (fun e=>by injection e with e;subst e;exact C (.inr ⟨n,⟨_,hn⟩,.inl u⟩)))
        ·cases h
     ·cases h
   | _=>simp[E9]at h
 ·cases h
end
end
section
open Go Go.RowKit
section
variable {P:Program} {tb:Tb} {w0:World} {K O0:Nat→Prop} {nt:Nat} {ds:Fp} {σ σ':St} {ρ:Nat→Value} {a:Act} {w:World} {vc:Prop} {id:TypeId}
theorem SP {w:World} {base:Nat} {et:TypeId} {sz n:Nat} {s:Value} {xs:List Value} (h:w.ownsRow base et sz s n xs):s.ownBlock=blk s:=by
 rcases h.2 with ⟨rfl,_⟩|⟨g,cap,a,rfl,_⟩<;>rfl
theorem HY (y:DB P tb) {el:TypeId} {e:Ty} (hu:P.underlying id=some (.slice el)) {te:TI} (E:lk el tb.ty=some te) (Q:te.ty=e) {base ty:Nat} {s xv:Value} {n:Nat} {xs t:List Value}
  (q:w.ownsRow base el e.size s n xs) {O:Nat→Prop} {ys:List e.den} (Y:Src w O e xv ys t) (F:(n+ys.length)*te.bytes≤AO) {f:Value} {w':World}
  (hr:(Builtin.append_ #[id,id] ty #[s,xv]).run P w=.ok f w'):blk f=blk s∨∀b,blk f=some b→w.heap.size≤b:=by
 subst Q;obtain⟨⟨⟨_,L,_⟩,i,z,hi,o,A,G,aj⟩,_⟩:=y _ _ E;have C:n+ys.length≤AO:=by
  have:(n+ys.length)*1≤(n+ys.length)*te.bytes:=ABd _ L;omega
 have ag:AO=140737488355328:=rfl;obtain⟨⟨a,c,rfl,K⟩,B,ab,X,af⟩:=Y;have hs:(sizeOf el).run P w=.ok te.ty.size w:=H0 w (y _ _ E);have I:∀ {l v:Nat} {W:World},Result.ok (Value.slice (some ⟨w.heap.size,0,none⟩) l v) W=Result.ok f w'→blk f=blk s∨∀b,blk f=some b→w.heap.size≤b:=by
  intro l v W N;injection N with h1 p
  subst h1;exact .inr (fun b r=>by simp[blk]at r;omega)
 have H:∀(ad:Addr) (m:Nat) (d:List Value),d.length=m*te.ty.size→(∀(j:Nat) (u:Value),d[j]?=some u→w.cell? (ad.add j)=some u)→(∀u∈d,u.oneCell'=true)→n+m≤AO→(n+m)*te.bytes≤AO →
   (Builtin.append_ #[id,id] ty #[s,.slice (some ad) m c]).run P w=.ok f w'→blk f=blk s∨∀b,blk f=some b→w.heap.size≤b:=by
  intro ad m d k h h1 ae r hr;rcases q.2 with ⟨rfl,rfl⟩|⟨g,cap,x,rfl,Z,S,ah,aa,M,ai⟩
  ·by_cases T:m=0
   ·subst T;have:d=[]:=aT (by simpa using k);simp[Builtin.append_,aS hu,hs,Builtin.lenOf,Builtin.firstCells,loadCells,loadCellsFrom]at hr;rw[←hr.1];exact .inl rfl
   ·have:=run_append_nil (P:=P) w id ty el i z hu hi G ad m c d (by rw[o];exact k) h (by omega) (by omega) (by rw[A];simp at r;omega);rw[this]at hr;exact I hr
  ·by_cases D:n+m≤cap
   ·have R:n*i.size+d.length≤x.size:=by
     rw[k,o,M,←ABK];exact AA2 _ D
    have:=run_append_room (P:=P) w id ty el i hu hi g n cap x S ad m c d (by rw[o];exact k) h h1 D R;rw[this]at hr;injection hr with p J
    subst p;exact .inl rfl
   ·have V:∀j u,xs[j]?=some u→w.cell? ((⟨g,0,none⟩:Addr).add j)=some u:=q.cells (g:=g) rfl;have:=run_append_grow (P:=P) w id ty el i z hu hi G ⟨g,0,none⟩ n cap xs (by rw[o];exact q.1) V ad m c d (by rw[o];exact k) h (by omega) (by omega) (by rw[A];exact growslice_fits (by omega) (by omega));rw[this]at hr;exact I hr
 rcases K with rfl|⟨ad,rfl,h⟩
 ·have U:t=[]:=aT (by simpa using B);subst U;cases a with
  | none =>
   have:=RL (P:=P) (ty:=ty) hu hs q c;rw[show ([]:List te.ty.den).length=0 from rfl,this]at hr;injection hr with p J
   subst p;exact .inl rfl
  | some ad=>exact H ad 0 [] (by simp) (by simp) (by simp) (by simpa using C) (by simpa using F) hr
 ·exact H ad ys.length t B h X C F hr
theorem iQ {w:World} {O:Nat→Prop} {e:Ty} {c:List Value} {xs:List e.den} (h:Dh w O e c xs) (n:Nat):Dh w O e (c.take (n*e.size)) (xs.take n):=by
 intro i x hi;rw[AA0]at hi;split at hi
 ·rename_i k;obtain⟨b,d,f,g⟩:=h i x hi;refine⟨b,d,fun j u a=>?_,g⟩;have l:=(QB.1 a).1;have:(i+1)*e.size≤n*e.size:=AA2 _ k;rw[AAP]at this;rw[AA0,BY (by omega)];exact f j u a
 ·cases hi
theorem iR (hs:Bo w0 K O0 nt ds σ ρ a w) (ae:∀b,K b→b<w0.heap.size) (af:∀b,O0 b→b<w0.heap.size) (hT:DB P tb) {d:Option Nat} (ah:∀k,d=some k→k<nt) {t u ty:TypeId} {x y:Operand}
  (h:Cu tb σ d t u (Ae σ x) (Ae σ y)=some (vc,σ')) (aq:vc) (ag:∃n e hi,Ae σ x=some (.sr n e 0 hi)∧CY (lk n σ.objs)=false) :
  ∃z w' ρ',(Builtin.append_ #[t,u] ty #[a.eval x,a.eval y]).run P w=.ok z w'∧Bo w0 K O0 nt ds σ' ρ' (a.put d z) w':=by
 have R:F4 (vw w O0 σ ρ) σ a.eval:=Dn hs.env;obtain⟨n0,ab,al,A,U⟩:=ag;unfold Cu at h;split at h
 ·rename_i n e hi v s ar;obtain⟨rfl,rfl,rfl⟩:n=n0∧e=ab∧hi=al:=by rw[s]at A;cases A;exact⟨rfl,rfl,rfl⟩
  split at h
  ·rename_i d;split at h
   ·rename_i M;obtain⟨M,ak⟩:=M;subst M;cases J:lk t tb.ty with
    | none=>rw[J]at h;simp[Dz]at h
    | some ti =>
     rw[J]at h;unfold Dz at h;split at h
     ·rename_i p offs el b i;cases i;split at h
      ·rename_i ai;subst ai;obtain⟨hu,bh,te,I,W⟩:=CD (hT _ _ J) hT;rw[I]at h;cases hn:lk n σ.objs with
       | none=>rw[hn]at h;cases f:OK σ p v<;>rw[f]at h<;>simp[CM]at h
       | some o =>
        rw[hn]at h;cases o with
        | box et bq fs=>cases f:OK σ p v<;>rw[f]at h<;>simp[CM]at h
        | mapo au v1 l=>cases f:OK σ p v<;>rw[f]at h<;>simp[CM]at h
        | frame br fs=>cases f:OK σ p v<;>rw[f]at h<;>simp[CM]at h
        | loop L=>cases f:OK σ p v<;>rw[f]at h<;>simp[CM]at h
        | itr bk bn bl bm bi=>cases f:OK σ p v<;>rw[f]at h<;>simp[CM]at h
        | nest et bj au B xs bd=>rw[hn]at U;cases U
        | dfr=>cases f:OK σ p v<;>rw[f]at h<;>simp[CM]at h
        | arr et j xs =>
         simp only[CM]at h;split at h
         ·rename_i aj;subst aj;cases D:BO (.slice p) ⟨.slice j,xs⟩ with
          | none=>rw[D]at h;simp[Ea]at h
          | some bs =>
           obtain⟨rfl,ad⟩:=Bm D;cases ad;rw[D]at h;cases f:OK σ j v with
           | none=>rw[f]at h;simp[Ea]at h
           | some ys =>
            rw[f]at h;simp only[Ea]at h;cases h;obtain⟨bo,H⟩:=SL hs.objs f (R y _ ar);obtain⟨bg,cells,r,E⟩:=hs.objs n _ hn;have r:w.ownsRow 0 et j.size (ρ n) xs.length cells:=r;have E:Dh w (own O0 σ ρ) j cells xs:=E;obtain⟨ba,a0,m,c,q,bf,bc,Z,aa,N,bb,h0,h1⟩:=R x _ s;have q:plc (ρ n)=.slice a0 m c:=q;rw[HX r]at q;obtain⟨rfl,rfl⟩:=h0 rfl;simp only[ACf]at N;have be:=r.1;have T:hi≤xs.length:=by
             rcases r.2 with ⟨i,ao⟩|⟨g,cap,O,i,_⟩
             ·rw[q]at i;injection i;omega
             ·rw[q]at i;injection i;omega
            have an:hi*j.size≤xs.length*j.size:=AA2 _ T;have G:w.ownsRow 0 et j.size (a.eval x) hi (cells.take (hi*j.size)):=by
             rw[N];refine⟨by rw[SH];omega,?_⟩;rcases r.2 with ⟨i,ao⟩|⟨g,cap,O,i,av,aw,bp,ax,ay,az⟩
             ·rw[q]at i;injection i with B j C
              subst B;subst C;have:hi=0:=by omega
              subst this;exact .inl ⟨rfl,rfl⟩
             ·rw[q]at i;injection i with B j C
              subst B;subst C;refine .inr ⟨g,aa,O,rfl,av,aw,by omega,ax,ay,?_⟩;rw[←az,ABq,ABe an]
            have X:(hi+ys.length)*te.bytes≤AO:=aq;obtain⟨z,w',V,ap,S,am⟩:=GJ (ty:=ty) hT hu I W G H X (IN _);have Y:=HY (ty:=ty) hT hu I W G H X V;have Q:blk (a.eval x)=blk (ρ n):=by
             rw[N,q];cases Z<;>rfl
            rw[Q]at Y;rw[SP G,Q]at S;refine⟨z,w',EM ρ n z,V,?_⟩;have F:(xs.take hi++ys).length=hi+ys.length:=by simp;omega
            exact hs.app ae af ak hn S Y (by rw[F];exact am) (by rw[F];exact ap) (KU (iQ E hi) H.elems (by rw[SH,SH];rw[ABe T];omega)) (ah d rfl) F.symm
         ·cases h
      ·cases h
     ·cases h
   ·cases h
  ·cases h
 ·rename_i s _;rw[s]at A;cases A
 ·rename_i s _;rw[s]at A;cases A
 ·cases h
theorem MX (n:Nat) (e:Ty) (xs:List e.den) (s:Nat):∀l:List (Nat×AV),lk s (C0 n e xs l)=(lk s l).map (AV.frz n e xs)
 | []=>rfl
 | (j,v) :: l=>by
  simp only[C0,lk];split
  ·rfl
  ·exact MX n e xs s l
def Obj.frz (n:Nat) (e:Ty) (xs:List e.den):Obj→Obj
 | .arr et a ys=>.arr et a ys
 | .box et j fs=>.box et j (AV.frzs n e xs fs)
 | .mapo k v l=>.mapo k v l
 | .nest et c k e ys h=>.nest et c k e ys h
 | .frame m fs=>.frame m (C0 n e xs fs)
 | .loop L=>.loop L
 | .itr d i f g b=>.itr d i f g b
 | .dfr=>.dfr
theorem CV (n:Nat) (e:Ty) (xs:List e.den) (s:Nat):∀l:List (Nat×Obj),lk s (A4 n e xs l)=(lk s l).map (Obj.frz n e xs)
 | []=>rfl
 | (j,.arr et a ys) :: l=>by
  simp only[A4,lk];split
  ·rfl
  ·exact CV n e xs s l
 | (j,.box et h fs) :: l=>by
  simp only[A4,lk];split
  ·rfl
  ·exact CV n e xs s l
 | (j,.mapo k v x) :: l=>by
  simp only[A4,lk];split
  ·rfl
  ·exact CV n e xs s l
 | (j,.nest _ _ _ _ _ _) :: l=>by
  simp only[A4,lk];split
  ·rfl
  ·exact CV n e xs s l
 | (j,.frame i fs) :: l=>by
  simp only[A4,lk];split
  ·rfl
  ·exact CV n e xs s l
 | (j,.loop L) :: l=>by
  simp only[A4,lk];split
  ·rfl
  ·exact CV n e xs s l
 | (j,.itr c g d f b) :: l=>by
  simp only[A4,lk];split
  ·rfl
  ·exact CV n e xs s l
 | (j,.dfr) :: l=>by
  simp only[A4,lk];split
  ·rfl
  ·exact CV n e xs s l
theorem RY (n:Nat) (e:Ty) (xs:List e.den):∀l:List AV,(AV.frzs n e xs l).length=l.length
 | []=>rfl
 | _ :: r=>by simp[AV.frzs,RY n e xs r]
section
variable {V V':Vw} {n:Nat} {et:TypeId} {e:Ty} {xs:List e.den}
structure mU (V V':Vw) (n:Nat):Prop where
 w:V'.w=V.w
 ρ:V'.ρ=V.ρ
 L:∀m,V.L m→m≠n→V'.L m
 O:∀b,¬V.O b→¬V'.O b
 n:∀b,bk (V.ρ n) b→¬V'.O b
theorem mU.keeps (h:mU V V' n):CN (V.but n) V':=⟨fun b _ c=>h.O b c,fun m a=>h.L m a.1 a.2,fun m _=>by rw[h.ρ];rfl,fun b _ _=>by rw[h.w];rfl⟩
structure Oh (V V':Vw) (n:Nat) (e:Ty) (xs:List e.den):Prop where
 seat:seat (V.ρ n)
 read:∀lo hi v,DA (plc (V.ρ n)) e.size lo hi v→Br V'.w V'.O (.slice e) [v] (sub xs lo hi)
theorem ZT {V:Vw} {et:TypeId} {e:Ty} {xs:List e.den} {loc:Value} (b:A1 V (.arr et e xs) loc):seat loc:=by
 obtain⟨_,cells',c,_⟩:=b;rcases c.2 with ⟨a,_⟩|⟨g,cap,d,a,_⟩
 ·exact .inl ⟨_,_,_,a⟩
 ·exact .inl ⟨_,_,_,a⟩
theorem mU.arr (h:mU V V' n) (a:A1 V (.arr et e xs) (V.ρ n)):Oh V V' n e xs:=⟨ZT a,fun lo hi v d=>by
 have hr:=Xp (V:=V) (O':=V'.O) h.O (fun b c=>h.n b (.inl c)) a d
 rwa [←h.w]at hr⟩
theorem mU.nest (h:mU V V' n) {d:TypeId} {k e:Ty} {xs:List (k.den×List e.den)} (a:A1 V (.nest et d k e xs none) (V.ρ n)):Oh V V' n (.agg (.prod k (.slice e))) xs:=⟨by
 obtain⟨o,ins,cells,b,_⟩:=a;exact b.elim (fun h=>.inr ⟨_,h⟩) (fun h=>.inl ⟨_,_,_,h.1⟩),fun lo hi v c=>by
 have hr:=ZC (V:=V) (O':=V'.O) h.O h.n a c
 rwa [←h.w]at hr⟩
theorem Xz (h:mU V V' n) (g:Oh V V' n e xs) {x:AV} {v:Value} (b:Sx V x v):Sx V' (x.frz n e xs) v∧((∀t d,x≠.p t d)→∀t d,x.frz n e xs=.p t d→t.wrap [v]=v∧Br V'.w V'.O t [v] d):=by
 have hk:=h.keeps;have c:=g.seat;cases x;case sr m f lo hi =>
  simp only[AV.frz];split
  ·rename_i a;subst a;split
   ·rename_i o;subst o;obtain⟨s,j⟩:=b;have hr:=g.read lo hi v j;obtain⟨_,_,_,_,_,_,q,r,k,_⟩:=j;refine⟨⟨[v],hr,by rw[k];rfl⟩,fun _ t d h=>?_⟩;injection h with h1 l
    subst h1;cases l;exact⟨by rw[k];rfl,hr⟩
   ·exact⟨trivial,fun _ t d h=>by cases h⟩
  ·rename_i a;have:=Ir c b;simp only[AV.drp,At a]at this;exact⟨this.keeps hk,fun _ t d h=>by cases h⟩
 case ep m f i u off =>
  have:=Ir c b;simp only[AV.drp]at this;simp only[AV.frz];split
  ·exact⟨trivial,fun _ t d h=>by cases h⟩
  ·rename_i a;rw[At a]at this;exact⟨this.keeps hk,fun _ t d h=>by cases h⟩
 case nin m f i len =>
  have:=Ir c b;simp only[AV.drp]at this;simp only[AV.frz];split
  ·exact⟨trivial,fun _ t d h=>by cases h⟩
  ·rename_i a;rw[At a]at this;exact⟨this.keeps hk,fun _ t d h=>by cases h⟩
 case p t d=>exact⟨(Ir c b).keeps hk,fun hp=>absurd rfl (hp t d)⟩
 all_goals
  have:=Ir c b;simp only[AV.drp]at this;simp only[AV.frz];exact⟨this.keeps hk,fun _ t d h=>by cases h⟩
theorem A1u (h:mU V V' n) (j:Oh V V' n e xs) {x:AV} {cs:List Value} (c:M2 V x cs):M2 V' (x.frz n e xs) cs:=by
 by_cases hp:∃t d,x=.p t d
 ·obtain⟨t,d,rfl⟩:=hp;simp only[AV.frz];have c:Br V.w V.O t cs d:=c;have:Br V'.w V'.O t cs d:=c.mono (fun b _ i=>h.O b i) (fun b _ _=>by rw[h.w]);exact this
 ·have k:∃v,cs=[v]∧v.oneCell'=true∧Sx V x v:=by
   cases x;case p t d=>exact absurd ⟨t,d,rfl⟩ hp
   all_goals exact c
  obtain⟨v,rfl,h1,g⟩:=k;obtain⟨f,a⟩:=Xz h j g;have a:=a (fun t d e=>hp ⟨t,d,e⟩);generalize l:x.frz n e xs=y at f a;cases y;case p t d=>exact(a t d rfl).2
  all_goals exact⟨v,rfl,h1,f⟩
theorem Oi (h:mU V V' n) (b:Oh V V' n e xs):∀ {l:List AV} {cs:List Value},DQ V l cs→DQ V' (AV.frzs n e xs l) cs
 | [],cs,a=>(a:cs=[])
 | x :: r,cs,a=>by
  obtain⟨c1,c2,rfl,h1,c⟩:=a;simp only[AV.frzs];exact⟨c1,c2,rfl,A1u h b h1,Oi h b c⟩
theorem A1v (h:mU V V' n) (b:Oh V V' n e xs) {x:AV} {v:Value} (a:RI V x v):RI V' (x.frz n e xs) v:=by
 cases x;case ag l=>obtain⟨cs,h1,c⟩:=a;simp only[AV.frz];exact⟨cs,h1,Oi h b c⟩
 all_goals
  simp only[RI]at a;exact RI.of1 (Xz h b a).1
theorem ZU (h:mU V V' n) (c:Oh V V' n e xs):∀ {l:List AV} {a:List Value},Jl V l a→Jl V' (AV.frzs n e xs l) a
 | [],a,b=>(b:a=[])
 | x :: r,a,b=>by
  obtain⟨v,f,rfl,h1,d⟩:=b;simp only[AV.frzs];exact⟨v,f,rfl,A1v h c h1,ZU h c d⟩
theorem mV (h:mU V V' n) (c:Oh V V' n e xs) {x:AV} {v:Value} (a:B2 V x v):B2 V' (x.frz n e xs) v:=by
 cases x;case ag l=>obtain⟨cs,h1,b⟩:=a;simp only[AV.frz];exact⟨cs,h1,Oi h c b⟩
 case tup l=>obtain⟨d,h1,b⟩:=a;simp only[AV.frz];exact⟨d,h1,ZU h c b⟩
 all_goals
  simp only[B2]at a;exact A1o (Xz h c a).1
end
theorem ZV (hs:Bo w0 K O0 nt ds σ ρ a w) (n:Nat) (N:¬GE n=true) {U:Obj} (hn:lk n σ.objs=some U) {e:Ty} {xs:List e.den}
  (Q:mU (vw w O0 σ ρ) (vw w O0 ⟨C0 n e xs σ.env,A4 n e xs (del n σ.objs)⟩ ρ) n→Oh (vw w O0 σ ρ) (vw w O0 ⟨C0 n e xs σ.env,A4 n e xs (del n σ.objs)⟩ ρ) n e xs) :
  Bo w0 K O0 nt ds ⟨C0 n e xs σ.env,A4 n e xs (del n σ.objs)⟩ ρ a w:=by
 have F:∀m x,lk m (A4 n e xs (del n σ.objs))=some x→m≠n∧∃y,lk m σ.objs=some y∧x=y.frz n e xs:=by
  intro m x d;rw[CV,QI]at d;split at d
  ·simp at d
  ·rename_i t;simp only[Is]at d;obtain⟨y,j,rfl⟩:=d;exact⟨t,y,j,rfl⟩
 have h:∀m,Gb ⟨C0 n e xs σ.env,A4 n e xs (del n σ.objs)⟩ m↔(Gb σ m∧m≠n):=by
  intro m;constructor
  ·rintro⟨x,C⟩;obtain⟨h1,y,g,_⟩:=F m x C;exact⟨⟨y,g⟩,h1⟩
  ·rintro⟨⟨x,C⟩,t⟩;exact⟨x.frz n e xs,by simp[CV,QI,t,C]⟩
 have hF:mU (vw w O0 σ ρ) (vw w O0 ⟨C0 n e xs σ.env,A4 n e xs (del n σ.objs)⟩ ρ) n:=by
  refine⟨rfl,rfl,fun m h1 g=>(h m).2 ⟨h1,g⟩,fun b f B=>?_,fun b f B=>?_⟩
  ·rcases B with h0|⟨m,c,d⟩
   ·exact f (.inl h0)
   ·exact f (.inr ⟨m,((h m).1 c).1,d⟩)
  ·have f:bk (ρ n) b:=f;rcases B with h0|⟨m,c,d⟩
   ·exact(hs.free n b ⟨_,hn⟩ f).2 h0
   ·exact((h m).1 c).2 (hs.dist m n b ((h m).1 c).1 ⟨_,hn⟩ d f)
 have u:=Q hF;have P:∀p∈ds.pin,Gb ⟨C0 n e xs σ.env,A4 n e xs (del n σ.objs)⟩ p.1∧ρ p.1=p.2∧(A39 p.2=true∨GE p.1=true):=by
  intro p hp;obtain⟨h1,g,r⟩:=hs.pin p hp;refine⟨(h p.1).2 ⟨h1,fun q=>?_⟩,g,r⟩;have r:A39 p.2=true:=r.resolve_right (by rw[q];exact N);have D:seat (ρ n):=u.seat;rw[←q,g]at D;rcases D with ⟨_,_,_,E⟩|⟨_,E⟩<;>rw[E]at r<;>cases r
 refine⟨hs.frm,hs.nt,hs.defers,P,?_,?_,?_,?_⟩
 ·intro m x d;obtain⟨t,y,j,rfl⟩:=F m x d;have i:=hs.objs m y j;cases y with
  | arr A q J=>exact A1.keeps (V:=(vw w O0 σ ρ).but n) hF.keeps (fun _ _=>rfl) i
  | box A ab fs =>
   obtain⟨h0,b,cs,c,hh,M⟩:=i;exact⟨fun R=>by rw[RY];exact h0 R,b,cs,c,hh,Oi hF u M⟩
  | nest A S T q J c=>exact A1.keeps (V:=(vw w O0 σ ρ).but n) (o:=.nest A S T q J c) hF.keeps (fun _ _=>rfl) (MT (V:=vw w O0 σ ρ) (V':=(vw w O0 σ ρ).but n) rfl rfl i)
  | mapo k v l=>exact A1.keeps (V:=(vw w O0 σ ρ).but n) hF.keeps (fun _ _=>rfl) i
  | frame ad fs =>
   obtain⟨h0,h1⟩:=i;refine⟨h0,fun s z H=>?_⟩;simp only[MX,Is]at H;obtain⟨y,j,rfl⟩:=H;exact mV hF u (h1 s y j)
  | loop L=>exact A1.keeps (V:=(vw w O0 σ ρ).but n) hF.keeps (fun _ _=>rfl) i
  | itr X aa Y Z W=>exact A1.keeps (V:=(vw w O0 σ ρ).but n) hF.keeps (fun _ _=>rfl) i
  | dfr=>exact A1.keeps (V:=(vw w O0 σ ρ).but n) hF.keeps (fun _ _=>rfl) i
 ·intro m b c f;exact hs.free m b ((h m).1 c).1 f
 ·intro m I b c O h1 g;exact hs.dist m I b ((h m).1 c).1 ((h I).1 O).1 h1 g
 ·intro s v G;simp only[MX,Is]at G;obtain⟨y,j,rfl⟩:=G;exact mV hF u (hs.env s y j)
theorem A1w (hs:Bo w0 K O0 nt ds σ ρ a w) (n:Nat):Bo w0 K O0 nt ds (frz n σ) ρ a w:=by
 unfold frz;split
 ·exact hs
 rename_i b;cases hn:lk n σ.objs with
 | none=>exact hs
 | some d =>
 cases d with
 | box et q fs=>exact hs
 | mapo k v l=>exact hs
 | frame r fs=>exact hs
 | loop L=>exact hs
 | itr j p m o f=>exact hs
 | dfr=>exact hs
 | arr et e xs=>exact ZV hs n b hn fun h=>h.arr (hs.objs n _ hn)
 | nest et g k e xs c =>
  cases c with
  | some i=>exact hs
  | none=>exact ZV hs n b hn fun h=>h.nest (hs.objs n _ hn)
theorem KW:∀ {l:List Nat} {σ:St},Bo w0 K O0 nt ds σ ρ a w→Bo w0 K O0 nt ds (Ca l σ) ρ a w
 | [],_,h=>h
 | n :: r,σ,h=>KW (l:=r) (σ:=frz n σ) (A1w h n)
end
end
section
open Go Go.RowKit
section
variable {P:Program} {tb:Tb} {w0:World} {K O0:Nat→Prop} {nt:Nat} {ds:Fp} {σ σ':St} {ρ:Nat→Value} {a:Act} {w:World} {vc:Prop}
theorem A1x (hs:Bo w0 K O0 nt ds σ ρ a w) (cd:∀b,K b→b<w0.heap.size) (ce:∀b,O0 b→b<w0.heap.size) (hT:DB P tb) {d:Nat} (cg:d<nt) {t ty:TypeId} {x y:Operand} {n i len:Nat} {e:Ty} {v:AV}
  (cu:Ae σ x=some (.nin n e i len)) (cv:Ae σ y=some v) {et el:TypeId} {k:Ty} {xs:List (k.den×List e.den)} (hn:lk n σ.objs=some (.nest et el k e xs none)) (ci:GE n=false)
  (hu:P.underlying t=some (.slice el)) {te:TI} (bb:lk el tb.ty=some te) (bc:te.ty=e) (h:LC σ d n et el k e xs i te.bytes (OK σ e v)=some (vc,σ')) (an:vc) :
  ∃z w' ρ',(Builtin.append_ #[t,t] ty #[a.eval x,a.eval y]).run P w=.ok z w'∧Bo w0 K O0 nt ds σ' ρ' (a.put (some d) z) w':=by
 have bj:F4 (vw w O0 σ ρ) σ a.eval:=Dn hs.env;cases be:OK σ e v with
 | none=>rw[be]at h;simp[LC]at h
 | some ys =>
  rw[be]at h;simp only[LC]at h;split at h
  ·rename_i bl;have al:lk d σ.objs=none:=by simpa using bl.1
   cases h;obtain⟨cz,ag⟩:=SL hs.objs be (bj y _ cv);obtain⟨dd,da,ad,c,aa,M,H,ck,dh⟩:=bj x _ cu;have M:ρ n=.tuple da:=M;have bq:=hs.objs n _ hn;have bm:=SI (z:=(k.dflt,[])) bq M H;obtain⟨o,ins,cells,cs,E⟩:=bq;obtain rfl:=cs.tup M;have H:ins[i]?=some aa:=by simpa using H
   obtain⟨c1,dj,cf,cr,s⟩:=E.row i _ _ bm H;rcases s with ⟨s,_⟩|⟨_,de,q,br,X,ch⟩
   ·cases s
   generalize dg:xs.getD i (k.dflt,[])=row at *;obtain⟨z,w',Y,G,B,az,bd⟩:∃z w',(Builtin.append_ #[t,t] ty #[a.eval x,a.eval y]).run P w=.ok z w'∧w'.ownsRow 0 el e.size z (row.2.length+ys.length) (br++cz)∧w.grownBy w' (blk aa)∧row.2.length+ys.length≤AO∧(blk z=blk aa∨∀b,blk z=some b→w.heap.size≤b):=by
    rcases ck with I|⟨I,a0,ct⟩
    ·rw[I];obtain⟨z,w',Y,G,B,az⟩:=GJ (ty:=ty) hT hu bb bc X ag an (IN _);have bd:=HY (ty:=ty) hT hu bb bc X ag an Y;rw[SP X]at B;exact⟨z,w',Y,G,B,az,bd⟩
    ·subst I;have bo:=KS X;have cq:row.2=[]:=aT bo.symm;have cj:br=[]:=aT (by rw[X.1,←bo,ABX]);subst cj;have cw:0<ys.length:=by
      cases ys with
      | nil=>simp at bl
      | cons _ _=>simp
     rw[ct];rw[cq]at an ⊢;obtain⟨z,w',Y,G,B⟩:=RM (ty:=ty) hT hu bb bc (xs:=([]:List e.den)) (a:=a0) (SK w (own O0 σ ρ) e a0 0) ag cw an;refine⟨z,w',Y,⟨G.1,G.2.imp (fun h=>h) fun⟨g,cap,ap,e,_,r⟩=>⟨g,cap,ap,e,IN _,r⟩⟩,B,by simpa using ag.max,.inr fun b f=>?_⟩;rcases G.2 with ⟨h1,_⟩|⟨g,cap,ap,h1,l,_⟩
     ·rw[h1]at f;simp[blk]at f
     ·rw[h1]at f;simp[blk]at f;omega
   have ak:∀b,bk (ρ n) b↔blk o=some b∨∃(j:Nat) (u:Value),ins[j]?=some u∧blk u=some b:=fun b=>by rw[M];exact A6
   have df:i<ins.length:=(QB.1 H).1;have ba:n≠d:=fun p=>by rw[p,al]at hn;cases hn
   generalize ax:(Value.tuple (o :: ins.set i (.slice none 0 0)).toArray)=loc;have R:EM (EM ρ n loc) d z n=loc:=by simp[EM,ba]
   have Q:EM (EM ρ n loc) d z d=z:=Bj _ _ _;have ah:∀m,m≠n→m≠d→EM (EM ρ n loc) d z m=ρ m:=fun m h1 l=>by simp[EM,h1,l]
   generalize EM (EM ρ n loc) d z=ρ' at R Q ah;have af:∀(j:Nat) (u:Value),(ins.set i (.slice none 0 0))[j]?=some u→(j=i∧u=.slice none 0 0)∨(j≠i∧ins[j]?=some u):=by
    intro j u F;rw[AAs]at F;split at F
    ·rename_i p;have F:(some (Value.slice none 0 0))=some u:=by
      first|exact F|(split at F<;>first|exact F|cases F)
     cases F;exact .inl ⟨p.symm,rfl⟩
    ·rename_i p;exact .inr ⟨fun ab=>p ab.symm,F⟩
   have bh:∀b,bk loc b→blk o=some b∨∃(j:Nat) (u:Value),j≠i∧ins[j]?=some u∧blk u=some b:=by
    intro b f;rw[←ax,A6]at f;rcases f with f|⟨j,u,F,f⟩
    ·exact .inl f
    ·rcases af j u F with ⟨_,rfl⟩|⟨h1,l⟩
     ·simp[blk]at f
     ·exact .inr ⟨j,u,h1,l,f⟩
   have aw:∀b,bk loc b→bk (ρ n) b:=fun b f=>(ak b).2 ((bh b f).imp id fun⟨j,u,_,h1,l⟩=>⟨j,u,h1,l⟩);have ae:∀b,blk aa=some b→bk (ρ n) b:=fun b f=>(ak b).2 (.inr ⟨i,_,H,f⟩);have bi:∀b,bk z b→blk z=some b:=fun b f=>by
    rcases G.2 with ⟨I,_⟩|⟨g,cap,ap,I,_⟩<;>rw[I]at f ⊢<;>exact Li.1 f
   have bf:∀b,bk z b→blk aa=some b∨w.heap.size≤b:=fun b f=>by
    rcases bd with h1|h1
    ·exact .inl (by rw[←h1];exact bi b f)
    ·exact .inr (h1 b (bi b f))
   have ay:∀b,bk (ρ n) b→b<w.heap.size:=fun b f=>(hs.objs n _ hn).block_lt f;have cm:∀b,bk loc b→blk aa≠some b:=by
    intro b f I;rcases bh b f with h1|⟨j,u,h1,l,s⟩
    ·exact E.out i b _ H I h1
    ·exact h1 (E.dist j i b u _ l H s I)
   have bn:(row.2++ys).length=row.2.length+ys.length:=by simp
   let S:St:=⟨(d,.sr d e 0 (row.2.length+ys.length)) :: Dk n [] σ.env,(d,.arr el e (row.2++ys)) :: (n,.nest et el k e xs (some i)) :: CR n [] σ.objs⟩
   have av:∀m C,lk m S.objs=some C→(m=d∧C=.arr el e (row.2++ys))∨(m=n∧m≠d∧C=.nest et el k e xs (some i))∨(m≠d∧m≠n∧∃A,lk m σ.objs=some A∧C=A.trn n []):=by
    intro m C q;simp only[S,lk]at q;split at q
    ·rename_i p;cases q;exact .inl ⟨p,rfl⟩
    ·rename_i p;split at q
     ·rename_i ab;cases q;exact .inr (.inl ⟨ab,p,rfl⟩)
     ·rename_i ab;rw[DR]at q;split at q
      ·cases q
      ·simp only[Is]at q;obtain⟨A,h1,rfl⟩:=q;exact .inr (.inr ⟨p,ab,A,h1,rfl⟩)
   have bg:∀m,m≠d→m≠n→∀A,lk m σ.objs=some A→lk m S.objs=some (A.trn n []):=by
    intro m h1 l A s;simp only[S,lk,At h1,At l,DR,s];simp[AX,l]
   have co:∀b,b<w.heap.size→¬own O0 σ ρ b→¬own O0 S ρ' b:=by
    intro b f L cy;rcases cy with h0|⟨m,⟨C,cn⟩,U⟩
    ·exact L (.inl h0)
    ·rcases av m C cn with ⟨rfl,_⟩|⟨rfl,_,_⟩|⟨h1,l,A,s,_⟩
     ·rw[Q]at U;rcases bf b U with D|D
      ·exact L (.inr ⟨n,⟨_,hn⟩,ae b D⟩)
      ·omega
     ·rw[R]at U;exact L (.inr ⟨_,⟨_,hn⟩,aw b U⟩)
     ·rw[ah m l h1]at U;exact L (.inr ⟨m,⟨A,s⟩,U⟩)
   have cp:plc loc=o:=by rw[←ax];rfl
   have ai:QL (vw w O0 σ ρ) (vw w' O0 S ρ') n []:=by
    refine⟨co,fun m q _=>?_,fun m q _ am=>?_,⟨_,M⟩,?_,fun b f L=>B.block b f fun p=>L (.inr ⟨n,⟨_,hn⟩,ae b p.symm⟩)⟩
    ·obtain⟨A,h1⟩:=q;by_cases N:m=n
     ·subst N;exact⟨.nest et el k e xs (some i),by simp[S,lk,ba]⟩
     ·have J:m≠d:=fun p=>by rw[p,al]at h1;cases h1
      exact⟨_,bg m J N A h1⟩
    ·obtain⟨A,h1⟩:=q;exact ah m am (fun p=>by rw[p,al]at h1;cases h1)
    ·show plc (ρ' n)=plc (ρ n);rw[R,cp,M];rfl
   have W:CN ⟨w,own O0 σ ρ,fun _=>False,ρ⟩ (vw w' O0 S ρ'):=⟨ai.O,fun _ h=>h.elim,fun _ h=>h.elim,ai.heap⟩;refine⟨z,w',ρ',Y,hs.swap cd ce (T:=fun m=>m=n) (fun m q=>by obtain rfl:m=n:=q;exact⟨ci,_,hn,by rw[M];exact .inr ⟨_,rfl⟩⟩) (new:=[(d,.arr el e (row.2++ys)),(n,.nest et el k e xs (some i))]) B.os B.tape B.output B.size ?_ ?_ ?_ ?_ ?_ ?_ ?_ ?_⟩
   ·exact fun b f L=>B.block b f fun p=>L n rfl (ae b p.symm)
   ·intro m C q bp;rcases av m C q with ⟨rfl,_⟩|⟨rfl,h1,_⟩|⟨h1,l,A,s,_⟩
    ·simp[lk]at bp
    ·simp[lk,h1]at bp
    ·exact⟨l,A,s⟩
   ·intro m A q am;have J:m≠d:=fun p=>by rw[p,al]at q;cases q
    exact⟨by simp[lk,J,am],_,bg m J am A q⟩
   ·intro m q;have J:m≠d:=fun p=>by simp[lk,p]at q
    have N:m≠n:=fun p=>by simp[lk,p,ba]at q
    exact ah m N J
   ·intro m C b q f;by_cases J:m=d
    ·rw[J,Q]at f;exact(bf b f).imp (fun D=>⟨n,rfl,ae b D⟩) id
    ·by_cases N:m=n
     ·rw[N,R]at f;exact .inl ⟨n,rfl,aw b f⟩
     ·simp[lk,J,N]at q
   ·have key:∀b,bk z b→bk loc b→False:=fun b h1 l=>by
     rcases bf b h1 with s|s
     ·exact cm b l s
     ·have:=ay b (aw b l);omega
    intro m ao C di b q cl f aj;have h1:m=d∨m=n:=by
     by_cases h1:m=d
     ·exact .inl h1
     ·by_cases l:m=n
      ·exact .inr l
      ·simp[lk,h1,l]at q
    have l:ao=d∨ao=n:=by
     by_cases h1:ao=d
     ·exact .inl h1
     ·by_cases l:ao=n
      ·exact .inr l
      ·simp[lk,h1,l]at cl
    rcases h1 with rfl|rfl<;>rcases l with l|l
    ·exact l.symm
    ·rw[Q]at f;rw[l,R]at aj;exact(key b f aj).elim
    ·rw[R]at f;rw[l,Q]at aj;exact(key b aj f).elim
    ·exact l.symm
   ·intro m C q;rcases av m C q with ⟨rfl,rfl⟩|⟨rfl,_,rfl⟩|⟨h1,l,A,s,rfl⟩
    ·rw[Q];refine⟨by rw[bn];exact az,_,by rw[bn];exact G,?_⟩;exact Dh.keeps W (KU ch ag.elems X.1)
    ·rw[R];refine⟨o,ins.set i (.slice none 0 0),cells,.inl ax.symm,E.max,by rw[AAd];exact E.len,JS (fun b f=>B.block b (ay b ((ak b).2 (.inl f))) fun p=>E.out i b _ H p.symm f) E.own,fun j db u h1 l=>?_,?_,?_⟩
     ·rcases af j u l with ⟨rfl,rfl⟩|⟨s,D⟩
      ·rw[bm]at h1;cases h1;exact⟨c1,_,cf,Br.mono W.O W.heap cr,.inl ⟨by simp,rfl⟩⟩
      ·obtain⟨c2,bw,bx,bz,ar⟩:=E.row j db u h1 D;rcases ar with ⟨ar,_⟩|⟨_,ca,cb⟩
       ·cases ar
       ·refine⟨c2,bw,bx,Br.mono W.O W.heap bz,.inr ⟨AAK.2 (fun p=>s (by injection p with p;exact p.symm)),ca,?_⟩⟩;exact NX.keeps (V:=⟨w,own O0 σ ρ,fun _=>False,ρ⟩) W (fun b f=>B.block b (ay b ((ak b).2 (.inr ⟨j,u,D,f⟩))) fun p=>s (E.dist j i b u _ D H f p.symm)) cb
     ·intro bs bt b bu bv h1 l s D;rcases af bs bu h1 with ⟨_,rfl⟩|⟨_,au⟩
      ·simp[blk]at s
      ·rcases af bt bv l with ⟨_,rfl⟩|⟨_,cc⟩
       ·simp[blk]at D
       ·exact E.dist bs bt b bu bv au cc s D
     ·intro j b u h1 l;rcases af j u h1 with ⟨_,rfl⟩|⟨_,au⟩
      ·simp[blk]at l
      ·exact E.out j b u au l
    ·rw[ah m l h1];refine mS ai (fun b f=>B.block b ((hs.objs m A s).block_lt f) fun p=>l (hs.dist m n b ⟨_,s⟩ ⟨_,hn⟩ f (ae b p.symm))) (hs.objs m A s)
   ·intro s2 bw Z;rw[KR a d z s2 (by rw[hs.nt];exact cg)];simp only[S,lk]at Z;split at Z
    ·rename_i aq;cases Z;rw[BY aq];refine⟨⟨.arr el e (row.2++ys),by simp[S,lk]⟩,?_⟩;show DA (plc (ρ' d)) e.size 0 _ z;rw[Q,HX G];exact FN G
    ·rename_i aq;rw[At aq];rw[X1]at Z;simp only[Is]at Z;obtain⟨dc,cx,rfl⟩:=Z;exact Xy ai (hs.env s2 dc cx)
  ·cases h
end
end
section
open Go Go.RowKit
theorem X0 {w:World} {et:TypeId} {sz len g m c:Nat} {cells:List Value} (h:w.ownsRow 0 et sz (.slice (some ⟨g,0,none⟩) m c) len cells) {p:Nat} (hp:p<len*sz) (v:Value) :
  ∃a:List Value,w.heap[g]?=some (.cells a.toArray et (0,0))∧p+1≤a.length∧(w.setRow g (Az a p [v]).toArray).ownsRow 0 et sz (.slice (some ⟨g,0,none⟩) m c) len (cells.set p v):=by
 obtain⟨u,n⟩:=h;rcases n with ⟨d,_⟩|⟨z,cap,a,d,A,k,f,q,i,x⟩
 ·cases d
 ·injection d with b r s
  injection b with b
  injection b with b
  subst b;have B:len*sz≤cap*sz:=AA2 _ f;have C:a.toList.length=cap*sz:=by rw[←i];simp
  have o:p + [v].length≤a.toList.length:=by simp only[iF];omega
  have t:w.heap[g]?=some (.cells a.toList.toArray et (0,0)):=by simpa using k
  have l:Az a.toList p [v]=a.toList.set p v:=by
   apply ABU;intro j;simp only[Az,AAt,AAk,SH,AA0,AAi,iF,AAs];have y:min p a.toList.length=p:=by omega
   simp only[y];by_cases c1:j<p
   ·simp only[c1,AAC];rw[At (by omega)]
   ·by_cases c2:j=p
    ·subst c2;simp only[Nat.lt_irrefl,AAU,AB4,Nat.lt_one_iff,AAC];rw[BY (by omega)];rfl
    ·simp only[c1,AAU,show ¬j-p<1 by omega];rw[At (fun e=>c2 e.symm)]
     congr 1
     omega
  refine⟨a.toList,t,by simpa using o,?_,.inr ⟨g,cap,_,by rw[r,s],IN _,setRow_heap w g _ _ et _ k,f,q,?_,?_⟩⟩
  ·rw[AAd];exact u
  ·rw[l];simp[i]
  ·rw[l,←x];simp[List.take_set]
section
variable {P:Program} {tb:Tb} {w0:World} {K O0:Nat→Prop} {nt:Nat} {ds:Fp} {σ σ':St} {ρ:Nat→Value} {a:Act} {w:World} {vc:Prop}
theorem uS (hs:Bo w0 K O0 nt ds σ ρ a w) (br:∀b,K b→b<w0.heap.size) (bs:∀b,O0 b→b<w0.heap.size) (hT:DB P tb) {id:TypeId} {ti:TI} (cm:lk id tb.ty=some ti) {x y:Operand} {n m i hi:Nat} {k e:Ty} (cn:ti.ty=.slice e) {db:List Nat}
  (cp:Ae σ x=some (.ep n (.agg (.prod k (.slice e))) i db k.size)) (ct:Ae σ y=some (.sr m e 0 hi)) {et B:TypeId} {xs:List (k.den×List e.den)} {ys:List e.den} (hn:lk n σ.objs=some (.nest et B k e xs (some i))) (H:lk m σ.objs=some (.arr B e ys))
  (bx:GE n=false) (bw:GE m=false) (co:hi=ys.length) :
  ∃w' ρ',(Instr.storeAt id (a.eval x) (a.eval y)).run P w=.ok () w'∧Bo w0 K O0 nt ds ⟨Dk n [m] σ.env,(n,.nest et B k e (xs.set i ((xs.getD i (k.dflt,[])).1,ys)) none) :: CR n [m] σ.objs⟩ ρ' a w':=by
 have bd:F4 (vw w O0 σ ρ) σ a.eval:=Dn hs.env;have ch:m≠n:=fun f=>by rw[f,hn]at H;cases H
 obtain⟨df,g,bl,c,ar,cd,cr⟩:=bd x _ cp;obtain⟨dg,bm,cz,bn,I,_,di,dd,de,cv,_,h0,_⟩:=bd y _ ct;obtain⟨o,ins,cells,bi,A⟩:=hs.objs n _ hn;have ba:NX (vw w O0 σ ρ) B e ys (ρ m):=hs.objs m _ H;have aq:=hs.objs m _ H;have I:plc (ρ m)=.slice bm cz bn:=I;rw[OW aq]at I;have cx:a.eval y=ρ m:=by
  obtain⟨rfl,rfl⟩:=h0 rfl;obtain⟨_,dj,bf,_⟩:=ba;rw[I]at bf;rw[cv,I,KS bf,co,ACf]
 have ar:plc (ρ n)=.slice (some ⟨g,0,none⟩) bl c:=ar;have ci:o=.slice (some ⟨g,0,none⟩) bl c:=by rw[←bi.plc];exact ar
 subst ci;have cf:=KS A.own;subst cf;have R:i<xs.length:=cd;have ao:i<ins.length:=by rw[A.len];exact R
 have ak:ρ n=.tuple ((.slice (some ⟨g,0,none⟩) xs.length c) :: ins).toArray:=bi.resolve_right fun h=>by rw[h.2.2]at ao;simp at ao
 have hp:i*(k.size+1)+k.size<xs.length*(k.size+1):=by
  have:(i+1)*(k.size+1)≤xs.length*(k.size+1):=AA2 _ R;rw[AAP]at this;omega
 obtain⟨Y,bz,bu,aj⟩:=X0 A.own hp (ρ m);have ck:(ρ m).oneCell'=true:=by rw[I];rfl
 have ae:(a.eval y).cells=#[ρ m]:=by rw[cx,I];rfl
 have bh:=Lm (P:=P) (xv:=a.eval y) (hT _ _ cm) bz (off:=i*(k.size+1)+k.size) (by rw[ae,cn];rfl) (by rw[ae];simpa using bu) (by rw[ae];intro u hu;simp at hu;subst hu;exact ck);rw[ae]at bh;refine⟨_,EM ρ n (.tuple ((.slice (some ⟨g,0,none⟩) xs.length c) :: ins.set i (ρ m)).toArray),by rw[cr];exact bh,?_⟩;have G:=Fm w g (Az Y (i*(k.size+1)+k.size) [ρ m]).toArray;change Bo w0 K O0 nt ds _ _ a (w.setRow g (Az Y (i*(k.size+1)+k.size) [ρ m]).toArray);have aj:(w.setRow g (Az Y (i*(k.size+1)+k.size) [ρ m]).toArray).ownsRow 0 et (k.size+1) (.slice (some ⟨g,0,none⟩) xs.length c) xs.length (cells.set (i*(k.size+1)+k.size) (ρ m)):=aj;generalize w.setRow g (Az Y (i*(k.size+1)+k.size) [ρ m]).toArray=w' at G aj;generalize ap:(Value.tuple ((.slice (some ⟨g,0,none⟩) xs.length c) :: ins.set i (ρ m)).toArray)=loc;have W:EM ρ n loc n=loc:=Bj _ _ _;have X:∀j,j≠n→EM ρ n loc j=ρ j:=fun j h1=>by simp[EM,h1]
 generalize EM ρ n loc=ρ' at W X;have F:∀b,bk (ρ n) b↔blk (.slice (some ⟨g,0,none⟩) xs.length c)=some b∨∃(j:Nat) (u:Value),ins[j]?=some u∧blk u=some b:=fun b=>by rw[ak];exact A6
 have U:∀(j:Nat) (u:Value),(ins.set i (ρ m))[j]?=some u→(j=i∧u=ρ m)∨(j≠i∧ins[j]?=some u):=by
  intro j u d;rw[AAs]at d;split at d
  ·rename_i f;have d:(some (ρ m))=some u:=by
    first|exact d|(split at d<;>first|exact d|cases d)
   cases d;exact .inl ⟨f.symm,rfl⟩
  ·rename_i f;exact .inr ⟨fun al=>f al.symm,d⟩
 have ad:∀b,blk (ρ m)=some b→bk (ρ m) b:=fun b l=>.inl l;have bc:∀b,bk loc b→bk (ρ n) b∨blk (ρ m)=some b:=by
  intro b l;rw[←ap,A6]at l;rcases l with l|⟨j,u,d,l⟩
  ·exact .inl ((F b).2 (.inl l))
  ·rcases U j u d with ⟨_,rfl⟩|⟨_,r⟩
   ·exact .inr l
   ·exact .inl ((F b).2 (.inr ⟨j,u,r,l⟩))
 have af:∀b,bk (ρ n) b→blk (ρ m)=some b→False:=fun b h1 r=>ch (hs.dist m n b ⟨_,H⟩ ⟨_,hn⟩ (ad b r) h1);have ag:bk (ρ n) g:=(F g).2 (.inl rfl);have cc:∀b,bk (ρ n) b→b<w.heap.size:=fun b l=>(hs.objs n _ hn).block_lt l;have ce:∀b,blk (ρ m)=some b→b<w.heap.size:=fun b l=>aq.block_lt (ad b l)
 let S:St:=⟨Dk n [m] σ.env,(n,.nest et B k e (xs.set i ((xs.getD i (k.dflt,[])).1,ys)) none) :: CR n [m] σ.objs⟩
 have an:∀j t,lk j S.objs=some t→(j=n∧t=.nest et B k e (xs.set i ((xs.getD i (k.dflt,[])).1,ys)) none)∨(j≠n∧j≠m∧∃s,lk j σ.objs=some s∧t=s.trn n [m]):=by
  intro j t d;simp only[S,lk]at d;split at d
  ·rename_i f;cases d;exact .inl ⟨f,rfl⟩
  ·rename_i f;rw[DR]at d;split at d
   ·cases d
   ·rename_i al;simp only[Is]at d;obtain⟨s,h1,rfl⟩:=d;exact .inr ⟨f,fun bo=>al (by simp[AX,bo]),s,h1,rfl⟩
 have bb:∀j,j≠n→j≠m→∀s,lk j σ.objs=some s→lk j S.objs=some (s.trn n [m]):=by
  intro j h1 r s p;simp only[S,lk,At h1,DR,p];simp[AX,h1,r]
 have cl:∀b,b<w.heap.size→¬own O0 σ ρ b→¬own O0 S ρ' b:=by
  intro b l C cw;rcases cw with h0|⟨j,⟨t,cj⟩,ab⟩
  ·exact C (.inl h0)
  ·rcases an j t cj with ⟨rfl,_⟩|⟨h1,r,s,p,_⟩
   ·rw[W]at ab;rcases bc b ab with v|v
    ·exact C (.inr ⟨_,⟨_,hn⟩,v⟩)
    ·exact C (.inr ⟨m,⟨_,H⟩,ad b v⟩)
   ·rw[X j h1]at ab;exact C (.inr ⟨j,⟨s,p⟩,ab⟩)
 have aa:QL (vw w O0 σ ρ) (vw w' O0 S ρ') n [m]:=by
  refine⟨cl,fun j d cb=>?_,fun j _ _ M=>X j M,⟨_,ak⟩,?_,fun b l C=>G.block b l fun f=>?_⟩
  ·obtain⟨s,h1⟩:=d;by_cases be:j=n
   ·exact⟨.nest et B k e (xs.set i ((xs.getD i (k.dflt,[])).1,ys)) none,by simp[S,lk,be]⟩
   ·exact⟨_,bb j be (fun f=>by simp[AX,f]at cb) s h1⟩
  ·show plc (ρ' n)=plc (ρ n);rw[W,←ap,ak];rfl
  ·injection f with f
   subst f;exact C (.inr ⟨n,⟨_,hn⟩,ag⟩)
 have L:CN ⟨w,own O0 σ ρ,fun _=>False,ρ⟩ (vw w' O0 S ρ'):=⟨aa.O,fun _ h=>h.elim,fun _ h=>h.elim,aa.heap⟩;have ah:∀b,b<w.heap.size→b≠g→w'.heap[b]?=w.heap[b]?:=fun b h1 r=>G.block b h1 fun f=>r (by injection f);refine hs.swap br bs (T:=fun j=>j=n∨j=m) (dst:=none) (u:=undef) (fun j d=>?_) (new:=[(n,.nest et B k e (xs.set i ((xs.getD i (k.dflt,[])).1,ys)) none)]) G.os G.tape G.output G.size ?_ ?_ ?_ ?_ ?_ ?_ ?_ ?_
 ·rcases d with rfl|rfl
  ·exact⟨bx,_,hn,by rw[ak];exact .inr ⟨_,rfl⟩⟩
  ·exact⟨bw,_,H,ZT aq⟩
 ·exact fun b l C=>ah b l fun f=>C n (.inl rfl) (by rw[f];exact ag)
 ·intro j t d cg;rcases an j t d with ⟨rfl,_⟩|⟨h1,r,s,p,_⟩
  ·simp[lk]at cg
  ·exact⟨fun h=>h.elim h1 r,s,p⟩
 ·intro j s d M;have h1:j≠n:=fun f=>M (.inl f);have r:j≠m:=fun f=>M (.inr f);exact⟨by simp[lk,h1],_,bb j h1 r s d⟩
 ·intro j d;exact X j fun f=>by simp[lk,f]at d
 ·intro j t b d l;have h1:j=n:=by
   by_cases h1:j=n
   ·exact h1
   ·simp[lk,h1]at d
  rw[h1,W]at l;exact .inl ((bc b l).elim (fun h=>⟨n,.inl rfl,h⟩) fun h=>⟨m,.inr rfl,ad b h⟩)
 ·intro j cy t da b d ca _ _;have key:∀j t,lk j [(n,Obj.nest et B k e (xs.set i ((xs.getD i (k.dflt,[])).1,ys)) none)]=some t→j=n:=fun j t d=>by
   by_cases h1:j=n
   ·exact h1
   ·simp[lk,h1]at d
  rw[key j t d,key cy da ca]
 ·intro j t d;rcases an j t d with ⟨rfl,rfl⟩|⟨h1,r,s,p,rfl⟩
  ·rw[W];have bt:cells.length=xs.length*(k.size+1):=A.own.1;refine⟨_,ins.set i (ρ m),cells.set (i*(k.size+1)+k.size) (ρ m),.inl ap.symm,by rw[AAd];exact A.max,by rw[AAd,AAd];exact A.len,by rw[AAd];exact aj,fun j az u h1 r=>?_,?_,?_⟩
   ·have bv:∀(c2:List Value) (E:Value),j≠i→c2.length=k.size→(∀(q:Nat) (z:Value),(c2++[E])[q]?=some z→cells[j*(k.size+1)+q]?=some z)→∀(q:Nat) (z:Value),(c2++[E])[q]?=some z→(cells.set (i*(k.size+1)+k.size) (ρ m))[j*(k.size+1)+q]?=some z:=by
     intro c2 E dh ai N q z D;have au:=(QB.1 D).1;simp only[OR,iF,ai]at au;have M:i*(k.size+1)+k.size≠j*(k.size+1)+q:=by
      intro f;rcases Nat.lt_or_ge i j with p|p
      ·have:(i+1)*(k.size+1)≤j*(k.size+1):=AA2 _ p;rw[AAP]at this;omega
      ·have:(j+1)*(k.size+1)≤i*(k.size+1):=AA2 _ (by omega);rw[AAP]at this;omega
     rw[AAs,At M];exact N q z D
    rcases U j u r with ⟨rfl,rfl⟩|⟨p,v⟩
    ·have cs:xs[j]?=some (xs.getD j (k.dflt,[])):=by
      rw[AT R,AS,AT R];rfl
     obtain⟨c2,E,N,Q,_⟩:=A.row j _ ins[j] cs (AT ao);have cq:az=((xs.getD j (k.dflt,[])).1,ys):=by
      rw[ABQ R]at h1;exact(ABL h1).symm
     subst cq;have ai:c2.length=k.size:=Q.length;refine⟨c2,ρ m,fun q z D=>?_,Br.mono L.O L.heap Q,.inr ⟨rfl,.inl rfl,?_⟩⟩
     ·have au:=(QB.1 D).1;simp only[OR,iF,ai]at au;rw[AAs];by_cases bg:q=k.size
      ·rw[bg,BY rfl,BY (by rw[bt];exact hp)];rw[bg,←ai,AA3 (NO _),AB4]at D;exact D
      ·rw[At (by omega)];refine N q z ?_;rw[oS (by omega)]at D ⊢;exact D
     ·exact NX.keeps (V:=⟨w,own O0 σ ρ,fun _=>False,ρ⟩) L (fun b l=>ah b (ce b l) fun f=>af b (by rw[f];exact ag) l) ba
    ·have h1:xs[j]?=some az:=by
      rw[AAs,At (fun f=>p f.symm)]at h1;exact h1
     obtain⟨c2,E,N,Q,am⟩:=A.row j az u h1 v;rcases am with ⟨am,_⟩|⟨_,bp,bq⟩
     ·exact absurd (by simpa using am) (fun f:i=j=>p f.symm)
     ·refine⟨c2,E,bv c2 E p Q.length N,Br.mono L.O L.heap Q,.inr ⟨rfl,bp,?_⟩⟩;exact NX.keeps (V:=⟨w,own O0 σ ρ,fun _=>False,ρ⟩) L (fun b l=>ah b (cc b ((F b).2 (.inr ⟨j,u,v,l⟩))) fun f=>A.out j b u v l (by rw[f];rfl)) bq
   ·intro av aw b ax ay h1 r p v;rcases U av ax h1 with ⟨J,rfl⟩|⟨_,J⟩<;>rcases U aw ay r with ⟨Z,rfl⟩|⟨_,Z⟩
    ·rw[J,Z]
    ·exact(af b ((F b).2 (.inr ⟨aw,ay,Z,v⟩)) p).elim
    ·exact(af b ((F b).2 (.inr ⟨av,ax,J,p⟩)) v).elim
    ·exact A.dist av aw b ax ay J Z p v
   ·intro j b u h1 r p;rcases U j u h1 with ⟨_,rfl⟩|⟨_,J⟩
    ·exact af b ((F b).2 (.inl p)) r
    ·exact A.out j b u J r p
  ·rw[X j h1];refine mS aa (fun b l=>ah b ((hs.objs j s p).block_lt l) fun f=>h1 (hs.dist j n b ⟨_,p⟩ ⟨_,hn⟩ l (by rw[f];exact ag))) (hs.objs j s p)
 ·intro s2 E bj;simp only[X1,Is]at bj;obtain⟨dc,cu,rfl⟩:=bj;exact Xy aa (hs.env s2 dc cu)
end
end
section
open Go Go.RowKit
section
variable {P:Program} {tb:Tb} {w0:World} {K O0:Nat→Prop} {nt:Nat} {ds:Fp} {σ σ':St} {ρ:Nat→Value} {a:Act} {w:World} {vc:Prop}
theorem Bo.swap1 (h:Bo w0 K O0 nt ds σ ρ a w) (Q:∀b,K b→b<w0.heap.size) (R:∀b,O0 b→b<w0.heap.size) {tl:List Nat} (hT:∀n,n∈tl→GE n=false∧∃o,lk n σ.objs=some o∧seat (ρ n))
  {f:Nat} (aa:f∈tl∨lk f σ.objs=none) {l:Obj} {loc:Value} {w':World}
  (ae:w'.os=w.os) (ai:w'.tape=w.tape) (af:w'.output=w.output) (ag:w.heap.size≤w'.heap.size)
  (F:∀b,b<w.heap.size→(∀n,n∈tl→¬bk (ρ n) b)→w'.heap[b]?=w.heap[b]?)
  (M:∀b,bk loc b→(∃m,m∈tl∧bk (ρ m) b)∨w.heap.size≤b)
  (ad:∀V':Vw,V'.w=w'→CN ⟨w,own O0 σ ρ,fun _=>False,ρ⟩ V'→A1 V' l loc)
  {d:Nat} (V:d<nt) {v:AV} {u:Value} (U:∀V':Vw,V'.L f→V'.ρ f=loc→B2 V' v u) :
  Bo w0 K O0 nt ds ⟨(d,v) :: Bi tl σ.env,(f,l) :: Ad tl tl σ.objs⟩ (EM ρ f loc) (a.put (some d) u) w':=by
 let S:St:=⟨(d,v) :: Bi tl σ.env,(f,l) :: Ad tl tl σ.objs⟩
 have D:∀m o,lk m S.objs=some o→(m=f∧o=l)∨(m≠f∧m∉tl∧∃c,lk m σ.objs=some c∧o=c.fgt tl):=by
  intro m o e;simp only[S,lk]at e;split at e
  ·rename_i p;cases e;exact .inl ⟨p,rfl⟩
  ·rename_i p;rw[Bb]at e;split at e
   ·cases e
   ·rename_i P;simp only[Is]at e;obtain⟨c,h1,rfl⟩:=e;exact .inr ⟨p,fun h=>P ((AZ _ _).2 h),c,h1,rfl⟩
 have I:∀m,m≠f→m∉tl→∀c,lk m σ.objs=some c→lk m S.objs=some (c.fgt tl):=by
  intro m h1 i c g;simp only[S,lk,At h1,Bb,g];rw[At fun h=>i ((AZ _ _).1 h)];rfl
 have G:∀m,m∉tl→(∃o,lk m σ.objs=some o)→m≠f:=by
  rintro m h1 ⟨o,i⟩ rfl;rcases aa with g|g
  ·exact h1 g
  ·rw[g]at i;cases i
 have z:EM ρ f loc f=loc:=Bj _ _ _;have A:∀m,m≠f→EM ρ f loc m=ρ m:=fun m h1=>by simp[EM,h1]
 generalize EM ρ f loc=ρ' at z A;have O:∀b,b<w.heap.size→¬own O0 σ ρ b→¬own O0 S ρ' b:=by
  intro b k r ak;rcases ak with h0|⟨m,⟨o,ab⟩,B⟩
  ·exact r (.inl h0)
  ·rcases D m o ab with ⟨rfl,_⟩|⟨h1,i,c,g,_⟩
   ·rw[z]at B;rcases M b B with ⟨t,ah,H⟩|H
    ·obtain⟨_,c,q,_⟩:=hT t ah;exact r (.inr ⟨t,⟨c,q⟩,H⟩)
    ·omega
   ·rw[A m h1]at B;exact r (.inr ⟨m,⟨c,g⟩,B⟩)
 have J:∀b,b<w.heap.size→¬own O0 σ ρ b→w'.heap[b]?=w.heap[b]?:=fun b k r=>F b k fun n hn E=>by
  obtain⟨_,c,q,_⟩:=hT n hn;exact r (.inr ⟨n,⟨c,q⟩,E⟩)
 have X:CN ⟨w,own O0 σ ρ,fun _=>False,ρ⟩ (vw w' O0 S ρ'):=⟨O,fun _ h=>h.elim,fun _ h=>h.elim,J⟩;have hk:CN ((vw w O0 σ ρ).buts tl) (vw w' O0 S ρ'):=by
  refine⟨O,fun m e=>?_,fun m e=>?_,J⟩
  ·obtain⟨⟨c,h1⟩,i⟩:=e;have g:m∉tl:=fun h=>by rw[(AZ _ _).2 h]at i;cases i
   exact⟨_,I m (G m g ⟨c,h1⟩) g c h1⟩
  ·obtain⟨⟨c,h1⟩,i⟩:=e;have g:m∉tl:=fun h=>by rw[(AZ _ _).2 h]at i;cases i
   exact A m (G m g ⟨c,h1⟩)
 refine h.swap Q R (T:=fun m=>m∈tl) hT (new:=[(f,l)]) ae ai af ag F ?_ ?_ ?_ ?_ ?_ ?_ ?_
 ·intro m o e Z;rcases D m o e with ⟨rfl,_⟩|⟨h1,i,c,g,_⟩
  ·simp[lk]at Z
  ·exact⟨i,c,g⟩
 ·intro m c e N;have h1:=G m N ⟨c,e⟩;exact⟨by simp[lk,h1],_,I m h1 N c e⟩
 ·intro m e;exact A m fun p=>by simp[lk,p]at e
 ·intro m o b e k;have h1:m=f:=by
   by_cases h1:m=f
   ·exact h1
   ·simp[lk,h1]at e
  rw[h1,z]at k;exact M b k
 ·intro m al o am b e Y _ _;have key:∀j o,lk j [(f,l)]=some o→j=f:=fun j o W=>by
   by_cases h1:j=f
   ·exact h1
   ·simp[lk,h1]at W
  rw[key m o e,key al am Y]
 ·intro m o e;rcases D m o e with ⟨rfl,rfl⟩|⟨h1,i,c,g,rfl⟩
  ·rw[z];exact ad _ rfl X
  ·rw[A m h1];refine SM hk (fun b k=>F b ((h.objs m c g).block_lt k) fun n hn E=>?_) (h.objs m c g);obtain⟨_,an,q,_⟩:=hT n hn;exact i ((h.dist m n b ⟨_,g⟩ ⟨_,q⟩ k E)▸hn)
 ·intro s x hs;rw[KR a d u s (by rw[h.nt];exact V)];simp only[S,lk]at hs;split at hs
  ·rename_i C;cases hs;rw[BY C];exact U _ ⟨l,by simp[S,lk]⟩ z
  ·rename_i C;rw[At C];rw[ED]at hs;simp only[Is]at hs;obtain⟨y,aj,rfl⟩:=hs;exact(Oe (h.env s y aj)).keeps hk
theorem Xm.move {V:Vw} {a:TypeId} {k e:Ty} {hole:Bool} {cells cells':List Value} {i i':Nat} {x:k.den×List e.den} {u:Value} (h:Xm V a k e hole cells i x u)
  (c:∀(j:Nat) (z:Value),cells[i*(k.size+1)+j]?=some z→cells'[i'*(k.size+1)+j]?=some z):Xm V a k e hole cells' i' x u :=
 let ⟨c1,v,h1,b⟩:=h
 ⟨c1,v,fun j z d=>c j z (h1 j z d),b⟩
theorem WD {V V':Vw} {et H y:TypeId} {k e:Ty} {xs ys:List (k.den×List e.den)} {o G z:Value} {ins g cells n:List Value} (h1:LD V et y k e xs none o ins cells) (q:LD V H y k e ys none G g n)
  (t:∀b,bk (.tuple (o :: ins).toArray) b→bk (.tuple (G :: g).toArray) b→False)
  (L:V'.w.ownsRow 0 et (k.size+1) z (xs.length+ys.length) (cells++n)) (M:blk z=blk o∨∀b,blk z=some b→V.w.heap.size≤b)
  (A:∀b,b<V.w.heap.size→blk o≠some b→V'.w.heap[b]?=V.w.heap[b]?) (hk:CN ⟨V.w,V.O,fun _=>False,V.ρ⟩ V') (J:xs.length+ys.length≤AO) :
  LD V' et y k e (xs++ys) none z (ins++g) (cells++n):=by
 have I:cells.length=xs.length*(k.size+1):=h1.own.1;have B:∀(i b:Nat) (u:Value),ins[i]?=some u→blk u=some b→b<V.w.heap.size:=fun i b u hi c=>h1.block_lt (A6.2 (.inr ⟨i,u,hi,c⟩));have C:∀(i b:Nat) (u:Value),g[i]?=some u→blk u=some b→b<V.w.heap.size:=fun i b u hi c=>q.block_lt (A6.2 (.inr ⟨i,u,hi,c⟩));have E:∀(i b:Nat) (u:Value),g[i]?=some u→blk u=some b→blk o≠some b:=fun i b u hi c K=>t b (A6.2 (.inl K)) (A6.2 (.inr ⟨i,u,hi,c⟩));have r:∀(i:Nat) (u:Value),(ins++g)[i]?=some u→(i<xs.length∧ins[i]?=some u)∨(xs.length≤i∧g[i-xs.length]?=some u):=by
  intro i u hi;rw[AAk]at hi;split at hi
  ·rename_i h;rw[h1.len]at h;exact .inl ⟨h,hi⟩
  ·rename_i h;rw[h1.len]at h hi;exact .inr ⟨by omega,hi⟩
 have D:∀b,blk z=some b→(∃(i:Nat) (u:Value),ins[i]?=some u∧blk u=some b)∨(∃(i:Nat) (u:Value),g[i]?=some u∧blk u=some b)→False:=by
  intro b c hi;rcases M with d|d
  ·rw[d]at c;rcases hi with ⟨i,u,a,f⟩|⟨i,u,a,f⟩
   ·exact h1.out i b u a f c
   ·exact E i b u a f c
  ·have:=d b c;rcases hi with ⟨i,u,a,f⟩|⟨i,u,a,f⟩
   ·have:=B i b u a f;omega
   ·have:=C i b u a f;omega
 refine⟨by rw[OR];exact J,by rw[OR,OR,h1.len,q.len],by rw[OR];exact L,fun i x u m hu=>?_,fun i j b u v hi l hu s=>?_,fun i b u hi c F=>?_⟩
 ·rcases r i u hu with ⟨d,a⟩|⟨d,a⟩
  ·have m:xs[i]?=some x:=by rwa [oS d]at m
   have hr:=(h1.row i x u m a).move (cells':=cells++n) (i':=i) fun j z l=>by
    rw[oS (QB.1 l).1];exact l
   exact Xm.keeps (V:=⟨V.w,V.O,fun _=>False,V.ρ⟩) hk (fun b c=>A b (B i b u a c) (h1.out i b u a c)) hr
  ·have m:ys[i-xs.length]?=some x:=by rwa [AA3 d]at m
   have hr:=(q.row _ x u m a).move (cells':=cells++n) (i':=i) fun j z l=>by
    have f:i*(k.size+1)=cells.length+(i-xs.length)*(k.size+1):=by
     rw[I,←ABK];congr 1;omega
    rw[AA3 (by omega),f,←l]
    congr 1
    omega
   exact Xm.keeps (V:=⟨V.w,V.O,fun _=>False,V.ρ⟩) hk (fun b c=>A b (C _ b u a c) (E _ b u a c)) hr
 ·rcases r i u hi with ⟨d,a⟩|⟨d,a⟩<;>rcases r j v l with ⟨f,p⟩|⟨f,p⟩
  ·exact h1.dist i j b u v a p hu s
  ·exact(t b (A6.2 (.inr ⟨i,u,a,hu⟩)) (A6.2 (.inr ⟨_,v,p,s⟩))).elim
  ·exact(t b (A6.2 (.inr ⟨j,v,p,s⟩)) (A6.2 (.inr ⟨_,u,a,hu⟩))).elim
  ·have:=q.dist _ _ b u v a p hu s;omega
 ·rcases r i u hi with ⟨d,a⟩|⟨d,a⟩
  ·exact D b F (.inl ⟨i,u,a,c⟩)
  ·exact D b F (.inr ⟨_,u,a,c⟩)
theorem uT (V:Vw) (et a:TypeId) (k e:Ty):LD V et a k e [] none (.slice none 0 0) [] [] :=
 ⟨by simp[AO],rfl,ABz V.w 0 et _,fun i x u h=>by simp at h,fun i j b u v h=>by simp at h,fun i b u h=>by simp at h⟩
theorem It {w:World} {base:Nat} {et:TypeId} {sz d n:Nat} {loc v:Value} {cells:List Value} (b:w.ownsRow base et sz loc n cells) (h:DA loc d 0 n v):v=loc:=by
 obtain⟨a,m,c,rfl,_,_,e,f,rfl,_,h0,_⟩:=h;obtain⟨rfl,rfl⟩:=h0 rfl;rw[KS b,ACf]
theorem A1y {w:World} {O:Nat→Prop} {et:TypeId} {e:Ty} {xs:List e.den} {loc:Value} {cells:List Value} (d:xs.length≤AO) (a:w.ownsRow 0 et e.size loc xs.length cells) (c:Dh w O e cells xs):Src w O e loc xs cells:=by
 refine⟨?_,a.1,c,Vz (V:=⟨w,O,fun _=>False,fun _=>undef⟩) a c,d⟩;rcases a.2 with ⟨b,hn⟩|⟨g,cap,f,b,_⟩
 ·exact⟨none,0,by rw[b,hn],.inl (aT hn)⟩
 ·subst b;exact⟨some ⟨g,0,none⟩,cap,rfl,.inr ⟨_,rfl,a.cells (g:=g) rfl⟩⟩
theorem Oj {V:Vw} {et a:TypeId} {k e:Ty} {xs:List (k.den×List e.den)} {o:Value} {ins cells:List Value} (h:LD V et a k e xs none o ins cells):Src V.w (fun _=>False) (.agg (.prod k (.slice e))) o xs cells :=
 A1y (e:=.agg (.prod k (.slice e))) (xs:=xs) h.max h.own (Na (fun _ _ h=>h) h fun _ _ _ _ _ h=>h)
theorem QM {V:Vw} {et c:TypeId} {k e:Ty} {xs:List (k.den×List e.den)} {a:Option Nat} {loc:Value} (b:A1 V (.nest et c k e xs a) loc):seat loc:=by
 obtain⟨o,ins,cells,a,_⟩:=b;exact a.elim (fun h=>.inr ⟨_,h⟩) (fun h=>.inl ⟨_,_,_,h.1⟩)
theorem uU (hs:Bo w0 K O0 nt ds σ ρ a w) (U:∀b,K b→b<w0.heap.size) (W:∀b,O0 b→b<w0.heap.size) (hT:DB P tb) {d:Nat} (X:d<nt) {t ty:TypeId} {x y:Operand} {n m hi D:Nat} {E B:Ty} {k e:Ty}
  (f:Ae σ x=some (.sr n E 0 hi)) (g:Ae σ y=some (.sr m B 0 D)) {et S A:TypeId} {xs ys:List (k.den×List e.den)} (hn:lk n σ.objs=some (.nest et A k e xs none)) (s:lk m σ.objs=some (.nest S A k e ys none)) (ad:n≠m)
  (Z:GE n=false) (Y:GE m=false) (hu:P.underlying t=some (.slice et)) {te:TI} (L:lk et tb.ty=some te) (M:te.ty=.agg (.prod k (.slice e))) (ah:hi=xs.length) (ai:D=ys.length) (N:(xs.length+ys.length)*te.bytes≤AO) :
  ∃z w' ρ',(Builtin.append_ #[t,t] ty #[a.eval x,a.eval y]).run P w=.ok z w' ∧
   Bo w0 K O0 nt ds ⟨(d,.sr n (.agg (.prod k (.slice e))) 0 (xs.length+ys.length)) :: Bi [n,m] σ.env,(n,.nest et A k e (xs++ys) none) :: Ad [n,m] [n,m] σ.objs⟩ ρ' (a.put (some d) z) w':=by
 subst ah ai;have C:F4 (vw w O0 σ ρ) σ a.eval:=Dn hs.env;have G:=hs.objs n _ hn;have H:=hs.objs m _ s;have af:=QM G;have ag:=QM H;obtain⟨o,ins,cells,p,l⟩:=G;obtain⟨al,Q,R,v,q⟩:=H;obtain⟨_,f⟩:=C x _ f;obtain⟨_,g⟩:=C y _ g;have f:DA (plc (ρ n)) E.size 0 xs.length (a.eval x):=f;have g:DA (plc (ρ m)) B.size 0 ys.length (a.eval y):=g;rw[p.plc]at f;rw[v.plc]at g;have f:=It l.own f;have g:=It q.own g;rw[f,g];obtain⟨z,w',J,I,h,aa⟩:=GJ (ty:=ty) hT hu L M l.own (Oj q) N (IN _);have O:=HY (ty:=ty) hT hu L M l.own (Oj q) N J;rw[SP l.own]at h;refine⟨z,w',_,J,hs.swap1 (loc:=.tuple (z :: (ins++Q)).toArray) U W (tl:=[n,m]) (fun j F=>?_) (.inl (by simp)) h.os h.tape h.output h.size ?_ ?_ ?_ X ?_⟩
 ·simp only[GO,List.not_mem_nil,or_false]at F;rcases F with rfl|rfl
  ·exact⟨Z,_,hn,af⟩
  ·exact⟨Y,_,s,ag⟩
 ·exact fun b c ae=>h.block b c fun r=>ae n (by simp) (p.bk.2 (A6.2 (.inl r.symm)))
 ·intro b c;rcases A6.1 c with c|⟨i,u,hi,c⟩
  ·rcases O with h1|h1
   ·exact .inl ⟨n,by simp,p.bk.2 (A6.2 (.inl (by rw[←h1];exact c)))⟩
   ·exact .inr (h1 b c)
  ·rw[AAk]at hi;split at hi
   ·exact .inl ⟨n,by simp,p.bk.2 (A6.2 (.inr ⟨_,u,hi,c⟩))⟩
   ·exact .inl ⟨m,by simp,v.bk.2 (A6.2 (.inr ⟨_,u,hi,c⟩))⟩
 ·intro V' aj hk;subst aj;refine⟨z,ins++Q,cells++R,.inl rfl,WD l q (fun b h1 T=>?_) I O (fun b c ab=>h.block b c fun r=>ab r.symm) hk aa⟩;exact ad (hs.dist n m b ⟨_,hn⟩ ⟨_,s⟩ (p.bk.2 h1) (v.bk.2 T))
 ·intro V' V ak;refine⟨V,?_⟩;show DA (plc (V'.ρ n)) _ 0 _ z;rw[ak];exact FN I
theorem A1z (hs:Bo w0 K O0 nt ds σ ρ a w) (O:∀b,K b→b<w0.heap.size) (R:∀b,O0 b→b<w0.heap.size) (hT:DB P tb) {d:Nat} (S:d<nt) {t ty:TypeId} {x y:Operand} {m v:Nat} {q:Ty} {k e:Ty}
  (o:Ae σ x=some (.raw (.slice none 0 0))) (f:Ae σ y=some (.sr m q 0 v)) {et N p:TypeId} {ys:List (k.den×List e.den)} (B:lk m σ.objs=some (.nest N p k e ys none)) (T:lk d σ.objs=none)
  (U:GE m=false) (hu:P.underlying t=some (.slice et)) {te:TI} (G:lk et tb.ty=some te) (H:te.ty=.agg (.prod k (.slice e))) (Y:v=ys.length) (I:ys.length*te.bytes≤AO) :
  ∃z w' ρ',(Builtin.append_ #[t,t] ty #[a.eval x,a.eval y]).run P w=.ok z w' ∧
   Bo w0 K O0 nt ds ⟨(d,.sr d (.agg (.prod k (.slice e))) 0 ys.length) :: Bi [m] σ.env,(d,.nest et p k e ys none) :: Ad [m] [m] σ.objs⟩ ρ' (a.put (some d) z) w':=by
 subst Y;have s:F4 (vw w O0 σ ρ) σ a.eval:=Dn hs.env;have C:=hs.objs m _ B;have X:=QM C;obtain⟨ae,L,M,F,l⟩:=C;have o:a.eval x=.slice none 0 0:=s x _ o;obtain⟨_,f⟩:=s y _ f;have f:DA (plc (ρ m)) q.size 0 ys.length (a.eval y):=f;rw[F.plc]at f;have f:=It l.own f;rw[o,f];have h:=uT (vw w O0 σ ρ) et p k e;obtain⟨z,w',E,D,g,V⟩:=GJ (ty:=ty) hT hu G H h.own (Oj l) (by simpa using I) (IN _);have J:=HY (ty:=ty) hT hu G H h.own (Oj l) (by simpa using I) E;rw[SP h.own]at g;refine⟨z,w',_,E,hs.swap1 (loc:=.tuple (z :: ([]++L)).toArray) O R (tl:=[m]) (fun j A=>?_) (.inr T) g.os g.tape g.output g.size ?_ ?_ ?_ S ?_⟩
 ·simp only[GO,List.not_mem_nil,or_false]at A;subst A;exact⟨U,_,B,X⟩
 ·exact fun b c ad=>g.block b c fun n=>by simp[blk]at n
 ·intro b c;rcases A6.1 c with c|⟨i,u,hi,c⟩
  ·rcases J with h1|h1
   ·rw[h1]at c;simp[blk]at c
   ·exact .inr (h1 b c)
  ·exact .inl ⟨m,by simp,F.bk.2 (A6.2 (.inr ⟨_,u,by simpa using hi,c⟩))⟩
 ·intro V' Z hk;subst Z;refine⟨z,[]++L,[]++M,.inl rfl,?_⟩;have:=WD h l (fun b h1 ab=>?_) D J (fun b c W=>g.block b c fun n=>W n.symm) hk V
  ·simpa using this
  ·rw[A6]at h1;simp[blk]at h1
 ·intro V' Q aa;refine⟨Q,?_⟩;show DA (plc (V'.ρ d)) _ 0 _ z;rw[aa];have r:=FN D;simp only[AAM,AAL]at r;exact r
theorem iT (hs:Bo w0 K O0 nt ds σ ρ a w) (s:∀b,K b→b<w0.heap.size) (A:∀b,O0 b→b<w0.heap.size) (hT:DB P tb) {d:Option Nat} (B:∀k,d=some k→k<nt) {t u ty:TypeId} {x y:Operand}
  (h:Cu tb σ d t u (Ae σ x) (Ae σ y)=some (vc,σ')) (q:vc) :
  ∃z w' ρ',(Builtin.append_ #[t,u] ty #[a.eval x,a.eval y]).run P w=.ok z w'∧Bo w0 K O0 nt ds σ' ρ' (a.put d z) w':=by
 by_cases M:∃n e hi,Ae σ x=some (.sr n e 0 hi)∧CY (lk n σ.objs)=false
 ·exact iR hs s A hT B h q M
 unfold Cu at h;split at h
 ·rename_i n e hi v j r;split at h
  ·rename_i d;split at h
   ·rename_i p;obtain⟨rfl,I⟩:=p;cases f:lk t tb.ty with
    | none=>rw[f]at h;simp[Dz]at h
    | some ti =>
     rw[f]at h;unfold Dz at h;split at h
     ·rename_i Q offs el b F;cases F;split at h
      ·rename_i G;subst G;obtain⟨hu,N,te,g,o⟩:=CD (hT _ _ f) hT;rw[g]at h;unfold CM at h;split at h
       ·rename_i ti et L xs h1 hn;exact absurd ⟨n,_,hi,j,by rw[hn];rfl⟩ M
       ·rename_i ti et O k L xs h1 hn;cases h1;split at h
        ·rename_i c;obtain⟨rfl,rfl⟩:=c;unfold OV at h;split at h
         ·rename_i m E V;unfold KN at h;split at h
          ·rename_i S ad aa R ys J;split at h
           ·rename_i c;obtain⟨rfl,W,H⟩:=c;cases D:BO (.slice (.agg (.prod k (.slice L)))) ⟨.slice (.agg (.prod aa (.slice R))),ys⟩ with
            | none=>rw[D]at h;simp[JP]at h
            | some af =>
             obtain⟨l,T⟩:=Bm D;injection l with l
             injection l with l C
             injection C with C
             subst l C;cases T;rw[D]at h;simp only[JP]at h;cases h;obtain⟨X,Y,Z⟩:=q;exact uU hs s A hT (B _ rfl) j r hn J W I H hu g o X Y Z
           ·cases h
          ·cases h
         ·cases h
        ·cases h
       ·cases h
      ·cases h
     ·cases h
   ·cases h
  ·cases h
 ·rename_i n e i len v j r;split at h
  ·rename_i d;split at h
   ·rename_i p;subst p;cases f:lk t tb.ty with
    | none=>rw[f]at h;simp[Lh]at h
    | some ti =>
     rw[f]at h;unfold Lh at h;split at h
     ·rename_i Q offs el b F;cases F;split at h
      ·rename_i G;subst G;obtain⟨hu,N,te,g,o⟩:=CD (hT _ _ f) hT;rw[g]at h;unfold NE at h;split at h
       ·rename_i ti et O k ab xs h1 hn;cases h1;split at h
        ·rename_i c;obtain⟨rfl,rfl,I⟩:=c;exact A1x hs s A hT (B _ rfl) j r hn I hu g o h q
        ·cases h
       ·cases h
      ·cases h
     ·cases h
   ·cases h
  ·cases h
 ·rename_i v j r;split at h
  ·rename_i d;split at h
   ·rename_i p;subst p;unfold Va at h;split at h
    ·rename_i m E V ae offs el b f;obtain⟨hu,N,te,g,o⟩:=CD (hT _ _ f) hT;rw[g]at h;unfold NH at h;split at h
     ·rename_i ti S O k e ys h1 J;cases h1;split at h
      ·rename_i c;subst c;unfold NF at h;split at h
       ·rename_i c;obtain⟨U,H⟩:=c;cases h;exact A1z hs s A hT (B _ rfl) j r J (by simpa using U) H hu g o q.1 q.2
       ·cases h
      ·cases h
     ·cases h
    ·cases h
   ·cases h
  ·cases h
 ·cases h
theorem iU (hs:Bo w0 K O0 nt ds σ ρ a w) (o:∀b,K b→b<w0.heap.size) (B:∀b,O0 b→b<w0.heap.size) (hT:DB P tb) {id:TypeId} {x y:Operand} (h:G9 σ (lk id tb.ty) (Ae σ x) (Ae σ y)=some (vc,σ')) (r:vc) :
  ∃w' ρ',(Instr.storeAt id (a.eval x) (a.eval y)).run P w=.ok () w'∧Bo w0 K O0 nt ds σ' ρ' a w':=by
 by_cases q:∃n e i g off,Ae σ x=some (.ep n e i g off)∧CY (lk n σ.objs)=true
 ·obtain⟨n,e,i,g,off,d,p⟩:=q;unfold G9 at h;split at h
  ·rename_i f _;rw[d]at f;cases f
  ·rename_i ti Q L i' S R v H f J;rw[d]at f;cases f;unfold DG at h;split at h
   ·rename_i hn;rw[hn]at p;cases p
   ·rename_i et N k M xs j hn;split at h
    ·rename_i m E hi;split at h
     ·rename_i c;obtain⟨rfl,rfl,A⟩:=c;subst A;unfold KO at h;split at h
      ·rename_i c;obtain⟨I,rfl,rfl⟩:=c;unfold KM at h;split at h
       ·rename_i O s ys G;split at h
        ·rename_i c;obtain⟨rfl,D,F⟩:=c;cases l:BO (.slice E) ⟨.slice s,ys⟩ with
         | none=>rw[l]at h;simp[JO]at h
         | some T =>
          obtain⟨t,u⟩:=Bm l;subst t;cases u;rw[l]at h;simp only[JO]at h;cases h;exact uS hs o B hT H I d J hn G F D r
        ·cases h
       ·cases h
      ·cases h
     ·cases h
    ·cases h
   ·cases h
  ·cases h
 ·obtain⟨w',h1,z⟩:=pT (P:=P) hs o hT (fun n e i g off d=>by
   cases C:CY (lk n σ.objs) with
   | false=>rfl
   | true=>exact absurd ⟨n,e,i,g,off,d,C⟩ q) h r
  exact⟨w',ρ,h1,z⟩
end
end
end Go.Proofs.YtdapahgnpbehbaaGreat.Fw
