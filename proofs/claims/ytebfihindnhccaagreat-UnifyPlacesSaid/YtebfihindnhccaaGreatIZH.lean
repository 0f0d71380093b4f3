/- Regions in which operations on memory float among quiet ones. -/
/- A statement whose order Go leaves open, with operations that turn memory in its midst: the others float around them. -/
import Derived.Test.YtebfihindnhccaaGreatIZG
set_option linter.unusedVariables false
set_option linter.unusedSimpArgs false
namespace Go.Proofs.YtebfihindnhccaaGreat.Fw
section
open Go Go.RowKit
abbrev EN:=List (Nat×AV×List (Nat×Obj))
def ZC (x:Option Oper) (f:Oper→Option (Prop×EN)):Option (Prop×EN) :=
 match x with
 | some o=>f o
 | none=>none
def XJ (d:Option Nat) (r:BU) (f:Nat→Prop→AV→List (Nat×Obj)→Option (Prop×EN)):Option (Prop×EN) :=
 match d,r with
 | some d,some (vc,v,obs)=>f d vc v obs
 | _,_=>none
def ZD (d:Nat) (vc:Prop) (v:AV) (obs:List (Nat×Obj)) (r:Option (Prop×EN)):Option (Prop×EN) :=
 match r with
 | some (vc',l)=>some (vc∧vc',(d,v,obs) :: l)
 | none=>none
def dC (tb:Tb) (ops:List Oper) (base:List (Nat×Obj)):List Nat→List (Nat×List (Nat×Obj))→List (Nat×AV)→Option (Prop×EN)
 | [],_,_=>some (True,[])
 | i :: Q,E,env=>ZC (ops[i]?) fun o=>XJ o.dst (aq tb ⟨env,Kj false o.op base E⟩ (o.dst.getD 0) o.op) fun d vc v obs=>ZD d vc v obs (dC tb ops base Q (Iu d obs E) ((d,v) :: env))
def Kp:EN→St→St
 | [],σ=>σ
 | (d,v,obs) :: r,σ=>Kp r ⟨(d,v) :: σ.env,obs++σ.objs⟩
def PR:EN→List (Nat×Obj)→Bool
 | [],_=>true
 | (_,_,obs) :: r,objs=>(obs.all fun p=>(lk p.1 objs).isNone)&&PR r (obs++objs)
def A3r (tb:Tb) (ops:List Oper) (Q:List Nat) (ens:EN) (τ:St):Prop:=∃vc:Prop,dC tb ops τ.objs Q [] τ.env=some (vc,ens)∧vc∧PR ens τ.objs=true
def qs (ps:List (List Nat×Nat)) (D:List Nat):List Nat:=(ps.flatMap (·.1))++D
def qB1 (ops:List Oper) (anc:List (List Nat)) (L Q:List Nat):List Nat→List Nat→Bool
 | [],_=>true
 | i :: r,pre=>(match ops[i]? with
   | some o=>o.dst.isSome&&o.guard.isNone&&((Dq o).all fun e=>Aa e L||Aa e pre)&&((GL o.op).all fun t=>Q.all fun j=>Ak ops j != some t||(Aa j (anc.getD i [])&&Aa j pre))&&(pre.all fun j=>Ak ops j != o.dst)&&!Aa i L&&!Aa i pre
   | none=>false)&&qB1 ops anc L Q r (i :: pre)
def RM (ops:List Oper) (anc:List (List Nat)) (p0:Nat):List Nat→List (List Nat×Nat)→List Nat→Bool
 | L,[],D=>qB1 ops anc L D D []&&((List.range p0).all fun i=>Aa i L||Aa i D)&&decide (L.length+D.length=p0)&&decide (p0≤ops.length)&&(L.all fun i=>decide (i<p0))&&(D.all fun i=>decide (i<p0))&&((List.range ops.length).all fun i=>decide (i<p0)||(List.range i).all fun j=>Aa j (anc.getD i []))
 | L,(A,l) :: ps,D=>qB1 ops anc L (A++qs ps D) (A++qs ps D) []&&(match ops[l]? with
   | some o=>o.guard.isNone&&((Dq o).all fun e=>Aa e L||Aa e A)&&(A.all fun j=>Aa j (anc.getD l []))&&!Aa l L&&!Aa l (A++qs ps D)
   | none=>false)&&(ps.all fun p=>Aa l (anc.getD p.2 []))&&RM ops anc p0 (l :: (A++L)) ps D
def A3s (ops:List Oper) (anc:List (List Nat)):Bool :=
 (List.range ops.length).all fun i=>match ops[i]? with|some o=>((Dq o).all fun e=>decide (e<i))&&((anc.getD i []).all fun j=>Aa j (Dq o)||(Dq o).any fun e=>Aa j (anc.getD e []))|none=>false
structure MO (σ σ' X:St):Prop where
 env:∀s,lk s σ'.env=(lk s X.env).or (lk s σ.env)
 objs:∀n,lk n σ'.objs=(lk n X.objs).or (lk n σ.objs)
structure XIn (ens:EN) (X:St):Prop where
 env:∀s v,lk s X.env=some v→∃obs,(s,v,obs)∈ens
 objs:∀n o,lk n X.objs=some o→∃e∈ens,(n,o)∈e.2.2
def XK (c:Cx) (o:Oper) (σ:St) (ens:EN) (N:St→Prop):Prop :=
 ∀(X σ':St),MO σ σ' X→XIn ens X→∀(a:Act) (w:World) (next:Act→World→Prop) (Q:Exit→Act→World→Prop),c.sat σ' a w →
  (∀τ,N τ→∀(a':Act) (w':World) (τ':St),MO τ τ' X→c.sat τ' a' w'→next a' w')→o.wpIn (FR c.r) 0 c.P a w next Q
def u4 (c:Cx) (ops:List Oper) (Kf:St→Prop):List (List Nat×Nat)→List Nat→EN→St→Prop
 | [],D,ens,τ=>A3r c.tb ops D ens τ∧Kf (Kp ens τ)
 | (A,l) :: ps,D,ens,τ=>A3r c.tb ops (A++qs ps D) ens τ∧∃o,ops[l]?=some o∧XK c o (Kp (ens.take A.length) τ) (ens.drop A.length) (fun τ'=>u4 c ops Kf ps D (ens.drop A.length) τ')
/-! ### Slots and names -/
def My (Q:List Nat) (ens:EN) (i:Nat):En :=
 match lk i (Q.zip ens) with
 | some (_,v,obs)=>⟨true,v,obs⟩
 | none=>⟨true,.top,[]⟩
section
variable {ops:List Oper} {en:Nat→En} {τ:St}
theorem PS:∀(l:List Nat),(Ao ops en τ l).env=(Ao ops en ⟨[],[]⟩ l).env++τ.env
 | []=>rfl
 | i :: r=>by
  simp only[Ao]
  cases Ak ops i with
  | none=>simp only[St.add];exact PS r
  | some d=>simp only[St.add,List.cons_append];rw[PS r]
theorem dD (l:List Nat):(Ao ops en τ l).objs=(Ao ops en ⟨[],[]⟩ l).objs++τ.objs:=by
 rw[FA,FA];simp
theorem u5 (l:List Nat):MO τ (Ao ops en τ l) (Ao ops en ⟨[],[]⟩ l) :=
 ⟨fun s=>by rw[PS,Ax],fun n=>by rw[dD,Ax]⟩
structure Own (ops:List Oper) (en:Nat→En) (τ:St) (Q:List Nat):Prop where
 slot:∀i∈Q,∀j∈Q,∀s,Ak ops i=some s→Ak ops j=some s→i=j
 new:∀i∈Q,∀n o,lk n (en i).obs=some o→lk n τ.objs=none
 name:∀i∈Q,∀j∈Q,∀n o o',lk n (en i).obs=some o→lk n (en j).obs=some o'→i=j
theorem u6 {Q l:List Nat} (h:Own ops en τ Q) (hl:∀i∈l,i∈Q) (s:Nat) (v:AV):lk s (Ao ops en τ l).env=some v↔(∃i∈l,Ak ops i=some s∧(en i).v=v)∨((∀i∈l,Ak ops i≠some s)∧lk s τ.env=some v):=by
 rw[FB]
 cases hf:l.find? (fun j=>Ak ops j==some s) with
 | none =>
  have hn:∀i∈l,Ak ops i≠some s:=fun i hi=>by simpa using List.find?_eq_none.1 hf i hi
  constructor
  ·intro hv;exact .inr ⟨hn,hv⟩
  ·rintro (⟨i,hi,hd,_⟩|⟨_,hv⟩)
   ·exact absurd hd (hn i hi)
   ·exact hv
 | some j =>
  have hj:=List.mem_of_find?_eq_some hf
  have hd:Ak ops j=some s:=by simpa using List.find?_some hf
  constructor
  ·intro hv;cases hv;exact .inl ⟨j,hj,hd,rfl⟩
  ·rintro (⟨i,hi,hdi,rfl⟩|⟨hn,_⟩)
   ·rw[h.slot i (hl i hi) j (hl j hj) s hdi hd]
   ·exact absurd hd (hn j hj)
theorem u7 {Q l:List Nat} (h:Own ops en τ Q) (hl:∀i∈l,i∈Q) (n:Nat) (o:Obj):lk n (Ao ops en τ l).objs=some o↔(∃i∈l,lk n (en i).obs=some o)∨((∀i∈l,lk n (en i).obs=none)∧lk n τ.objs=some o):=by
 rw[FA,Ax]
 cases hf:lk n (l.flatMap fun j=>(en j).obs) with
 | some o' =>
  obtain⟨j,hj,hlk⟩:=gL hf
  simp only[Option.some_or]
  constructor
  ·intro he;cases he;exact .inl ⟨j,hj,hlk⟩
  ·rintro (⟨i,hi,hi2⟩|⟨hn,_⟩)
   ·have:=h.name i (hl i hi) j (hl j hj) n o o' hi2 hlk
    subst this;rw[←hlk,hi2]
   ·rw[hn j hj]at hlk;cases hlk
 | none =>
  have hn:=Jd hf
  simp only[Option.none_or]
  constructor
  ·intro he;exact .inr ⟨hn,he⟩
  ·rintro (⟨j',hj',hlk'⟩|⟨_,h1⟩)
   ·rw[hn j' hj']at hlk';cases hlk'
   ·exact h1
theorem qA {Q l A:List Nat} (h:Own ops en τ Q) (hl:∀i∈l,i∈Q) (hA:∀i∈A,i∈l):MO (Ao ops en τ A) (Ao ops en τ l) (Ao ops en ⟨[],[]⟩ (l.filter fun i=>!Aa i A)):=by
 have h0:Own ops en ⟨[],[]⟩ Q:=⟨h.slot,fun _ _ _ _ _=>rfl,h.name⟩
 have hf:∀i∈l.filter (fun i=>!Aa i A),i∈Q:=fun i hi=>hl i (List.mem_filter.1 hi).1
 have hAQ:∀i∈A,i∈Q:=fun i hi=>hl i (hA i hi)
 have mf:∀i,i∈l.filter (fun i=>!Aa i A)↔i∈l∧i∉A:=fun i=>by
  rw[List.mem_filter]
  have:=Ag i A
  constructor
  ·rintro⟨h1,h2⟩;exact⟨h1,fun h3=>by rw[this.2 h3]at h2;cases h2⟩
  ·rintro⟨h1,h2⟩
   refine⟨h1,?_⟩
   cases hm:Aa i A with
   | false=>rfl
   | true=>exact absurd (this.1 hm) h2
 refine⟨fun s=>Option.ext fun v=>?_,fun n=>Option.ext fun o=>?_⟩
 ·rw[u6 h hl,Option.or_eq_some_iff,u6 h0 hf,u6 h hAQ]
  constructor
  ·rintro (⟨i,hi,hd,hv⟩|⟨hn,hv⟩)
   ·by_cases hiA:i∈A
    ·refine .inr ⟨?_,.inl ⟨i,hiA,hd,hv⟩⟩
     cases hx:lk s (Ao ops en ⟨[],[]⟩ (l.filter fun i=>!Aa i A)).env with
     | none=>rfl
     | some u =>
      rcases (u6 h0 hf s u).1 hx with ⟨j,hj,hdj,_⟩|⟨_,hx⟩
      ·have:=h.slot i (hl i hi) j (hf j hj) s hd hdj
       subst this
       exact absurd hiA ((mf i).1 hj).2
      ·cases hx
    ·exact .inl (.inl ⟨i,(mf i).2 ⟨hi,hiA⟩,hd,hv⟩)
   ·refine .inr ⟨?_,.inr ⟨fun i hi=>hn i (hA i hi),hv⟩⟩
    cases hx:lk s (Ao ops en ⟨[],[]⟩ (l.filter fun i=>!Aa i A)).env with
    | none=>rfl
    | some u =>
     rcases (u6 h0 hf s u).1 hx with ⟨j,hj,hdj,_⟩|⟨_,hx⟩
     ·exact absurd hdj (hn j ((mf j).1 hj).1)
     ·cases hx
  ·rintro ((⟨i,hi,hd,hv⟩|⟨_,hv⟩)|⟨hx,⟨i,hi,hd,hv⟩|⟨hn,hv⟩⟩)
   ·exact .inl ⟨i,((mf i).1 hi).1,hd,hv⟩
   ·cases hv
   ·exact .inl ⟨i,hA i hi,hd,hv⟩
   ·refine .inr ⟨fun i hi hd=>?_,hv⟩
    by_cases hiA:i∈A
    ·exact hn i hiA hd
    ·have:=(u6 h0 hf s (en i).v).2 (.inl ⟨i,(mf i).2 ⟨hi,hiA⟩,hd,rfl⟩)
     rw[hx]at this;cases this
 ·rw[u7 h hl,Option.or_eq_some_iff,u7 h0 hf,u7 h hAQ]
  constructor
  ·rintro (⟨i,hi,hv⟩|⟨hn,hv⟩)
   ·by_cases hiA:i∈A
    ·refine .inr ⟨?_,.inl ⟨i,hiA,hv⟩⟩
     cases hx:lk n (Ao ops en ⟨[],[]⟩ (l.filter fun i=>!Aa i A)).objs with
     | none=>rfl
     | some u =>
      rcases (u7 h0 hf n u).1 hx with ⟨j,hj,hdj⟩|⟨_,hx⟩
      ·have:=h.name i (hl i hi) j (hf j hj) n _ _ hv hdj
       subst this
       exact absurd hiA ((mf i).1 hj).2
      ·cases hx
    ·exact .inl (.inl ⟨i,(mf i).2 ⟨hi,hiA⟩,hv⟩)
   ·refine .inr ⟨?_,.inr ⟨fun i hi=>hn i (hA i hi),hv⟩⟩
    cases hx:lk n (Ao ops en ⟨[],[]⟩ (l.filter fun i=>!Aa i A)).objs with
    | none=>rfl
    | some u =>
     rcases (u7 h0 hf n u).1 hx with ⟨j,hj,hdj⟩|⟨_,hx⟩
     ·rw[hn j ((mf j).1 hj).1]at hdj;cases hdj
     ·cases hx
  ·rintro ((⟨i,hi,hv⟩|⟨_,hv⟩)|⟨hx,⟨i,hi,hv⟩|⟨hn,hv⟩⟩)
   ·exact .inl ⟨i,((mf i).1 hi).1,hv⟩
   ·cases hv
   ·exact .inl ⟨i,hA i hi,hv⟩
   ·refine .inr ⟨fun i hi=>?_,hv⟩
    by_cases hiA:i∈A
    ·exact hn i hiA
    ·cases hd:lk n (en i).obs with
     | none=>rfl
     | some u =>
      have:=(u7 h0 hf n u).2 (.inl ⟨i,(mf i).2 ⟨hi,hiA⟩,hd⟩)
      rw[hx]at this;cases this
end
/-! ### The front -/
def u9 (tb:Tb) (ops:List Oper) (τ:St) (en:Nat→En) (pre:List Nat) (i:Nat) (o:Oper):Prop :=
 ∃vc:Prop,aq tb ⟨(Ao ops en τ pre).env,Bm false (GL o.op) τ.objs (ES ops en pre)⟩ (o.dst.getD 0) o.op=some (vc,(en i).v,(en i).obs)∧vc
theorem ZE {ts:List Nat} {base:List (Nat×Obj)} {d:Nat} {obs:List (Nat×Obj)} {E:List (Nat×List (Nat×Obj))}:Bm false ts base (Iu d obs E)=Bm false ts base ((d,obs) :: E):=by
 cases obs with
 | nil=>simp only[Iu,Bm,List.nil_append];split<;>rfl
 | cons x r=>rfl
theorem vA {o:Op} {base:List (Nat×Obj)} {E:List (Nat×List (Nat×Obj))}:Kj false o base E=Bm false (GL o) base E:=by
 cases E<;>rfl
theorem VS {tb:Tb} {ops:List Oper} {τ:St} {en:Nat→En}:∀ {Q:List Nat} {ens:EN} {pre:List Nat} {E:List (Nat×List (Nat×Obj))} {vc:Prop},dC tb ops τ.objs Q E (Ao ops en τ pre).env=some (vc,ens)→vc →
  (∀ts,Bm false ts τ.objs E=Bm false ts τ.objs (ES ops en pre))→(∀(j i:Nat) (e:Nat×AV×List (Nat×Obj)),Q[j]?=some i→ens[j]?=some e→en i=⟨true,e.2.1,e.2.2⟩) →
  ens.length=Q.length∧∀(j i:Nat),Q[j]?=some i→∃(o:Oper) (e:Nat×AV×List (Nat×Obj)),ops[i]?=some o∧ens[j]?=some e∧Ak ops i=some e.1∧u9 tb ops τ en ((Q.take j).reverse++pre) i o
 | [],ens,pre,E,vc,h,hvc,hE,hen=>by
  simp only[dC]at h
  cases h
  exact⟨rfl,fun j i h=>by simp at h⟩
 | i :: Q,ens,pre,E,vc,h,hvc,hE,hen=>by
  simp only[dC]at h
  cases ho:ops[i]? with
  | none=>rw[ho]at h;simp[ZC]at h
  | some o =>
   rw[ho]at h
   simp only[ZC]at h
   cases hd:o.dst with
   | none=>rw[hd]at h;simp[XJ]at h
   | some d =>
    cases hq:aq tb ⟨(Ao ops en τ pre).env,Kj false o.op τ.objs E⟩ (o.dst.getD 0) o.op with
    | none=>rw[hq,hd]at h;simp[XJ]at h
    | some r =>
     obtain⟨vc0,v,obs⟩:=r
     rw[hq,hd]at h
     simp only[XJ]at h
     cases hr:dC tb ops τ.objs Q (Iu d obs E) ((d,v) :: (Ao ops en τ pre).env) with
     | none=>rw[hr]at h;simp[ZD]at h
     | some p =>
      obtain⟨vc',ens'⟩:=p
      rw[hr]at h
      simp only[ZD]at h
      cases h
      have hi:=hen 0 i (d,v,obs) rfl rfl
      have hdo:Ak ops i=some d:=by simp[Ak,ho,hd]
      have hst:(Ao ops en τ (i :: pre)).env=(d,v) :: (Ao ops en τ pre).env:=by simp[Ao,hdo,St.add,hi]
      have ih:=VS (pre:=i :: pre) (by rw[hst];exact hr) hvc.2 (fun ts=>by
       rw[ZE]
       simp only[ES,List.map_cons,hdo,Option.getD_some,hi,Bm]
       rw[hE ts];rfl) (fun j k e h1 h2=>hen (j+1) k e (by simpa using h1) (by simpa using h2))
      refine⟨by simp[ih.1],fun j k hk=>?_⟩
      cases j with
      | zero =>
       simp only[List.getElem?_cons_zero,Option.some.injEq]at hk
       subst hk
       refine⟨o,(d,v,obs),ho,rfl,hdo,vc0,?_,hvc.1⟩
       rw[vA,hE]at hq
       simp only[List.take_zero,List.reverse_nil,List.nil_append]
       rw[hi]
       exact hq
      | succ j =>
       obtain⟨o',e,h1,h2,h3,h4⟩:=ih.2 j k (by simpa using hk)
       refine⟨o',e,h1,by simpa using h2,h3,?_⟩
       simpa[List.take_succ_cons] using h4
theorem PT:∀ {ens:EN} {objs:List (Nat×Obj)},PR ens objs=true→∀(j:Nat) (e:Nat×AV×List (Nat×Obj)),ens[j]?=some e→∀n o,lk n e.2.2=some o→lk n objs=none∧∀(j':Nat) (e':Nat×AV×List (Nat×Obj)) (o':Obj),ens[j']?=some e'→lk n e'.2.2=some o'→j=j'
 | [],objs,_,j,e,h=>by simp at h
 | (d,v,obs) :: r,objs,h,j,e,he=>by
  simp only[PR,Bool.and_eq_true,List.all_eq_true,Option.isNone_iff_eq_none]at h
  have h0:∀n o,lk n obs=some o→lk n objs=none:=fun n o hn=>h.1 _ (FT hn)
  have hr:=PT h.2
  have low:∀(k:Nat) e',r[k]?=some e'→∀n o o',lk n obs=some o→lk n e'.2.2=some o'→False:=by
   intro k e' hk n o o' h1 h2
   have:=(hr k e' hk n o' h2).1
   rw[Ax,h1]at this
   simp at this
  intro n o hn
  cases j with
  | zero =>
   simp only[List.getElem?_cons_zero,Option.some.injEq]at he
   subst he
   refine⟨h0 n o hn,fun j' e' o' h1 h2=>?_⟩
   cases j' with
   | zero=>rfl
   | succ k=>exact(low k e' (by simpa using h1) n o o' hn h2).elim
  | succ j =>
   have he:r[j]?=some e:=by simpa using he
   have h1:=hr j e he n o hn
   refine⟨?_,fun j' e' o' h2 h3=>?_⟩
   ·have:=h1.1
    rw[Ax]at this
    cases hx:lk n obs with
    | none=>rw[hx]at this;simpa using this
    | some u=>rw[hx]at this;simp at this
   ·cases j' with
    | zero =>
     simp only[List.getElem?_cons_zero,Option.some.injEq]at h2
     subst h2
     exact(low j e he n o' o h3 hn).elim
    | succ k=>rw[h1.2 k e' o' (by simpa using h2) h3]
end
/- A statement whose order Go leaves open, with operations that turn memory in its midst: the proof. -/
section
open Go Go.RowKit
structure VT (ops:Array Oper) (anc:List (List Nat)):Prop where
 lt:∀i o,ops[i]?=some o→∀e∈Dq o,e<i
 cl:∀i o,ops[i]?=some o→∀j∈anc.getD i [],j∈Dq o∨∃e∈Dq o,j∈anc.getD e []
theorem A4q {ops:Array Oper} {anc:List (List Nat)} (h:A3s ops.toList anc=true):VT ops anc:=by
 simp only[A3s,List.all_eq_true,List.mem_range]at h
 have hi:∀i o,ops[i]?=some o→((Dq o).all fun e=>decide (e<i))=true∧((anc.getD i []).all fun j=>Aa j (Dq o)||(Dq o).any fun e=>Aa j (anc.getD e []))=true:=by
  intro i o ho
  have hlt:i<ops.toList.length:=by
   have:=(Array.getElem?_eq_some_iff.1 ho).1
   simpa using this
  have:=h i hlt
  have ho':ops.toList[i]?=some o:=by simpa using ho
  rw[ho']at this
  simpa only[Bool.and_eq_true] using this
 refine⟨fun i o ho e he=>?_,fun i o ho j hj=>?_⟩
 ·have:=(hi i o ho).1
  simp only[List.all_eq_true,decide_eq_true_eq]at this
  exact this e he
 ·have:=(hi i o ho).2
  simp only[List.all_eq_true,Bool.or_eq_true,List.any_eq_true,Ag]at this
  exact this j hj
section
variable {ops:Array Oper} {k:Nat} {anc:List (List Nat)} {Q:Exit→Act→World→Prop}
theorem Ql (hc:VT ops anc) {listed:Array Bool} (hcl:∀i o,ops[i]?=some o→listed.getD i true=true→∀e∈Dq o,listed.getD e false=true) :
  ∀i o,ops[i]?=some o→(∀e∈Dq o,listed.getD e false=true)→∀j∈anc.getD i [],listed.getD j false=true:=by
 intro i
 induction i using Nat.strongRecOn with
 | _ i ih =>
  intro o ho hd j hj
  rcases hc.cl i o ho j hj with h1|⟨e,he,hje⟩
  ·exact hd j h1
  ·have hlt:=hc.lt i o ho e he
   have hsz:i<ops.size:=(Array.getElem?_eq_some_iff.1 ho).1
   have hoe:ops[e]?=some (ops[e]'(by omega)):=Array.getElem?_eq_getElem (by omega)
   have hle:=hd e he
   have hle':listed.getD e true=true:=by
    by_cases hh:e<listed.size
    ·simp[Array.getD,hh]at hle ⊢;exact hle
    ·simp[Array.getD,hh]at hle
   exact ih e hlt _ hoe (hcl e _ hoe hle') j hje
theorem PU {F:Fence} {P:Program} (hc:VT ops anc) (hback:∀i o,ops[i]?=some o→k≤i→∀j,j<i→j∈anc.getD i []):∀ {rest:List Oper} {p:Nat} {listed:Array Bool} {a:Act} {w:World},ops.toList.drop p=rest→k≤p→p≤ops.size→listed.size=ops.size →
  (∀i,i<ops.size→(listed.getD i true=true↔i<p))→wpListIn F 0 P ops Q rest a w→wpAnyIn F 0 P .any ops Q rest.length listed a w
 | [],p,listed,a,w,hd,hkp,hps,hls,hl,hQ=>by
  have hp:p=ops.size:=by
   have:=congrArg List.length hd
   simp at this
   omega
  refine⟨?_,hQ⟩
  apply List.eq_nil_iff_forall_not_mem.2
  intro i hi
  rw[DL]at hi
  obtain⟨h1,o,ho,_⟩:=hi
  have hsz:i<ops.size:=(Array.getElem?_eq_some_iff.1 ho).1
  have:=(hl i hsz).2 (by omega)
  rw[h1]at this
  cases this
 | o :: r,p,listed,a,w,hd,hkp,hps,hls,hl,hQ=>by
  obtain⟨hop,hr⟩:=VM hd
  have hop:ops[p]?=some o:=by simpa using hop
  have hpsz:p<ops.size:=(Array.getElem?_eq_some_iff.1 hop).1
  have gd:∀e b,e<ops.size→listed.getD e b=listed.getD e true:=fun e b he=>by
   have:e<listed.size:=by omega
   simp[Array.getD,this]
  have hcl:∀i o,ops[i]?=some o→listed.getD i true=true→∀e∈Dq o,listed.getD e false=true:=by
   intro i o ho h1 e he
   have hsz:i<ops.size:=(Array.getElem?_eq_some_iff.1 ho).1
   have h2:=(hl i hsz).1 h1
   have h3:=hc.lt i o ho e he
   rw[gd e false (by omega)]
   exact(hl e (by omega)).2 (by omega)
  have hready:∀i,i∈Region.ready .any ops listed→i=p:=by
   intro i hi
   rw[DL]at hi
   obtain⟨h1,o',ho',h2⟩:=hi
   have hsz:i<ops.size:=(Array.getElem?_eq_some_iff.1 ho').1
   have hge:¬i<p:=fun hlt=>by rw[(hl i hsz).2 hlt]at h1;cases h1
   by_cases hip:i=p
   ·exact hip
   ·have h3:=Ql hc hcl i o' ho' h2 p (hback i o' ho' (by omega) p (by omega))
    rw[gd p false hpsz]at h3
    have:=(hl p hpsz).1 h3
    omega
  refine⟨fun hnil=>?_,fun i hi=>?_⟩
  ·exfalso
   have:p∈Region.ready .any ops listed:=by
    rw[DL]
    refine⟨?_,o,hop,fun e he=>?_⟩
    ·cases hh:listed.getD p true with
     | false=>rfl
     | true=>have:=(hl p hpsz).1 hh;omega
    ·have:=hc.lt p o hop e he
     rw[gd e false (by omega)]
     exact(hl e (by omega)).2 this
   rw[hnil]at this
   cases this
  ·have hip:=hready i hi
   subst hip
   have hnext:∀(j:Nat),j<ops.size→((listed.setIfInBounds i true).getD j true=true↔j<i+1):=by
    intro j hj
    have hjl:j<listed.size:=by omega
    by_cases hji:j=i
    ·subst hji
     simp[Array.getD,hjl]
    ·have h1:(listed.setIfInBounds i true).getD j true=listed.getD j true:=getD_set_ne true (fun e=>hji e.symm)
     rw[h1,hl j hj]
     omega
   unfold wpOpIn
   rw[hop]
   simp only
   unfold wpListIn at hQ
   split
   ·rename_i hw
    rw[if_pos hw]at hQ
    exact Oper.wpIn_mono (fun a' w' h'=>PU hc hback hr.symm (by omega) (by omega) (by simpa using hls) hnext h') hQ
   ·rename_i hw
    rw[if_neg hw]at hQ
    exact⟨hQ.1,PU hc hback hr.symm (by omega) (by omega) (by simpa using hls) hnext hQ.2⟩
end
/-! ### What the checks say -/
structure QOk (ops:List Oper) (anc:List (List Nat)) (L Q:List Nat):Prop where
 nodup:Q.Nodup
 pos:∀(j i:Nat),Q[j]?=some i→i∉L∧∃o,ops[i]?=some o∧o.guard=none∧(∀e∈Dq o,e∈L∨e∈Q.take j)∧(∀t∈GL o.op,∀k∈Q,Ak ops k=some t→k∈anc.getD i []∧k∈Q.take j)
 slot:∀i∈Q,∀j∈Q,∀s,Ak ops i=some s→Ak ops j=some s→i=j
theorem ZF {ops:List Oper} {anc:List (List Nat)} {L Q:List Nat}:∀ {r pre:List Nat},qB1 ops anc L Q r pre=true →
  (∀(j i:Nat),r[j]?=some i→i∉L∧i∉pre∧i∉r.take j∧∃o,ops[i]?=some o∧o.guard=none∧(∀e∈Dq o,e∈L∨e∈pre∨e∈r.take j)∧(∀t∈GL o.op,∀k∈Q,Ak ops k=some t→k∈anc.getD i []∧(k∈pre∨k∈r.take j)) ∧
   ∀k,k∈pre∨k∈r.take j→Ak ops k≠Ak ops i)
 | [],pre,h,j,i,hj=>by simp at hj
 | x :: r,pre,h,j,i,hj=>by
  simp only[qB1,Bool.and_eq_true]at h
  obtain⟨h1,h2⟩:=h
  cases j with
  | zero =>
   simp only[List.getElem?_cons_zero,Option.some.injEq]at hj
   subst hj
   cases ho:ops[x]? with
   | none=>rw[ho]at h1;cases h1
   | some o =>
    rw[ho]at h1
    simp only[Bool.and_eq_true,List.all_eq_true,Bool.or_eq_true,Ag,bne_iff_ne,Bool.not_eq_true',Option.isNone_iff_eq_none]at h1
    obtain⟨⟨⟨⟨⟨⟨g1,g2⟩,g3⟩,g4⟩,g5⟩,g6⟩,g7⟩:=h1
    refine⟨fun h=>(by rw[(Ag _ _).2 h]at g6;cases g6),fun h=>(by rw[(Ag _ _).2 h]at g7;cases g7),by simp,o,rfl,g2,fun e he=>?_,fun t ht k hk hd=>?_,fun k hk=>?_⟩
    ·rcases g3 e he with h|h
     ·exact .inl h
     ·exact .inr (.inl h)
    ·rcases g4 t ht k hk with h|h
     ·exact absurd hd h
     ·exact⟨h.1,.inl h.2⟩
    ·rcases hk with hk|hk
     ·have:=g5 k hk
      simpa[Ak,ho] using this
     ·simp at hk
  | succ j =>
   obtain⟨a1,a2,a3,o,a4,a5,a6,a7,a8⟩:=ZF h2 j i (by simpa using hj)
   simp only[List.mem_cons,not_or]at a2
   refine⟨a1,a2.2,by simp[List.take_succ_cons,a2.1,a3],o,a4,a5,fun e he=>?_,fun t ht k hk hd=>?_,fun k hk=>a8 k ?_⟩
   ·rcases a6 e he with h|h|h
    ·exact .inl h
    ·rcases List.mem_cons.1 h with rfl|h
     ·exact .inr (.inr (by simp))
     ·exact .inr (.inl h)
    ·exact .inr (.inr (by simp[h]))
   ·obtain⟨b1,b2⟩:=a7 t ht k hk hd
    refine⟨b1,?_⟩
    rcases b2 with h|h
    ·rcases List.mem_cons.1 h with rfl|h
     ·exact .inr (by simp)
     ·exact .inl h
    ·exact .inr (by simp[h])
   ·rcases hk with hk|hk
    ·exact .inl (by simp[hk])
    ·simp only[List.take_succ_cons,List.mem_cons]at hk
     rcases hk with rfl|hk
     ·exact .inl (by simp)
     ·exact .inr hk
theorem ZG {α:Type} {l:List α} {i j:Nat} {x:α} (h:l[i]?=some x) (hij:i<j):x∈l.take j:=by
 rw[List.mem_iff_getElem?]
 exact⟨i,by rw[List.getElem?_take,if_pos hij];exact h⟩
theorem qOk {ops:List Oper} {anc:List (List Nat)} {L Q:List Nat} (h:qB1 ops anc L Q Q []=true):QOk ops anc L Q:=by
 have hs:=ZF h
 have hne:∀ {i j x y:Nat},Q[i]?=some x→Q[j]?=some y→i<j→x≠y∧Ak ops x≠Ak ops y:=by
  intro i j x y hx hy hij
  obtain⟨_,_,a3,_,_,_,_,_,a8⟩:=hs j y hy
  have hm:=ZG hx hij
  exact⟨fun e=>a3 (e▸hm),a8 x (.inr hm)⟩
 refine⟨?_,fun j i hj=>?_,fun i hi j hj s h1 h2=>?_⟩
 ·rw[List.nodup_iff_pairwise_ne,List.pairwise_iff_getElem]
  intro i j hi hj hij e
  exact(hne (List.getElem?_eq_getElem hi) (List.getElem?_eq_getElem hj) hij).1 e
 ·obtain⟨a1,_,_,o,a4,a5,a6,a7,_⟩:=hs j i hj
  refine⟨a1,o,a4,a5,fun e he=>?_,fun t ht k hk hd=>?_⟩
  ·rcases a6 e he with h|h|h
   ·exact .inl h
   ·cases h
   ·exact .inr h
  ·obtain⟨b1,b2⟩:=a7 t ht k hk hd
   rcases b2 with h|h
   ·cases h
   ·exact⟨b1,h⟩
 ·obtain⟨a,ha⟩:=List.mem_iff_getElem?.1 hi
  obtain⟨b,hb⟩:=List.mem_iff_getElem?.1 hj
  rcases Nat.lt_trichotomy a b with h|h|h
  ·exact absurd (h1.trans h2.symm) (hne ha hb h).2
  ·subst h;rw[ha]at hb;injection hb
  ·exact absurd (h2.trans h1.symm) (hne hb ha h).2
theorem dE:∀ {Q:List Nat} {ens:EN},Q.Nodup→∀(j i:Nat) (e:Nat×AV×List (Nat×Obj)),Q[j]?=some i→ens[j]?=some e→My Q ens i=⟨true,e.2.1,e.2.2⟩
 | [],ens,_,j,i,e,h,_=>by simp at h
 | x :: Q,[],_,j,i,e,_,h=>by simp at h
 | x :: Q,f :: ens,hn,j,i,e,h1,h2=>by
  cases j with
  | zero =>
   simp only[List.getElem?_cons_zero,Option.some.injEq]at h1 h2
   subst h1;subst h2
   simp[My,List.zip_cons_cons,lk]
  | succ j =>
   have h1:Q[j]?=some i:=by simpa using h1
   have hx:i≠x:=fun e=>by
    subst e
    exact(List.nodup_cons.1 hn).1 (List.mem_of_getElem? h1)
   have:=dE (List.nodup_cons.1 hn).2 j i e h1 (by simpa using h2)
   simp only[My,List.zip_cons_cons,lk,if_neg hx]at this ⊢
   exact this
structure Fr (tb:Tb) (ops:List Oper) (anc:List (List Nat)) (L Q:List Nat) (ens:EN) (τ:St):Prop where
 q:QOk ops anc L Q
 len:ens.length=Q.length
 own:Own ops (My Q ens) τ Q
 at_:∀(j i:Nat),Q[j]?=some i→∃(o:Oper) (e:Nat×AV×List (Nat×Obj)),ops[i]?=some o∧ens[j]?=some e∧Ak ops i=some e.1∧My Q ens i=⟨true,e.2.1,e.2.2⟩∧u9 tb ops τ (My Q ens) (Q.take j).reverse i o
theorem vB {tb:Tb} {ops:List Oper} {anc:List (List Nat)} {L Q:List Nat} {ens:EN} {τ:St} (hq:QOk ops anc L Q) (h:A3r tb ops Q ens τ):Fr tb ops anc L Q ens τ:=by
 obtain⟨vc,h1,h2,h3⟩:=h
 have hz:=fun(j i:Nat) (e:Nat×AV×List (Nat×Obj))=>dE (ens:=ens) hq.nodup j i e
 obtain⟨hl,hf⟩:=VS (en:=My Q ens) (pre:=[]) h1 h2 (fun ts=>rfl) hz
 have hat:∀i∈Q,∃(j:Nat) (e:Nat×AV×List (Nat×Obj)),Q[j]?=some i∧ens[j]?=some e∧My Q ens i=⟨true,e.2.1,e.2.2⟩:=by
  intro i hi
  obtain⟨j,hj⟩:=List.mem_iff_getElem?.1 hi
  obtain⟨_,e,_,he,_⟩:=hf j i hj
  exact⟨j,e,hj,he,hz j i e hj he⟩
 refine⟨hq,hl,⟨hq.slot,fun i hi n o hn=>?_,fun i hi j hj n o o' h4 h5=>?_⟩,fun j i hj=>?_⟩
 ·obtain⟨j,e,_,he,hz⟩:=hat i hi
  rw[hz]at hn
  exact(PT h3 j e he n o hn).1
 ·obtain⟨a,e,ha,he,hz1⟩:=hat i hi
  obtain⟨b,e',hb,he',hz2⟩:=hat j hj
  rw[hz1]at h4
  rw[hz2]at h5
  have:=(PT h3 a e he n o h4).2 b e' o' he' h5
  subst this
  rw[ha]at hb
  injection hb
 ·obtain⟨o,e,h4,h5,h6,h7⟩:=hf j i hj
  exact⟨o,e,h4,h5,h6,hz j i e hj h5,by simpa using h7⟩
theorem qB {ops:List Oper} {en:Nat→En} {τ:St} {Q:List Nat} (h:Own ops en τ Q) {ts pre ex:List Nat} (hp:∀j∈pre,j∈Q) (hex:∀j∈ex,j∈Q) (hA:∀j∈pre,Aa ((Ak ops j).getD 0) ts=true→j∈ex) {n:Nat} {o:Obj} :
  lk n (Bm false ts τ.objs (ES ops en pre))=some o→lk n (Ao ops en τ ex).objs=some o:=by
 rw[u7 h hex]
 induction pre with
 | nil =>
  simp only[ES,List.map_nil,Bm]
  intro hn
  refine .inr ⟨fun j hj=>?_,hn⟩
  cases h':lk n (en j).obs with
  | none=>rfl
  | some o'=>have:=h.new j (hex j hj) n o' h';rw[this]at hn;cases hn
 | cons i r ih =>
  simp only[ES,List.map_cons,Bm]
  have ih:=ih (fun j hj=>hp j (by simp[hj])) (fun j hj=>hA j (by simp[hj]))
  split
  ·rename_i hm
   intro hn
   rw[Ax]at hn
   cases h':lk n (en i).obs with
   | some o' =>
    rw[h']at hn
    simp only[Option.some_or]at hn
    cases hn
    exact .inl ⟨i,hA i (by simp) (by simpa using hm),h'⟩
   | none =>
    rw[h']at hn
    exact ih (by simpa[ES] using hn)
  ·exact ih
theorem Lw {p:Nat×Obj}:∀ {l:List (Nat×Obj)},p∈l→∃o',lk p.1 l=some o'
 | (q1,q2) :: r,h=>by
  simp only[lk]
  by_cases he:p.1=q1
  ·exact⟨q2,by rw[if_pos he]⟩
  ·rw[if_neg he]
   rcases List.mem_cons.1 h with rfl|h
   ·exact absurd rfl he
   ·exact Lw h
theorem dF {c:Cx} (hok:c.Ok) {ops:List Oper} {anc:List (List Nat)} {L Q:List Nat} {ens:EN} {τ:St} (hF:Fr c.tb ops anc L Q ens τ) {ex:List Nat} (hex:∀i∈ex,i∈Q) {j i:Nat} {o:Oper} (hj:Q[j]?=some i) (ho:ops[i]?=some o) (hni:i∉ex)
  (hdep:∀k∈anc.getD i [],k∈Q→k∈ex) (hdo:∀d,o.dst=some d→d<c.nt) {a:Act} {w:World} {next:Act→World→Prop} {Qe:Exit→Act→World→Prop} (hs:c.sat (Ao ops (My Q ens) τ ex) a w)
  (hn:∀a' w',c.sat (Ao ops (My Q ens) τ (i :: ex)) a' w'→next a' w'):o.wpIn (FR c.r) 0 c.P a w next Qe:=by
 obtain⟨o',e,ho',he,hd,hz,vc,hq,hvc⟩:=hF.at_ j i hj
 rw[ho]at ho';cases ho'
 obtain⟨_,o2,ho2,_,_,hts⟩:=hF.q.pos j i hj
 rw[ho]at ho2;cases ho2
 have hpre:∀k∈(Q.take j).reverse,k∈Q:=fun k hk=>List.mem_of_mem_take (by simpa using hk)
 have hops:Ops ⟨(Ao ops (My Q ens) τ (Q.take j).reverse).env,Bm false (GL o.op) τ.objs (ES ops (My Q ens) (Q.take j).reverse)⟩ (Ao ops (My Q ens) τ ex) o.op.operands.toList:=by
  intro x hx v hv
  cases x with
  | tmp t =>
   simp only[Av]at hv ⊢
   have ht:t∈GL o.op:=List.mem_filterMap.2 ⟨_,hx,rfl⟩
   rw[u6 hF.own hpre]at hv
   rw[u6 hF.own hex]
   rcases hv with ⟨k,hk,hkd,hkv⟩|⟨hno,hv⟩
   ·exact .inl ⟨k,hdep k (hts t ht k (hpre k hk) hkd).1 (hpre k hk),hkd,hkv⟩
   ·refine .inr ⟨fun k hk hkd=>?_,hv⟩
    exact hno k (by simpa using (hts t ht k (hex k hk) hkd).2) hkd
  | const v'=>exact hv
  | global g=>exact hv
  | func f=>exact hv
 have hobs:YU ⟨(Ao ops (My Q ens) τ (Q.take j).reverse).env,Bm false (GL o.op) τ.objs (ES ops (My Q ens) (Q.take j).reverse)⟩ (Ao ops (My Q ens) τ ex):=by
  intro n o' hn
  refine qB hF.own hpre hex (fun k hk hm=>?_) hn
  obtain⟨jk,hjk⟩:=List.mem_iff_getElem?.1 (hpre k hk)
  obtain⟨_,ek,_,_,hdk,_⟩:=hF.at_ jk k hjk
  rw[hdk]at hm
  exact hdep k (hts _ ((Ag _ _).1 hm) k (hpre k hk) hdk).1 (hpre k hk)
 have hq':=Rc hobs hops hq
 have hiQ:=List.mem_of_getElem? hj
 have hfresh:BT (My Q ens i).obs (Ao ops (My Q ens) τ ex)=true:=by
  simp only[BT,List.all_eq_true,Option.isNone_iff_eq_none]
  intro p hp
  obtain⟨o',hp'⟩:=Lw hp
  cases hl:lk p.1 (Ao ops (My Q ens) τ ex).objs with
  | none=>rfl
  | some u =>
   rcases (u7 hF.own hex p.1 u).1 hl with ⟨k,hk,hku⟩|⟨_,hu⟩
   ·have:=hF.own.name i hiQ k (hex k hk) p.1 o' u hp' hku
    subst this
    exact absurd hk hni
   ·rw[hF.own.new i hiQ p.1 o' hp']at hu;cases hu
 obtain⟨ρ,hsρ⟩:=hs
 refine gE (A0b hok hsρ) hq' hvc hfresh fun u ρ' w' hqs=>hn _ _ ?_
 have hdd:Ak ops i=o.dst:=by simp[Ak,ho]
 simp only[Ao,hdd]
 exact⟨ρ',hsρ.add hok.K hok.O hdo hfresh hqs⟩
end
/- A statement whose order Go leaves open, with operations that turn memory in its midst: any order. -/
section
open Go Go.RowKit
theorem Kq:∀ {l l':List Nat},l.Nodup→(∀x∈l,x∈l')→l.length≤l'.length
 | [],_,_,_=>by simp
 | x :: l,l',hn,h=>by
  have hx:=h x (by simp)
  have:=Kq (l:=l) (l':=l'.erase x) (List.nodup_cons.1 hn).2 (fun y hy=>by
   have:y≠x:=fun e=>(List.nodup_cons.1 hn).1 (e▸hy)
   exact(List.mem_erase_of_ne this).2 (h y (by simp[hy])))
  rw[List.length_erase_of_mem hx]at this
  have:=List.length_pos_of_mem hx
  simp only[List.length_cons]
  omega
theorem H0 (A:List Nat) (l:Nat) (ps:List (List Nat×Nat)) (D:List Nat):qs ((A,l) :: ps) D=A++qs ps D:=by simp[qs]
structure A4r (ops:List Oper) (anc:List (List Nat)) (p0:Nat) (L:List Nat) (ps:List (List Nat×Nat)) (D:List Nat):Prop where
 all:∀i,i<p0→i∈L∨i∈qs ps D∨i∈ps.map (·.2)
 back:∀i,p0≤i→i<ops.length→∀j,j<i→j∈anc.getD i []
 L:∀i∈L,i<p0
 Q:∀i∈qs ps D,i<p0
 lo:∀p∈ps,p.2<p0
 p0:p0≤ops.length
theorem Se {ops:List Oper} {anc:List (List Nat)} {p0:Nat} {L D:List Nat} (h:RM ops anc p0 L [] D=true):QOk ops anc L D∧(∀i,i<p0→i∈L∨i∈D)∧L.length+D.length=p0∧p0≤ops.length∧(∀i∈L,i<p0)∧(∀i∈D,i<p0)∧(∀i,p0≤i→i<ops.length→∀j,j<i→j∈anc.getD i []):=by
 simp only[RM,Bool.and_eq_true,List.all_eq_true,List.mem_range,Bool.or_eq_true,decide_eq_true_eq,Ag]at h
 obtain⟨⟨⟨⟨⟨⟨h1,h2⟩,h3⟩,h4⟩,h5⟩,h6⟩,h7⟩:=h
 refine⟨qOk h1,h2,h3,h4,h5,h6,fun i hi hl j hj=>?_⟩
 rcases h7 i hl with h|h
 ·omega
 ·exact h j hj
theorem Iz {ops:List Oper} {anc:List (List Nat)} {p0:Nat} {L D A:List Nat} {l:Nat} {ps:List (List Nat×Nat)} (h:RM ops anc p0 L ((A,l) :: ps) D=true):QOk ops anc L (A++qs ps D)∧(∃o,ops[l]?=some o∧o.guard=none∧(∀e∈Dq o,e∈L∨e∈A))∧(∀j∈A,j∈anc.getD l [])∧l∉L∧l∉A++qs ps D∧(∀p∈ps,l∈anc.getD p.2 [])∧RM ops anc p0 (l :: (A++L)) ps D=true:=by
 simp only[RM,Bool.and_eq_true,List.all_eq_true,Ag]at h
 obtain⟨⟨⟨h1,h2⟩,h3⟩,h4⟩:=h
 cases ho:ops[l]? with
 | none=>rw[ho]at h2;cases h2
 | some o =>
  rw[ho]at h2
  simp only[Bool.and_eq_true,List.all_eq_true,Bool.or_eq_true,Ag,Bool.not_eq_true',Option.isNone_iff_eq_none]at h2
  obtain⟨⟨⟨⟨g1,g2⟩,g3⟩,g4⟩,g5⟩:=h2
  exact⟨qOk h1,⟨o,rfl,g1,g2⟩,g3,fun h=>(by rw[(Ag _ _).2 h]at g4;cases g4),fun h=>(by rw[(Ag _ _).2 h]at g5;cases g5),h3,h4⟩
theorem Sf {ops:List Oper} {anc:List (List Nat)} {p0:Nat}:∀ {ps:List (List Nat×Nat)} {L D:List Nat},RM ops anc p0 L ps D=true→A4r ops anc p0 L ps D
 | [],L,D,h=>by
  obtain⟨_,h1,h2,h3,h4,h5,h6⟩:=Se h
  refine⟨fun i hi=>?_,h6,h4,by simpa[qs] using h5,by simp,h3⟩
  rcases h1 i hi with h|h
  ·exact .inl h
  ·exact .inr (.inl (by simpa[qs] using h))
 | (A,l) :: ps,L,D,h=>by
  obtain⟨_,_,_,_,_,_,h1⟩:=Iz h
  have ih:=Sf h1
  refine⟨fun i hi=>?_,ih.back,fun i hi=>ih.L i (by simp[hi]),fun i hi=>?_,fun p hp=>?_,ih.p0⟩
  ·rcases ih.all i hi with h|h|h
   ·simp only[List.mem_cons,List.mem_append]at h
    rcases h with rfl|h|h
    ·exact .inr (.inr (by simp))
    ·exact .inr (.inl (by rw[H0];simp[h]))
    ·exact .inl h
   ·exact .inr (.inl (by rw[H0];simp[h]))
   ·exact .inr (.inr (by simp only[List.map_cons,List.mem_cons];exact .inr h))
  ·rw[H0,List.mem_append]at hi
   rcases hi with hi|hi
   ·exact ih.L i (by simp[hi])
   ·exact ih.Q i hi
  ·rcases List.mem_cons.1 hp with rfl|hp
   ·exact ih.L l (by simp)
   ·exact ih.lo p hp
theorem XL {ops:List Oper} {en:Nat→En} {τ:St}:∀ {Q:List Nat} {ens:EN} {pre:List Nat},ens.length=Q.length→(∀(j i:Nat) (e:Nat×AV×List (Nat×Obj)),Q[j]?=some i→ens[j]?=some e→Ak ops i=some e.1∧en i=⟨true,e.2.1,e.2.2⟩) →
  Kp ens (Ao ops en τ pre)=Ao ops en τ (Q.reverse++pre)
 | [],[],pre,_,_=>rfl
 | [],_ :: _,_,h,_=>by simp at h
 | _ :: _,[],_,h,_=>by simp at h
 | i :: Q,(d,v,obs) :: ens,pre,hl,h=>by
  obtain⟨h1,h2⟩:=h 0 i (d,v,obs) rfl rfl
  have:(⟨(d,v) :: (Ao ops en τ pre).env,obs++(Ao ops en τ pre).objs⟩:St)=Ao ops en τ (i :: pre):=by simp[Ao,h1,h2,St.add]
  simp only[Kp]
  rw[this,XL (by simpa using hl) (fun j k e h3 h4=>h (j+1) k e (by simpa using h3) (by simpa using h4))]
  simp
section
variable {c:Cx} {ops:Array Oper} {anc:List (List Nat)} {p0:Nat} {Kf:St→Prop} {Qe:Exit→Act→World→Prop}
theorem vC {ps:List (List Nat×Nat)} {L D:List Nat} {ens:EN} {τ:St} (hB:RM ops.toList anc p0 L ps D=true) (hM:u4 c ops.toList Kf ps D ens τ):Fr c.tb ops.toList anc L (qs ps D) ens τ:=by
 cases ps with
 | nil =>
  have:qs [] D=D:=rfl
  rw[this]
  exact vB (Se hB).1 hM.1
 | cons p ps =>
  obtain⟨A,l⟩:=p
  rw[H0]
  exact vB (Iz hB).1 hM.1
theorem VU (hanc:VT ops anc) {ps:List (List Nat×Nat)} {L D:List Nat} {ex:List Nat} {listed:Array Bool} (hB:RM ops.toList anc p0 L ps D=true) (hq:QOk ops.toList anc L (qs ps D)) (hex:∀i∈ex,i∈qs ps D) (hls:listed.size=ops.size)
    (hl:∀i,i<ops.size→(listed.getD i true=true↔i∈L∨i∈ex)) (hf:¬(ps=[]∧∀i∈qs ps D,i∈ex)):∃i,i∈Region.ready .any ops listed:=by
  have gd:∀e b,e<ops.size→listed.getD e b=listed.getD e true:=fun e b he=>by
    have:e<listed.size:=by omega
    simp[Array.getD,this]
  have mk:∀i o,ops[i]?=some o→i∉L→i∉ex→(∀e∈Dq o,e∈L∨e∈ex)→i∈Region.ready .any ops listed:=by
    intro i o ho h1 h2 h3
    have hsz:i<ops.size:=(Array.getElem?_eq_some_iff.1 ho).1
    rw[DL]
    refine⟨?_,o,ho,fun e he=>?_⟩
    · cases hh:listed.getD i true with
      | false=>rfl
      | true => rcases (hl i hsz).1 hh with h | h
                · exact absurd h h1
                · exact absurd h h2
    · have h4:=hanc.lt i o ho e he
      rw[gd e false (by omega)]
      exact(hl e (by omega)).2 (h3 e he)
  by_cases hall:∀i∈qs ps D,i∈ex
  · cases ps with
    | nil=>exact absurd ⟨rfl,hall⟩ hf
    | cons p ps =>
      obtain⟨A,l⟩:=p
      rw[H0]at hall hex
      obtain⟨_,⟨o,ho,_,hd⟩,_,h1,h2,_,_⟩:=Iz hB
      refine⟨l,mk l o (by simpa using ho) h1 (fun h=>h2 (hex l h)) fun e he=>?_⟩
      rcases hd e he with h|h
      · exact .inl h
      · exact .inr (hall e (by simp[h]))
  · have key:∀(n j:Nat),j≤n→(∃i,(qs ps D)[j]?=some i∧i∉ex)→∃i,i∈Region.ready .any ops listed:=by
      intro n
      induction n with
      | zero =>
        rintro j hj ⟨i,hi,hne⟩
        have:j=0:=by omega
        subst this
        obtain⟨g1,o,g2,_,g3,_⟩:=hq.pos 0 i hi
        refine⟨i,mk i o (by simpa using g2) g1 hne fun e he=>?_⟩
        rcases g3 e he with h|h
        · exact .inl h
        · simp at h
      | succ n ihn =>
        rintro j hj ⟨i,hi,hne⟩
        by_cases hlow:∃j',j'<j∧∃i',(qs ps D)[j']?=some i'∧i'∉ex
        · obtain⟨j',h1,h2⟩:=hlow
          exact ihn j' (by omega) h2
        · obtain⟨g1,o,g2,_,g3,_⟩:=hq.pos j i hi
          refine⟨i,mk i o (by simpa using g2) g1 hne fun e he=>?_⟩
          rcases g3 e he with h|h
          · exact .inl h
          · right
            obtain⟨j',hj'⟩:=List.mem_iff_getElem?.1 h
            rw[List.getElem?_take]at hj'
            split at hj'
            · rename_i hlt
              apply Classical.byContradiction
              intro hx
              exact hlow ⟨j',hlt,e,hj',hx⟩
            · cases hj'
    have:∃i,i∈qs ps D∧i∉ex:=by
      apply Classical.byContradiction
      intro hno
      exact hall fun i hi=>Classical.byContradiction fun hx=>hno ⟨i,hi,hx⟩
    obtain⟨i,hi,hne⟩:=this
    obtain⟨j,hj⟩:=List.mem_iff_getElem?.1 hi
    exact key j j (Nat.le_refl _) ⟨i,hj,hne⟩
theorem VV (hanc:VT ops anc) (hT:∀τ,Kf τ→∀a w,c.sat τ a w→wpListIn (FR c.r) 0 c.P ops Qe (ops.toList.drop p0) a w) {m:Nat} {L D:List Nat} {ens:EN} {τ:St} {ex:List Nat} {listed:Array Bool} {a:Act} {w:World}
  (hB:RM ops.toList anc p0 L [] D=true) (hM:u4 c ops.toList Kf [] D ens τ) (hnd:(L++ex).Nodup) (hex:∀i∈ex,i∈D) (hm:m+L.length+ex.length=ops.size) (hls:listed.size=ops.size) (hl:∀i,i<ops.size→(listed.getD i true=true↔i∈L∨i∈ex))
  (hs:c.sat (Ao ops.toList (My D ens) τ ex) a w) (hall:∀i∈D,i∈ex):wpAnyIn (FR c.r) 0 c.P .any ops Qe m listed a w:=by
 obtain⟨hq,h1,h2,h3,h4,h5,h6⟩:=Se hB
 have hF:=vB hq hM.1
 have hlen:ex.length=D.length:=Nat.le_antisymm (Kq (List.nodup_append.1 hnd).2.1 hex) (Kq hq.nodup hall)
 have hm':m=(ops.toList.drop p0).length:=by
  simp only[List.length_drop,Array.length_toList]
  omega
 have hadd:Kp ens τ=Ao ops.toList (My D ens) τ D.reverse:=by
  have:=XL (ops:=ops.toList) (en:=My D ens) (τ:=τ) (pre:=[]) hF.len (fun j i e h7 h8=>by
   obtain⟨o,e',_,h9,h10,h11,_⟩:=hF.at_ j i h7
   rw[h8]at h9;cases h9
   exact⟨h10,h11⟩)
  simpa[Ao] using this
 have hs':c.sat (Kp ens τ) a w:=by
  rw[hadd]
  have hr:∀i∈D.reverse,i∈D:=fun i hi=>by simpa using hi
  have hme:∀i,i∈ex↔i∈D.reverse:=fun i=>⟨fun h=>by simpa using hex i h,fun h=>hall i (by simpa using h)⟩
  refine SW (fun s=>Option.ext fun v=>?_) (fun n=>Option.ext fun o=>?_) hs
  ·rw[u6 hF.own hr,u6 hF.own hex]
   simp only[hme]
  ·rw[u7 hF.own hr,u7 hF.own hex]
   simp only[hme]
 have:=PU (Q:=Qe) (F:=FR c.r) (P:=c.P) hanc (k:=p0) (fun i o ho hi j hj=>h6 i hi (by have:=(Array.getElem?_eq_some_iff.1 ho).1;simpa using this) j hj) (rest:=ops.toList.drop p0) (p:=p0) (listed:=listed) (a:=a) (w:=w) rfl (Nat.le_refl _) (by simpa using h3) hls
  (fun i hi=>by
   rw[hl i hi]
   constructor
   ·rintro (h|h)
    ·exact h4 i h
    ·exact h5 i (hex i h)
   ·intro h
    rcases h1 i h with h|h
    ·exact .inl h
    ·exact .inr (hall i h)) (hT _ hM.2 a w hs')
 rw[hm']
 exact this
theorem A0j (hok:c.Ok) (hdst:∀o∈ops.toList,HD c.nt o=true) (hanc:VT ops anc) (hT:∀τ,Kf τ→∀a w,c.sat τ a w→wpListIn (FR c.r) 0 c.P ops Qe (ops.toList.drop p0) a w) :
  ∀(m:Nat) (ps:List (List Nat×Nat)) (L D:List Nat) (ens:EN) (τ:St) (ex:List Nat) (listed:Array Bool) (a:Act) (w:World),RM ops.toList anc p0 L ps D=true→u4 c ops.toList Kf ps D ens τ→(L++ex).Nodup→(∀i∈ex,i∈qs ps D) →
   m+L.length+ex.length=ops.size→listed.size=ops.size→(∀i,i<ops.size→(listed.getD i true=true↔i∈L∨i∈ex))→(∀i o,ops[i]?=some o→(i∈L∨i∈ex)→∀e∈Dq o,e∈L∨e∈ex) →
   c.sat (Ao ops.toList (My (qs ps D) ens) τ ex) a w→wpAnyIn (FR c.r) 0 c.P .any ops Qe m listed a w:=by
 intro m
 induction m with
 | zero =>
  intro ps L D ens τ ex listed a w hB hM hnd hex hm hls hl hcl hs
  have hF:=vC hB hM
  by_cases hf:ps=[]∧∀i∈qs ps D,i∈ex
  ·obtain⟨rfl,hall⟩:=hf
   exact VV hanc hT hB hM hnd hex hm hls hl hs hall
  ·exfalso
   obtain⟨i,hi⟩:=VU hanc hB hF.q hex hls hl hf
   rw[DL]at hi
   obtain⟨h1,o,ho,_⟩:=hi
   have hsz:i<ops.size:=(Array.getElem?_eq_some_iff.1 ho).1
   have hne:i∉L++ex:=fun h=>by
    rw[(hl i hsz).2 (List.mem_append.1 h)]at h1;cases h1
   have hcv:=Sf hB
   have:=EY ops.size (i :: (L++ex)) (List.nodup_cons.2 ⟨hne,hnd⟩) (fun j hj=>by
    have hp:=hcv.p0
    simp only[Array.length_toList]at hp
    rcases List.mem_cons.1 hj with rfl|hj
    ·exact hsz
    ·rcases List.mem_append.1 hj with hj|hj
     ·have:=hcv.L j hj;omega
     ·have:=hcv.Q j (hex j hj);omega)
   simp only[List.length_cons,List.length_append]at this
   omega
 | succ m ih =>
  intro ps L D ens τ ex listed a w hB hM hnd hex hm hls hl hcl hs
  have hF:=vC hB hM
  have hcv:=Sf hB
  have gd:∀e b,e<ops.size→listed.getD e b=listed.getD e true:=fun e b he=>by
   have:e<listed.size:=by omega
   simp[Array.getD,this]
  by_cases hf:ps=[]∧∀i∈qs ps D,i∈ex
  ·obtain⟨rfl,hall⟩:=hf
   exact VV hanc hT hB hM hnd hex hm hls hl hs hall
  ·refine⟨fun hnil=>?_,fun i hi=>?_⟩
   ·obtain⟨i,hi⟩:=VU hanc hB hF.q hex hls hl hf
    rw[hnil]at hi
    cases hi
   ·rw[DL]at hi
    obtain⟨h1,o,ho,h2⟩:=hi
    have hsz:i<ops.size:=(Array.getElem?_eq_some_iff.1 ho).1
    have hne:¬(i∈L∨i∈ex):=fun h=>by rw[(hl i hsz).2 h]at h1;cases h1
    have hdir:∀e∈Dq o,e∈L∨e∈ex:=fun e he=>by
     have h3:=hanc.lt i o ho e he
     have h4:=h2 e he
     rw[gd e false (by omega)]at h4
     exact(hl e (by omega)).1 h4
    have hancs:∀j∈anc.getD i [],j∈L∨j∈ex:=by
     have hcl':∀i o,ops[i]?=some o→listed.getD i true=true→∀e∈Dq o,listed.getD e false=true:=by
      intro i o ho h1 e he
      have hsz:i<ops.size:=(Array.getElem?_eq_some_iff.1 ho).1
      have h3:=hanc.lt i o ho e he
      rw[gd e false (by omega)]
      exact(hl e (by omega)).2 (hcl i o ho ((hl i hsz).1 h1) e he)
     intro j hj
     have h3:=Ql hanc hcl' i o ho h2 j hj
     by_cases hjs:j<ops.size
     ·rw[gd j false hjs]at h3
      exact(hl j hjs).1 h3
     ·have:¬j<listed.size:=by omega
      simp[Array.getD,this]at h3
    have hol:ops.toList[i]?=some o:=by simpa using ho
    have hmem:o∈ops.toList:=List.mem_of_getElem? hol
    have hdo:=Cb (hdst o hmem)
    have hlist:∀(S:List Nat),(∀j,j∈S↔j=i∨j∈L∨j∈ex)→∀j,j<ops.size→((listed.setIfInBounds i true).getD j true=true↔j∈S):=by
     intro S hS j hj
     have hjl:j<listed.size:=by omega
     rw[hS]
     by_cases hji:j=i
     ·subst hji
      simp[Array.getD,hjl]
     ·have h3:(listed.setIfInBounds i true).getD j true=listed.getD j true:=getD_set_ne true (fun e=>hji e.symm)
      rw[h3,hl j hj]
      simp[hji]
    have hwant:∀ {g:Option (Nat×Bool)},g=none→o.guard=g→Region.wanted o (yielded ops a.tmps)=true:=by
     intro g hg e
     simp[Region.wanted,e,hg]
    by_cases hiQ:i∈qs ps D
    ·obtain⟨j,hj⟩:=List.mem_iff_getElem?.1 hiQ
     obtain⟨_,o2,ho2,hg,_,_⟩:=hF.q.pos j i hj
     rw[hol]at ho2;cases ho2
     unfold wpOpIn
     rw[ho]
     simp only
     rw[if_pos (hwant rfl hg)]
     refine dF hok hF hex hj hol (fun h=>hne (.inr h)) (fun k hk hkQ=>?_) hdo hs fun a' w' hs'=>?_
     ·rcases hancs k hk with h|h
      ·obtain⟨jk,hjk⟩:=List.mem_iff_getElem?.1 hkQ
       exact absurd h (hF.q.pos jk k hjk).1
      ·exact h
     ·refine ih ps L D ens τ (i :: ex) _ a' w' hB hM ?_ (fun k hk=>?_) (by simp only[List.length_cons];omega) (by simpa using hls) (fun k hk=>?_) (fun i' o' ho' hi' e he=>?_) hs'
      ·rw[List.nodup_append]at hnd ⊢
       refine⟨hnd.1,List.nodup_cons.2 ⟨fun h=>hne (.inr h),hnd.2.1⟩,fun x hx y hy=>?_⟩
       rcases List.mem_cons.1 hy with rfl|hy
       ·exact fun e=>hne (.inl (e▸hx))
       ·exact hnd.2.2 x hx y hy
      ·rcases List.mem_cons.1 hk with rfl|hk
       ·exact hiQ
       ·exact hex k hk
      ·rw[hlist (i :: (L++ex)) (fun j=>by simp) k hk]
       simp only[List.mem_cons,List.mem_append]
       constructor
       ·rintro (h|h|h)
        ·exact .inr (.inl h)
        ·exact .inl h
        ·exact .inr (.inr h)
       ·rintro (h|h|h)
        ·exact .inr (.inl h)
        ·exact .inl h
        ·exact .inr (.inr h)
      ·have:e∈L∨e∈ex:=by
        rcases hi' with h|h
        ·exact hcl i' o' ho' (.inl h) e he
        ·rcases List.mem_cons.1 h with rfl|h
         ·rw[ho]at ho';cases ho'
          exact hdir e he
         ·exact hcl i' o' ho' (.inr h) e he
       rcases this with h|h
       ·exact .inl h
       ·exact .inr (by simp[h])
    · -- no operation of the front
     have hnotback:¬p0≤i:=by
      intro hge
      have hb:=hcv.back i hge (by simpa using hsz)
      cases ps with
      | nil =>
       refine hf ⟨rfl,fun j hj=>?_⟩
       have h3:=hcv.Q j hj
       rcases hancs j (hb j (by omega)) with h|h
       ·obtain⟨jk,hjk⟩:=List.mem_iff_getElem?.1 hj
        exact absurd h (hF.q.pos jk j hjk).1
       ·exact h
      | cons p ps =>
       obtain⟨A,l⟩:=p
       obtain⟨_,_,_,h5,h6,_,_⟩:=Iz hB
       have h3:=hcv.lo (A,l) (by simp)
       simp only at h3
       rcases hancs l (hb l (by omega)) with h|h
       ·exact h5 h
       ·exact h6 (by rw[←H0 A l];exact hex l h)
     cases ps with
     | nil =>
      rcases hcv.all i (by omega) with h|h|h
      ·exact absurd (.inl h) hne
      ·exact absurd h hiQ
      ·cases h
     | cons p ps =>
      obtain⟨A,l⟩:=p
      obtain⟨_,⟨ol,hol2,hgl,hdl⟩,hAl,h5,h6,h7,hB2⟩:=Iz hB
      have hil:i=l:=by
       rcases hcv.all i (by omega) with h|h|h
       ·exact absurd (.inl h) hne
       ·exact absurd h hiQ
       ·simp only[List.map_cons,List.mem_cons,List.mem_map]at h
        rcases h with h|⟨p,hp,rfl⟩
        ·exact h
        ·rcases hancs l (h7 p hp) with h|h
         ·exact absurd h h5
         ·exact absurd (hex l h) (by rw[H0];exact h6)
      subst hil
      rw[hol]at hol2;cases hol2
      rw[H0]at hF hex hs hiQ
      obtain⟨hM1,o',ho',hL⟩:=hM
      rw[hol]at ho';cases ho'
      have hAex:∀j∈A,j∈ex:=fun j hj=>by
       rcases hancs j (hAl j hj) with h|h
       ·obtain⟨jk,hjk⟩:=List.mem_iff_getElem?.1 (show j∈A++qs ps D by simp[hj])
        exact absurd h (hF.q.pos jk j hjk).1
       ·exact h
      have hAn:A.Nodup∧(qs ps D).Nodup∧∀x∈A,∀y∈qs ps D,x≠y:=List.nodup_append.1 hF.q.nodup
      have hadd:Kp (ens.take A.length) τ=Ao ops.toList (My (A++qs ps D) ens) τ A.reverse:=by
       have:=XL (ops:=ops.toList) (en:=My (A++qs ps D) ens) (τ:=τ) (pre:=[]) (Q:=A) (ens:=ens.take A.length) (by have:=hF.len;simp only[List.length_append]at this;simp only[List.length_take];omega) (fun j i e h8 h9=>by
        have hjA:j<A.length:=(List.getElem?_eq_some_iff.1 h8).1
        obtain⟨o,e',_,h10,h11,h12,_⟩:=hF.at_ j i (by rw[List.getElem?_append_left hjA];exact h8)
        rw[List.getElem?_take,if_pos hjA,h10]at h9
        cases h9
        exact⟨h11,h12⟩)
       simpa[Ao] using this
      have hsplit:=qA (A:=A.reverse) hF.own hex (fun j hj=>hAex j (by simpa using hj))
      rw[←hadd]at hsplit
      have mf:∀j,j∈ex.filter (fun j=>!Aa j A.reverse)↔j∈ex∧j∉A:=fun j=>by
       rw[List.mem_filter]
       have:=Ag j A.reverse
       constructor
       ·rintro⟨h8,h9⟩;exact⟨h8,fun h10=>by rw[this.2 (by simpa using h10)]at h9;cases h9⟩
       ·rintro⟨h8,h9⟩
        refine⟨h8,?_⟩
        cases hmm:Aa j A.reverse with
        | false=>rfl
        | true=>exact absurd (by simpa using this.1 hmm) h9
      have hQ':∀j∈ex.filter (fun j=>!Aa j A.reverse),j∈qs ps D:=fun j hj=>by
       have:=hex j ((mf j).1 hj).1
       rcases List.mem_append.1 this with h|h
       ·exact absurd h ((mf j).1 hj).2
       ·exact h
      have hents:∀j∈qs ps D,∃(jk:Nat) (e:Nat×AV×List (Nat×Obj)),(qs ps D)[jk]?=some j∧(ens.drop A.length)[jk]?=some e∧Ak ops.toList j=some e.1∧My (A++qs ps D) ens j=⟨true,e.2.1,e.2.2⟩:=by
       intro j hj
       obtain⟨jk,hjk⟩:=List.mem_iff_getElem?.1 hj
       obtain⟨o,e,_,h10,h11,h12,_⟩:=hF.at_ (A.length+jk) j (by rw[List.getElem?_append_right (by omega),Nat.add_sub_cancel_left];exact hjk)
       exact⟨jk,e,hjk,by rw[List.getElem?_drop];exact h10,h11,h12⟩
      have hown0:Own ops.toList (My (A++qs ps D) ens) ⟨[],[]⟩ (A++qs ps D):=⟨hF.own.slot,fun _ _ _ _ _=>rfl,hF.own.name⟩
      have hexf:∀j∈ex.filter (fun j=>!Aa j A.reverse),j∈A++qs ps D:=fun j hj=>by simp[hQ' j hj]
      unfold wpOpIn
      rw[ho]
      simp only
      rw[if_pos (hwant rfl hgl)]
      refine hL _ _ hsplit ⟨fun s v hv=>?_,fun n o' hn=>?_⟩ a w _ _ hs fun τ' hN a' w' τ'' hext hs''=>?_
      ·rcases (u6 hown0 hexf s v).1 hv with ⟨j,hj,hd,rfl⟩|⟨_,hv⟩
       ·obtain⟨jk,e,_,h9,h10,h11⟩:=hents j (hQ' j hj)
        rw[hd]at h10
        cases h10
        rw[h11]
        exact⟨e.2.2,List.mem_of_getElem? h9⟩
       ·cases hv
      ·rcases (u7 hown0 hexf n o').1 hn with ⟨j,hj,hd⟩|⟨_,hv⟩
       ·obtain⟨jk,e,_,h9,h10,h11⟩:=hents j (hQ' j hj)
        rw[h11]at hd
        exact⟨e,List.mem_of_getElem? h9,FT hd⟩
       ·cases hv
      ·have hFlen:ex.length=A.length+(ex.filter (fun j=>!Aa j A.reverse)).length:=by
        have hsum:∀l:List Nat,l.length=(l.filter (fun j=>Aa j A.reverse)).length+(l.filter (fun j=>!Aa j A.reverse)).length:=by
         intro l
         induction l with
         | nil=>rfl
         | cons x r ihr =>
          simp only[List.filter_cons,List.length_cons]
          cases Aa x A.reverse<;>simp<;>omega
        rw[hsum ex]
        have hexn:=(List.nodup_append.1 hnd).2.1
        have h8:(ex.filter (fun j=>Aa j A.reverse)).length≤A.length:=Kq (hexn.filter _) fun x hx=>by
         have:=(Ag _ _).1 (List.mem_filter.1 hx).2
         simpa using this
        have h9:A.length≤(ex.filter (fun j=>Aa j A.reverse)).length:=Kq hAn.1 fun x hx=>List.mem_filter.2 ⟨hAex x hx,(Ag _ _).2 (by simpa using hx)⟩
        omega
       have hLe:∀x,(x∈i :: (A++L)∨x∈ex.filter (fun j=>!Aa j A.reverse))↔x=i∨x∈L∨x∈ex:=by
        intro x
        rw[mf]
        simp only[List.mem_cons,List.mem_append]
        constructor
        ·rintro ((h|h|h)|h)
         ·exact .inl h
         ·exact .inr (.inr (hAex x h))
         ·exact .inr (.inl h)
         ·exact .inr (.inr h.1)
        ·rintro (h|h|h)
         ·exact .inl (.inl h)
         ·exact .inl (.inr (.inr h))
         ·by_cases hx:x∈A
          ·exact .inl (.inr (.inl hx))
          ·exact .inr ⟨h,hx⟩
       refine ih ps (i :: (A++L)) D (ens.drop A.length) τ' (ex.filter fun j=>!Aa j A.reverse) _ a' w' hB2 hN ?_ hQ' (by simp only[List.length_cons,List.length_append];omega) (by simpa using hls) (fun k hk=>?_) (fun i' o' ho' hi' e he=>?_) ?_
       ·obtain⟨n1,n2,n3⟩:=List.nodup_append.1 hnd
        have hAL:∀x∈A,x∉L:=fun x hx hxL=>n3 x hxL x (hAex x hx) rfl
        rw[List.nodup_append]
        refine⟨List.nodup_cons.2 ⟨fun h=>?_,List.nodup_append.2 ⟨hAn.1,n1,fun x hx y hy e=>hAL x hx (e▸hy)⟩⟩,n2.filter _,fun x hx y hy e=>?_⟩
        ·rcases List.mem_append.1 h with h|h
         ·exact hne (.inr (hAex i h))
         ·exact hne (.inl h)
        ·subst e
         obtain⟨q1,q2⟩:=(mf x).1 hy
         rcases List.mem_cons.1 hx with rfl|hx
         ·exact hne (.inr q1)
         ·rcases List.mem_append.1 hx with hx|hx
          ·exact q2 hx
          ·exact n3 x hx x q1 rfl
       ·rw[hLe k,hlist (i :: (L++ex)) (fun j=>by simp) k hk]
        simp
       ·rw[hLe]
        have:e∈L∨e∈ex:=by
         rcases (hLe i').1 hi' with rfl|h
         ·rw[ho]at ho';cases ho'
          exact hdir e he
         ·exact hcl i' o' ho' h e he
        exact .inr this
       ·have hzz:∀j∈ex.filter (fun j=>!Aa j A.reverse),My (qs ps D) (ens.drop A.length) j=My (A++qs ps D) ens j:=fun j hj=>by
         obtain⟨jk,e,h8,h9,_,h11⟩:=hents j (hQ' j hj)
         rw[h11]
         exact dE hAn.2.1 jk j e h8 h9
        have hx:=u5 (ops:=ops.toList) (en:=My (qs ps D) (ens.drop A.length)) (τ:=τ') (ex.filter fun j=>!Aa j A.reverse)
        rw[Jc (en:=My (A++qs ps D) ens) (σ0:=⟨[],[]⟩) hzz]at hx
        exact SW (fun s=>by rw[hx.env,hext.env]) (fun n=>by rw[hx.objs,hext.objs]) hs''
end
section
variable {c:Cx} {R:Exit→Act→World→Prop} {k:List D0} {σ:St}
theorem IQ (hm:c.P.follows .mixedOrders=true) (hc:c.Ok) {id:Nat} {l:List Oper} (p0:Nat) (ps:List (List Nat×Nat)) (D:List Nat) (hchk:(A3s l (uR l)&&RM l (uR l) p0 [] ps D)=true) {ens:EN}
  (h:u4 c l (fun τ=>NY c R k l.toArray (l.drop p0) τ) ps D ens σ):Ev c R (.run (.region id l.toArray true)) k σ:=by
 intro h1 h2 a w hs
 simp only[Hv,Bz,List.all_eq_true]at h1
 simp only[Bool.and_eq_true]at hchk
 refine wpIn_region_any hm ?_
 have hk:∀τ,NY c R k l.toArray (l.drop p0) τ→∀a w,c.sat τ a w→wpListIn (FR c.r) 0 c.P l.toArray (RZ c R k) (l.toArray.toList.drop p0) a w:=fun τ hE a w hs=>hE (fun o ho=>h1 o (by simpa using List.mem_of_mem_drop ho)) h2 a w hs
 exact A0j (ops:=l.toArray) (anc:=uR l) hc (by simpa using h1) (A4q (by simpa using hchk.1)) hk l.toArray.size ps [] D ens σ [] (Array.replicate l.toArray.size false) a { w with drawn:=w.drawn+1 } (by simpa using hchk.2) (by simpa using h) (by simp) (by simp) (by simp) (by simp) (fun i hi=>by simp at hi;simp[Array.getD,hi]) (fun i o _ hi=>by simp at hi) (Y4 hs)
end
end
/- Operations that turn memory do so whatever else there is. -/
section
open Go Go.RowKit
section
variable {n:Nat} {ns:List Nat}
theorem F3 {m:Nat} (hn:n∈ns) (h:¬Aa m ns=true):¬m=n:=fun e=>h ((Ag _ _).2 (e▸hn))
mutual
theorem Sg (hn:n∈ns) {e:Ty} {xs:List e.den}:∀(x:AV),x.fgt ns=x→x.frz n e xs=x
 | .sr m e' lo hi,h=>by
  simp only[AV.fgt]at h
  split at h
  ·cases h
  ·rename_i hm;simp only[AV.frz,if_neg (F3 hn hm)]
 | .ep m e' i path off,h=>by
  simp only[AV.fgt]at h
  split at h
  ·cases h
  ·rename_i hm;simp only[AV.frz,if_neg (F3 hn hm)]
 | .nin m e' i len,h=>by
  simp only[AV.fgt]at h
  split at h
  ·cases h
  ·rename_i hm;simp only[AV.frz,if_neg (F3 hn hm)]
 | .ag l,h=>by
  simp only[AV.fgt,AV.ag.injEq]at h
  simp only[AV.frz,frzs_of_fgt hn l h]
 | .tup l,h=>by
  simp only[AV.fgt,AV.tup.injEq]at h
  simp only[AV.frz,frzs_of_fgt hn l h]
 | .p _ _,_=>rfl
 | .raw _,_=>rfl
 | .ip _ _,_=>rfl
 | .bp _ _ _,_=>rfl
 | .fn _,_=>rfl
 | .clo _ _,_=>rfl
 | .mp _,_=>rfl
 | .yl _,_=>rfl
 | .top,_=>rfl
theorem frzs_of_fgt (hn:n∈ns) {e:Ty} {xs:List e.den}:∀(l:List AV),AV.fgts ns l=l→AV.frzs n e xs l=l
 | [],_=>rfl
 | x :: r,h=>by
  simp only[AV.fgts,List.cons.injEq]at h
  simp only[AV.frzs,Sg hn x h.1,frzs_of_fgt hn r h.2]
end
mutual
theorem Sh (hn:n∈ns):∀(x:AV),x.fgt ns=x→x.drp n=x
 | .sr m e' lo hi,h=>by
  simp only[AV.fgt]at h
  split at h
  ·cases h
  ·rename_i hm;simp only[AV.drp,if_neg (F3 hn hm)]
 | .ep m e' i path off,h=>by
  simp only[AV.fgt]at h
  split at h
  ·cases h
  ·rename_i hm;simp only[AV.drp,if_neg (F3 hn hm)]
 | .nin m e' i len,h=>by
  simp only[AV.fgt]at h
  split at h
  ·cases h
  ·rename_i hm;simp only[AV.drp,if_neg (F3 hn hm)]
 | .ag l,h=>by
  simp only[AV.fgt,AV.ag.injEq]at h
  simp only[AV.drp,drps_of_fgt hn l h]
 | .tup l,h=>by
  simp only[AV.fgt,AV.tup.injEq]at h
  simp only[AV.drp,drps_of_fgt hn l h]
 | .p _ _,_=>rfl
 | .raw _,_=>rfl
 | .ip _ _,_=>rfl
 | .bp _ _ _,_=>rfl
 | .fn _,_=>rfl
 | .clo _ _,_=>rfl
 | .mp _,_=>rfl
 | .yl _,_=>rfl
 | .top,_=>rfl
theorem drps_of_fgt (hn:n∈ns):∀(l:List AV),AV.fgts ns l=l→AV.drps n l=l
 | [],_=>rfl
 | x :: r,h=>by
  simp only[AV.fgts,List.cons.injEq]at h
  simp only[AV.drps,Sh hn x h.1,drps_of_fgt hn r h.2]
end
end
section
variable {n:Nat} {ns tl:List Nat}
theorem Dr (htl:∀n,n∈tl→n∈ns) {m:Nat} (h:¬Aa m ns=true):¬Aa m tl=true:=fun h1=>h ((Ag _ _).2 (htl _ ((Ag _ _).1 h1)))
theorem gU (htl:∀n,n∈tl→n∈ns) {l:List Nat} (h:¬(l.any fun m=>Aa m ns)=true):¬(l.any fun m=>Aa m tl)=true:=fun h1=>by
 obtain⟨m,hm,h2⟩:=List.any_eq_true.1 h1
 exact h (List.any_eq_true.2 ⟨m,hm,(Ag _ _).2 (htl _ ((Ag _ _).1 h2))⟩)
mutual
theorem Si (htl:∀n,n∈tl→n∈ns):∀(x:AV),x.fgt ns=x→x.fgt tl=x
 | .sr m e' lo hi,h=>by
  simp only[AV.fgt]at h
  split at h
  ·cases h
  ·rename_i hm;simp only[AV.fgt,if_neg (Dr htl hm)]
 | .ep m e' i path off,h=>by
  simp only[AV.fgt]at h
  split at h
  ·cases h
  ·rename_i hm;simp only[AV.fgt,if_neg (Dr htl hm)]
 | .nin m e' i len,h=>by
  simp only[AV.fgt]at h
  split at h
  ·cases h
  ·rename_i hm;simp only[AV.fgt,if_neg (Dr htl hm)]
 | .bp m path off,h=>by
  simp only[AV.fgt]at h
  split at h
  ·cases h
  ·rename_i hm;simp only[AV.fgt,if_neg (Dr htl hm)]
 | .mp m,h=>by
  simp only[AV.fgt]at h
  split at h
  ·cases h
  ·rename_i hm;simp only[AV.fgt,if_neg (Dr htl hm)]
 | .yl m,h=>by
  simp only[AV.fgt]at h
  split at h
  ·cases h
  ·rename_i hm;simp only[AV.fgt,if_neg (Dr htl hm)]
 | .clo f cs,h=>by
  simp only[AV.fgt]at h
  split at h
  ·cases h
  ·rename_i hm;simp only[AV.fgt,if_neg (gU htl hm)]
 | .ag l,h=>by
  simp only[AV.fgt,AV.ag.injEq]at h
  simp only[AV.fgt,fgts_of_fgt htl l h]
 | .tup l,h=>by
  simp only[AV.fgt,AV.tup.injEq]at h
  simp only[AV.fgt,fgts_of_fgt htl l h]
 | .p _ _,_=>rfl
 | .raw _,_=>rfl
 | .ip _ _,_=>rfl
 | .fn _,_=>rfl
 | .top,_=>rfl
theorem fgts_of_fgt (htl:∀n,n∈tl→n∈ns):∀(l:List AV),AV.fgts ns l=l→AV.fgts tl l=l
 | [],_=>rfl
 | x :: r,h=>by
  simp only[AV.fgts,List.cons.injEq]at h
  simp only[AV.fgts,Si htl x h.1,fgts_of_fgt htl r h.2]
end
mutual
theorem Sj (hn:n∈ns) (htl:∀n,n∈tl→n∈ns):∀(x:AV),x.fgt ns=x→x.trn n tl=x
 | .sr m e' lo hi,h=>by
  simp only[AV.fgt]at h
  split at h
  ·cases h
  ·rename_i hm;simp only[AV.trn,if_neg (Dr htl hm)]
 | .ep m e' i path off,h=>by
  simp only[AV.fgt]at h
  split at h
  ·cases h
  ·rename_i hm;simp only[AV.trn,if_neg (Dr htl hm)]
 | .nin m e' i len,h=>by
  simp only[AV.fgt]at h
  split at h
  ·cases h
  ·rename_i hm;simp only[AV.trn];rw[if_neg fun h=>h.elim (F3 hn hm) (Dr htl hm)]
 | .bp m path off,h=>by
  simp only[AV.fgt]at h
  split at h
  ·cases h
  ·rename_i hm;simp only[AV.trn,if_neg (Dr htl hm)]
 | .mp m,h=>by
  simp only[AV.fgt]at h
  split at h
  ·cases h
  ·rename_i hm;simp only[AV.trn,if_neg (Dr htl hm)]
 | .yl m,h=>by
  simp only[AV.fgt]at h
  split at h
  ·cases h
  ·rename_i hm;simp only[AV.trn,if_neg (Dr htl hm)]
 | .clo f cs,h=>by
  simp only[AV.fgt]at h
  split at h
  ·cases h
  ·rename_i hm;simp only[AV.trn,if_neg (gU htl hm)]
 | .ag l,h=>by
  simp only[AV.fgt,AV.ag.injEq]at h
  simp only[AV.trn,trns_of_fgt hn htl l h]
 | .tup l,h=>by
  simp only[AV.fgt,AV.tup.injEq]at h
  simp only[AV.trn,trns_of_fgt hn htl l h]
 | .p _ _,_=>rfl
 | .raw _,_=>rfl
 | .ip _ _,_=>rfl
 | .fn _,_=>rfl
 | .top,_=>rfl
theorem trns_of_fgt (hn:n∈ns) (htl:∀n,n∈tl→n∈ns):∀(l:List AV),AV.fgts ns l=l→AV.trns n tl l=l
 | [],_=>rfl
 | x :: r,h=>by
  simp only[AV.fgts,List.cons.injEq]at h
  simp only[AV.trns,Sj hn htl x h.1,trns_of_fgt hn htl r h.2]
end
end
def Jf:AV→Bool
 | .raw _=>true
 | .p _ _=>true
 | _=>false
def Kr:Obj→Bool
 | .arr _ _ _=>true
 | .box _ _ fs=>fs.all Jf
 | _=>false
theorem Sk {n:Nat} {e:Ty} {xs:List e.den}:∀fs:List AV,fs.all Jf=true→AV.frzs n e xs fs=fs
 | [],_=>rfl
 | x :: r,h=>by
  rw[List.all_cons,Bool.and_eq_true]at h
  simp only[AV.frzs,Sk r h.2]
  cases x<;>first|rfl|(have:=h.1;simp[Jf]at this)
theorem Sl {n:Nat}:∀fs:List AV,fs.all Jf=true→AV.drps n fs=fs
 | [],_=>rfl
 | x :: r,h=>by
  rw[List.all_cons,Bool.and_eq_true]at h
  simp only[AV.drps,Sl r h.2]
  cases x<;>first|rfl|(have:=h.1;simp[Jf]at this)
theorem qC {n:Nat} {e:Ty} {xs:List e.den} {o:Obj} (h:Kr o=true):Obj.frz n e xs o=o:=by
 cases o with
 | box et st fs=>simp only[Obj.frz,Sk fs h]
 | arr et e' ys=>rfl
 | _=>cases h
theorem qD {n:Nat} {o:Obj} (h:Kr o=true):Obj.drp n o=o:=by
 cases o with
 | box et st fs=>simp only[Obj.drp,Sl fs h]
 | arr et e' ys=>rfl
 | _=>cases h
theorem Sm {hs:List Nat}:∀fs:List AV,fs.all Jf=true→AV.fgts hs fs=fs
 | [],_=>rfl
 | x :: r,h=>by
  rw[List.all_cons,Bool.and_eq_true]at h
  simp only[AV.fgts,Sm r h.2]
  cases x<;>first|rfl|(have:=h.1;simp[Jf]at this)
theorem VW {hs:List Nat} {o:Obj} (h:Kr o=true):Obj.fgt hs o=o:=by
 cases o with
 | box et st fs=>simp only[Obj.fgt,Sm fs h]
 | arr et e' ys=>rfl
 | _=>cases h
theorem Sn {n:Nat} {hs:List Nat}:∀fs:List AV,fs.all Jf=true→AV.trns n hs fs=fs
 | [],_=>rfl
 | x :: r,h=>by
  rw[List.all_cons,Bool.and_eq_true]at h
  simp only[AV.trns,Sn r h.2]
  cases x<;>first|rfl|(have:=h.1;simp[Jf]at this)
theorem VX {n:Nat} {hs:List Nat} {o:Obj} (h:Kr o=true):Obj.trn n hs o=o:=by
 cases o with
 | box et st fs=>simp only[Obj.trn,Sn fs h]
 | arr et e' ys=>rfl
 | _=>cases h
structure HL (X σ:St) (ns:List Nat):Prop where
 env:∀s v,lk s X.env=some v→v.fgt ns=v
 arr:∀n o,lk n X.objs=some o→Kr o=true
 new:∀n o,lk n X.objs=some o→lk n σ.objs=none
 nm:∀n o,lk n X.objs=some o→n∉ns
section
variable {σ σ' X:St} {ns:List Nat}
theorem MO.lkn (hx:MO σ σ' X) (ha:HL X σ ns) {n:Nat} (hn:n∈ns):lk n σ'.objs=lk n σ.objs:=by
 rw[hx.objs]
 cases hX:lk n X.objs with
 | none=>rfl
 | some o=>exact absurd hn (ha.nm n o hX)
theorem MO.obs (hx:MO σ σ' X) (ha:HL X σ ns):YU σ σ':=by
 intro n o hn
 rw[hx.objs]
 cases hX:lk n X.objs with
 | none=>exact hn
 | some o'=>rw[ha.new n o' hX]at hn;cases hn
theorem A0k {n:Nat} (hx:MO σ σ' X) (ha:HL X σ ns) (hn:n∈ns):MO (frz n σ) (frz n σ') X∧HL X (frz n σ) ns:=by
 unfold frz
 split
 ·exact⟨hx,ha⟩
 have core:∀(e:Ty) (xs:List e.den),MO ⟨DA n e xs σ.env,A5 n e xs (Ua n σ.objs)⟩ ⟨DA n e xs σ'.env,A5 n e xs (Ua n σ'.objs)⟩ X∧HL X ⟨DA n e xs σ.env,A5 n e xs (Ua n σ.objs)⟩ ns:=by
  intro e xs
  refine⟨⟨fun s=>?_,fun m=>?_⟩,ha.env,ha.arr,fun m o hm=>?_,ha.nm⟩
  ·simp only[Lk,hx.env]
   cases hX:lk s X.env with
   | none=>rfl
   | some v=>simp[Sg hn v (ha.env s v hX)]
  ·simp only[Ca,PD]
   by_cases hm:m=n
   ·subst hm
    cases hX:lk m X.objs with
    | none=>simp
    | some o=>exact absurd hn (ha.nm m o hX)
   ·simp only[if_neg hm,hx.objs]
    cases hX:lk m X.objs with
    | none=>rfl
    | some o=>exact congrArg some (qC (ha.arr m o hX))
  ·simp only[Ca,PD]
   split
   ·rfl
   ·rw[ha.new m o hm];rfl
 rw[hx.lkn ha hn]
 unfold cD
 split
 ·exact core _ _
 ·rename_i et iet k e xs hl
  exact core (.agg (.prod k (.slice e))) xs
 ·exact⟨hx,ha⟩
theorem So:∀ {l:List Nat} {σ σ':St},MO σ σ' X→HL X σ ns→(∀n∈l,n∈ns)→MO (CZ l σ) (CZ l σ') X∧HL X (CZ l σ) ns
 | [],_,_,hx,ha,_=>⟨hx,ha⟩
 | n :: l,σ,σ',hx,ha,h=>by
  obtain⟨h1,h2⟩:=A0k hx ha (h n (by simp))
  have:=So (l:=l) h1 h2 fun m hm=>h m (by simp[hm])
  exact this
/-! ### Operands -/
def dG (σ σ':St) (xs:List Operand):Prop:=∀x∈xs,Av σ' x=Av σ x
theorem Rh (hx:MO σ σ' X) {xs:List Operand} (h:∀t∈xs.filterMap N9,lk t X.env=none):dG σ σ' xs:=by
 intro x hm
 cases x with
 | tmp t =>
  simp only[Av,hx.env]
  rw[h t (List.mem_filterMap.2 ⟨_,hm,rfl⟩)]
  rfl
 | const v=>rfl
 | global g=>rfl
 | func f=>rfl
theorem Ks:∀ {l:List (Nat×Operand)},dG σ σ' (l.map (·.2))→DB σ' l=DB σ l
 | [],_=>rfl
 | (i,x) :: r,h=>by
  simp only[DB]
  rw[h x (by simp),Ks (fun y hy=>h y (by simp only[List.map_cons,List.mem_cons];exact .inr hy))]
theorem OJ:∀ {l:List (Nat×Operand)},dG σ σ' (l.map (·.2))→Ep σ' l=Ep σ l
 | [],_=>rfl
 | (i,x) :: r,h=>by
  simp only[Ep]
  rw[h x (by simp),OJ (fun y hy=>h y (by simp only[List.map_cons,List.mem_cons];exact .inr hy))]
theorem dH (hx:MO σ σ' X) (ha:HL X σ ns) (n:Nat):CX (lk n σ'.objs)=CX (lk n σ.objs):=by
 rw[hx.objs]
 cases hX:lk n X.objs with
 | none=>rfl
 | some o =>
  rw[ha.new n o hX]
  have:=ha.arr n o hX
  cases o<;>first|rfl|cases this
theorem ZH (hx:MO σ σ' X) (ha:HL X σ ns) {op:Op} (h:dG σ σ' op.operands.toList):B4 σ' op=B4 σ op:=by
 cases op<;>simp only[B4]
 case buildSlice t n parts =>
  exact Ks (fun x hx=>h x (by simpa[Op.operands] using hx))
 case build t parts =>
  exact OJ (fun x hx=>h x (by simpa[Op.operands] using hx))
 case store t x y =>
  rw[h x (by simp[Op.operands]),h y (by simp[Op.operands])]
  unfold CK
  split
  ·rw[dH hx ha]
  ·rfl
 case mapUpdate t m x y =>
  rw[h m (by simp[Op.operands]),h x (by simp[Op.operands]),h y (by simp[Op.operands])]
def I0 (σ:St):Option AV→Option AV→List Nat
 | some (.sr n _ _ _),some (.sr m _ _ _)=>if CX (lk n σ.objs)=true then [n,m] else [n]
 | some (.sr n _ _ _),_=>[n]
 | some (.nin n _ _ _),_=>[n]
 | some (.raw _),some (.sr m _ _ _)=>if CX (lk m σ.objs)=true then [m] else []
 | _,_=>[]
def ZI (σ:St):Option AV→Option AV→List Nat
 | some (.ep n _ _ _ _),some (.sr m _ _ _)=>if CX (lk n σ.objs)=true then [n,m] else []
 | _,_=>[]
def XM (σ:St):Op→List Nat
 | .call c=>match c.callee,c.args.toList with
  | .builtin .append,[x,y]=>I0 σ (Av σ x) (Av σ y)
  | _,_=>[]
 | .store _ x y=>ZI σ (Av σ x) (Av σ y)
 | _=>[]
theorem vD {n:Nat} {e:Ty} {lo hi:Nat} {v:AV}:n∈I0 σ (some (.sr n e lo hi)) (some v):=by
 cases v<;>first|(simp[I0];done)|(simp only[I0];split<;>simp)
theorem gV (hx:MO σ σ' X) (ha:HL X σ ns) {tl:List Nat} (htl:∀n,n∈tl→n∈ns) {d nn:Nat} {v:AV} {ob:Obj} (hd:lk d X.env=none) (hnn:lk nn X.objs=none) :
  MO ⟨(d,v) :: B7 tl σ.env,(nn,ob) :: Au tl tl σ.objs⟩ ⟨(d,v) :: B7 tl σ'.env,(nn,ob) :: Au tl tl σ'.objs⟩ X:=by
 refine⟨fun s=>?_,fun m=>?_⟩
 ·simp only[lk]
  by_cases hs:s=d
  ·subst hs;rw[if_pos rfl,if_pos rfl,hd];rfl
  ·rw[if_neg hs,if_neg hs,EW,EW,hx.env]
   cases hX:lk s X.env with
   | none=>rfl
   | some w=>simp[Si htl w (ha.env s w hX)]
 ·simp only[lk]
  by_cases hm:m=nn
  ·subst hm;rw[if_pos rfl,if_pos rfl,hnn];rfl
  ·rw[if_neg hm,if_neg hm,Bp,Bp,hx.objs]
   cases hX:lk m X.objs with
   | none=>rfl
   | some w =>
    rw[if_neg fun h=>ha.nm m w hX (htl _ ((Ag _ _).1 h))]
    exact congrArg some (VW (ha.arr m w hX))
theorem gW (hx:MO σ σ' X) (ha:HL X σ ns) {n:Nat} {tl:List Nat} (hn:n∈ns) (htl:∀n,n∈tl→n∈ns) {en:List (Nat×AV)} {new:List (Nat×Obj)} (hd:∀s v,lk s en=some v→lk s X.env=none) (hnn:∀m o,lk m new=some o→lk m X.objs=none) :
  MO ⟨en++Dy n tl σ.env,new++CO n tl σ.objs⟩ ⟨en++Dy n tl σ'.env,new++CO n tl σ'.objs⟩ X:=by
 refine⟨fun s=>?_,fun m=>?_⟩
 ·simp only[Ax]
  cases hs:lk s en with
  | some v=>rw[hd s v hs];rfl
  | none =>
   rw[E9,E9,hx.env]
   cases hX:lk s X.env with
   | none=>rfl
   | some w=>simp[Sj hn htl w (ha.env s w hX)]
 ·simp only[Ax]
  cases hm:lk m new with
  | some o=>rw[hnn m o hm];rfl
  | none =>
   rw[DD,DD,hx.objs]
   cases hX:lk m X.objs with
   | none=>rfl
   | some w =>
    rw[if_neg fun h=>ha.nm m w hX (by
     rcases List.mem_cons.1 ((Ag _ _).1 h) with rfl|h
     ·exact hn
     ·exact htl _ h)]
    exact congrArg some (VX (ha.arr m w hX))
theorem XN {n:Nat} {o o':Obj} (hx:MO σ σ' X) (ha:HL X σ ns) (hn:lk n σ.objs=some o) {env env':List (Nat×AV)} (he:∀s,lk s env'=(lk s X.env).or (lk s env)):MO ⟨env,upd n o' σ.objs⟩ ⟨env',upd n o' σ'.objs⟩ X:=by
 refine⟨he,fun m=>?_⟩
 simp only[Fz]
 have hX:lk n X.objs=none:=by
  cases h:lk n X.objs with
  | none=>rfl
  | some u=>rw[ha.new n u h]at hn;cases hn
 by_cases hm:m=n
 ·subst hm
  rw[if_pos rfl,if_pos rfl,hx.objs,hX];rfl
 ·rw[if_neg hm,if_neg hm,hx.objs]
theorem MO.some_lk (hx:MO σ σ' X) (ha:HL X σ ns) {n:Nat} {o:Obj} (h:lk n σ.objs=some o):lk n σ'.objs=some o:=hx.obs ha n o h
theorem qE {tb:Tb} {op:Op} {d:Option Nat} {vc:Prop} {τ:St} (hx:MO σ σ' X) (ha:HL X σ ns) (hops:dG σ σ' op.operands.toList) (happ:∀n∈XM σ op,n∈ns) (hd:∀t,d=some t→lk t X.env=none) (hXt:∀n,(∃u,lk n τ.objs=some u)→lk n X.objs=none) (h:E7 tb σ d op=some (vc,τ)) :
  (∃τ',E7 tb σ' d op=some (vc,τ')∧MO τ τ' X)∧∀k,aq tb σ' k op=none:=by
 have hobs:=hx.obs ha
 cases op<;>simp only[E7]at h<;>try(cases h;done)
 case store t x y =>
  refine⟨?_,fun _=>rfl⟩
  simp only[E7]
  have happ:∀n∈ZI σ (Av σ x) (Av σ y),n∈ns:=happ
  rw[hops x (by simp[Op.operands]),hops y (by simp[Op.operands])]
  cases d with
  | some d=>simp[DZ]at h
  | none =>
   simp only[DZ]at h ⊢
   generalize Av σ x=X1 at h happ ⊢
   generalize Av σ y=Y1 at h happ ⊢
   unfold G9 at h ⊢
   split at h
   ·rename_i ti n path off v hti
    try simp only
    unfold DX at h ⊢
    split at h
    ·rename_i et st fs hl
     rw[hx.some_lk ha hl]
     try simp only
     unfold Em at h ⊢
     split at h
     ·rename_i u fs' h1 h2
      try rw[h1,h2]
      try simp only
      split at h
      ·rename_i hc
       rw[if_pos hc]
       cases h
       exact⟨_,rfl,XN hx ha hl hx.env⟩
      ·cases h
     ·cases h
    ·cases h
   ·rename_i ti n e i path off v hti
    try simp only
    unfold DY at h ⊢
    split at h
    ·rename_i et e' xs hl
     rw[hx.some_lk ha hl]
     try simp only
     cases hv:Ml false σ ti.ty v with
     | none=>rw[hv]at h;unfold EH at h;split at h<;>first|(cases h;done)|(rename_i h2;cases h2)
     | some w =>
      rw[Er hobs hv]
      rw[hv]at h
      unfold EH at h ⊢
      split at h
      ·rename_i ys w' h1 h2
       cases h2
       try rw[h1]
       try simp only
       unfold FQ at h ⊢
       split at h
       ·rename_i z h3
        try rw[h3]
        try simp only
        split at h
        ·rename_i hc
         rw[if_pos hc]
         cases h
         exact⟨_,rfl,XN hx ha hl hx.env⟩
        ·cases h
       ·cases h
      ·cases h
    ·rename_i et iet k e1 xs j hl
     rw[hx.some_lk ha hl]
     try simp only
     split at h
     ·rename_i m E hi
      try simp only
      split at h
      ·rename_i hc
       rw[if_pos hc]
       unfold KY at h ⊢
       split at h
       ·rename_i hc2
        rw[if_pos hc2]
        unfold KW at h ⊢
        split at h
        ·rename_i jet e2 ys hm
         rw[hx.some_lk ha hm]
         try simp only
         split at h
         ·rename_i hc3
          rw[if_pos hc3]
          unfold JQ at h ⊢
          split at h
          ·rename_i zs hz
           try rw[hz]
           try simp only
           cases h
           have hnm:∀q,q∈[n,m]→q∈ns:=fun q hq=>happ q (by simp only[ZI,hl,CX,if_true];exact hq)
           refine⟨_,rfl,gW (en:=[]) (new:=[(n,_)]) hx ha (hnm n (by simp)) (fun q hq=>hnm q (by simp at hq;simp[hq])) (fun s v h=>by cases h) (fun q o hq=>hXt q ⟨o,?_⟩)⟩
           simp only[lk]at hq ⊢
           split at hq
           ·rename_i e1;cases hq;rw[if_pos e1]
           ·cases hq
          ·cases h
         ·cases h
        ·cases h
       ·cases h
      ·cases h
     ·cases h
    ·cases h
   ·cases h
 case mapUpdate t m x y =>
  refine⟨?_,fun _=>rfl⟩
  simp only[E7]
  rw[hops m (by simp[Op.operands]),hops x (by simp[Op.operands]),hops y (by simp[Op.operands])]
  cases d with
  | some d=>simp[DZ]at h
  | none =>
   simp only[DZ]at h ⊢
   generalize Av σ m=M1 at h ⊢
   generalize Av σ x=X1 at h ⊢
   generalize Av σ y=Y1 at h ⊢
   unfold JS at h ⊢
   split at h
   ·try simp only
    unfold QQX at h ⊢
    split at h
    ·rename_i kt vt l hl
     rw[hx.some_lk ha hl]
     try simp only
     split at h
     ·rename_i hc
      rw[if_pos hc]
      unfold GC at h ⊢
      split at h
      ·rename_i k1 v1 h1 h2
       rw[Er hobs h1,Er hobs h2]
       try simp only
       split at h
       ·rename_i hc2
        rw[if_pos hc2]
        cases h
        exact⟨_,rfl,XN hx ha hl hx.env⟩
       ·cases h
      ·cases h
     ·cases h
    ·cases h
   ·cases h
 case call cl =>
  obtain⟨callee,⟨args⟩,⟨argTypes⟩⟩:=cl
  cases callee with
  | value g=>simp[Cp]at h
  | invoke r m=>simp[Cp]at h
  | builtin b =>
   simp only[Cp]at h
   unfold DK at h
   split at h
   ·rename_i x y t u
    have hx1:Av σ' x=Av σ x:=hops x (by simp[Op.operands,Call.operands])
    have hy1:Av σ' y=Av σ y:=hops y (by simp[Op.operands,Call.operands])
    have happ:∀n∈I0 σ (Av σ x) (Av σ y),n∈ns:=fun n hn=>happ n (by simpa[XM] using hn)
    unfold Co at h
    split at h
    ·rename_i n e hi v hxv hyv
     rw[hxv,hyv]at happ
     refine⟨?_,fun k=>by simp[aq,Cg,Cn,CP,hx1,hxv]⟩
     simp only[E7,Cp,DK,Co,hx1,hxv,hy1,hyv]
     split at h
     ·rename_i d' 
      have hd':=hd d' rfl
      have hns:n∈ns:=happ n vD
      try simp only
      split at h
      ·rename_i htu
       rw[if_pos htu]
       unfold EI at h ⊢
       split at h
       ·rename_i e2 o2 el b2 htb
        try rw[htb]
        try simp only
        split at h
        ·rename_i hee
         rw[if_pos hee]
         unfold CY at h ⊢
         split at h
         ·rename_i ti et e' xs h1 hl
          try rw[h1]
          try rw[hx.some_lk ha hl]
          try simp only
          split at h
          ·rename_i hel
           rw[if_pos hel]
           unfold Eo at h ⊢
           split at h
           ·rename_i zs ys h2 h3
            try rw[h2]
            rw[Nz hobs h3]
            try simp only
            cases h
            refine⟨_,rfl,⟨fun s=>?_,fun m=>?_⟩⟩
            ·simp only[lk]
             by_cases hs:s=d'
             ·subst hs;rw[if_pos rfl,if_pos rfl,hd'];rfl
             ·rw[if_neg hs,if_neg hs,Ip,Ip,hx.env]
              cases hX:lk s X.env with
              | none=>rfl
              | some w=>simp[Sh hns w (ha.env s w hX)]
            ·simp only[Fz,Bl]
             have hXn:lk n X.objs=none:=by
              cases hX:lk n X.objs with
              | none=>rfl
              | some w=>exact absurd hns (ha.nm n w hX)
             by_cases hm:m=n
             ·subst hm
              rw[if_pos rfl,if_pos rfl,hx.objs,hXn];rfl
             ·rw[if_neg hm,if_neg hm,hx.objs]
              cases hX:lk m X.objs with
              | none=>rfl
              | some w=>exact congrArg some (qD (ha.arr m w hX))
           ·cases h
          ·cases h
         ·rename_i ti et iet k e' xs h1 hl
          try rw[h1]
          try rw[hx.some_lk ha hl]
          try simp only
          split at h
          ·rename_i hc
           rw[if_pos hc]
           unfold QT at h ⊢
           split at h
           ·rename_i m E hi'
            try simp only
            unfold KX at h ⊢
            split at h
            ·rename_i et2 iet2 k2 e3 ys hm
             rw[hx.some_lk ha hm]
             try simp only
             split at h
             ·rename_i hc2
              rw[if_pos hc2]
              unfold JR at h ⊢
              split at h
              ·rename_i zs hz
               try rw[hz]
               try simp only
               cases h
               refine⟨_,rfl,gV hx ha (fun q hq=>happ q (by simp only[I0,hl,CX,if_true];exact hq)) hd' ?_⟩
               cases hX:lk n X.objs with
               | none=>rfl
               | some w=>exact absurd hns (ha.nm n w hX)
              ·cases h
             ·cases h
            ·cases h
           ·cases h
          ·cases h
         ·cases h
        ·cases h
       ·cases h
      ·cases h
     ·cases h
    ·rename_i n e i len v hxv hyv
     rw[hxv,hyv]at happ
     refine⟨?_,fun k=>by simp[aq,Cg,Cn,CP,hx1,hxv]⟩
     simp only[E7,Cp,DK,Co,hx1,hxv,hy1,hyv]
     split at h
     ·rename_i d' 
      have hd':=hd d' rfl
      have hns:n∈ns:=happ n (by simp[I0])
      try simp only
      split at h
      ·rename_i htu
       rw[if_pos htu]
       unfold MT at h ⊢
       split at h
       ·rename_i e2 o2 el b2 htb
        try rw[htb]
        try simp only
        split at h
        ·rename_i hee
         rw[if_pos hee]
         unfold Nf at h ⊢
         split at h
         ·rename_i ti et iet k e1 xs h1 hl
          try rw[h1]
          try rw[hx.some_lk ha hl]
          try simp only
          split at h
          ·rename_i hc
           rw[if_pos hc]
           unfold KV at h ⊢
           split at h
           ·rename_i ys h3
            rw[Nz hobs h3]
            try simp only
            split at h
            ·rename_i hdn
             have hXd:lk d' X.objs=none:=by
              refine hXt d' ?_
              cases h
              exact⟨_,by simp only[lk,if_true];rfl⟩
             have hdn':(lk d' σ'.objs).isNone=true:=by rw[hx.objs,hXd];exact hdn
             rw[if_pos hdn']
             cases h
             refine⟨_,rfl,gW (en:=[(d',_)]) (new:=[(d',_),(n,_)]) hx ha hns (fun q hq=>by cases hq) (fun s v h=>?_) (fun q o hq=>?_)⟩
             ·simp only[lk]at h
              split at h
              ·rename_i e1;rw[e1];exact hd'
              ·cases h
             ·simp only[lk]at hq
              split at hq
              ·rename_i e1;rw[e1];exact hXd
              ·split at hq
               ·rename_i e1
                rw[e1]
                cases hX:lk n X.objs with
                | none=>rfl
                | some w=>exact absurd hns (ha.nm n w hX)
               ·cases hq
            ·cases h
           ·cases h
          ·cases h
         ·cases h
        ·cases h
       ·cases h
      ·cases h
     ·cases h
    ·rename_i v hxv hyv
     rw[hxv,hyv]at happ
     split at h
     ·rename_i d' 
      have hd':=hd d' rfl
      split at h
      ·rename_i htu
       unfold Wn at h
       split at h
       ·rename_i m E hi' t1 offs el b hti
        unfold Nh at h
        split at h
        ·rename_i ti et2 iet k e ys h1 hm
         split at h
         ·rename_i hc
          unfold Ng at h
          split at h
          ·rename_i hc2
           have hXd:lk d' X.objs=none:=by
            refine hXt d' ?_
            cases h
            exact⟨_,by simp only[lk,if_true];rfl⟩
           have hdn':(lk d' σ'.objs).isNone=true:=by rw[hx.objs,hXd];exact hc2.1
           have hm':=hx.some_lk ha hm
           refine⟨?_,fun k0=>by simp[aq,Cg,Cn,CP,hx1,hxv,hy1,hyv,htu,EF,RF,hm',CX];split<;>simp[El]⟩
           cases h
           simp only[E7,Cp,DK,Co,hx1,hxv,hy1,hyv,Wn,Nh,Ng]
           rw[if_pos htu,hti]
           simp only
           rw[hm',h1]
           simp only
           rw[if_pos hc,if_pos ⟨hdn',hc2.2⟩]
           exact⟨_,rfl,gV hx ha (fun q hq=>happ q (by simp only[I0,hm,CX,if_true];exact hq)) hd' hXd⟩
          ·cases h
         ·cases h
        ·cases h
       ·cases h
      ·cases h
     ·cases h
    ·cases h
   ·cases h
end
end
/- What turns memory in the midst of a statement: a step, a call. -/
section
open Go Go.RowKit
def vE (o:Obj):Bool:=Kr o
def Jg (o:Oper):EN→Bool
 | []=>true
 | (d,_,_) :: r=>!Aa d (GL o.op)&&!Aa d o.dst.toList&&Jg o r
def Ri (ns:List Nat) (σ:List (Nat×Obj)):List (Nat×Obj)→Bool
 | []=>true
 | (n,o) :: r=>(lk n σ).isNone&&!Aa n ns&&vE o&&Ri ns σ r
def IR (ns:List Nat) (σ:List (Nat×Obj)):EN→Bool
 | []=>true
 | (_,_,obs) :: r=>Ri ns σ obs&&IR ns σ r
def XO (τ:List (Nat×Obj)):List (Nat×Obj)→Bool
 | []=>true
 | (n,_) :: r=>(lk n τ).isNone&&XO τ r
def OK (τ:List (Nat×Obj)):EN→Bool
 | []=>true
 | (_,_,obs) :: r=>XO τ obs&&OK τ r
def I1 (ns:List Nat):EN→EN
 | []=>[]
 | (d,v,obs) :: r=>(d,v.fgt ns,obs) :: I1 ns r
def tn (σ:St) (o:Op):List Nat:=B4 σ o++XM (CZ (B4 σ o) σ) o
theorem EK {o:Oper}:∀ {ens:EN},Jg o ens=true→∀e∈ens,e.1∉GL o.op∧o.dst≠some e.1
 | [],_,e,he=>by cases he
 | (d,v,obs) :: r,h,e,he=>by
  simp only[Jg,Bool.and_eq_true,Bool.not_eq_true']at h
  rcases List.mem_cons.1 he with rfl|he
  ·refine⟨fun hm=>(by rw[(Ag _ _).2 hm]at h;cases h.1.1),fun hm=>?_⟩
   have:=h.1.2
   rw[hm]at this
   simp[Aa]at this
  ·exact EK h.2 e he
theorem OL {ns:List Nat} {σ:List (Nat×Obj)}:∀ {l:List (Nat×Obj)},Ri ns σ l=true→∀p∈l,lk p.1 σ=none∧p.1∉ns∧vE p.2=true
 | [],_,e,he=>by cases he
 | (n,o) :: r,h,p,hp=>by
  simp only[Ri,Bool.and_eq_true,Bool.not_eq_true',Option.isNone_iff_eq_none]at h
  rcases List.mem_cons.1 hp with rfl|hp
  ·exact⟨h.1.1.1,fun hm=>(by rw[(Ag _ _).2 hm]at h;cases h.1.1.2),h.1.2⟩
  ·exact OL h.2 p hp
theorem FC {ns:List Nat} {σ:List (Nat×Obj)}:∀ {ens:EN},IR ns σ ens=true→∀e∈ens,∀p∈e.2.2,lk p.1 σ=none∧p.1∉ns∧vE p.2=true
 | [],_,e,he=>by cases he
 | (d,v,obs) :: r,h,e,he=>by
  simp only[IR,Bool.and_eq_true]at h
  rcases List.mem_cons.1 he with rfl|he
  ·exact OL h.1
  ·exact FC h.2 e he
theorem Qm {τ:List (Nat×Obj)}:∀ {l:List (Nat×Obj)},XO τ l=true→∀p∈l,lk p.1 τ=none
 | [],_,e,he=>by cases he
 | (n,o) :: r,h,p,hp=>by
  simp only[XO,Bool.and_eq_true,Option.isNone_iff_eq_none]at h
  rcases List.mem_cons.1 hp with rfl|hp
  ·exact h.1
  ·exact Qm h.2 p hp
theorem Jh {τ:List (Nat×Obj)}:∀ {ens:EN},OK τ ens=true→∀e∈ens,∀p∈e.2.2,lk p.1 τ=none
 | [],_,e,he=>by cases he
 | (d,v,obs) :: r,h,e,he=>by
  simp only[OK,Bool.and_eq_true]at h
  rcases List.mem_cons.1 he with rfl|he
  ·exact Qm h.1
  ·exact Jh h.2 e he
theorem Mz {ns:List Nat}:∀ {ens:EN},I1 ns ens=ens→∀e∈ens,e.2.1.fgt ns=e.2.1
 | [],_,e,he=>by cases he
 | (d,v,obs) :: r,h,e,he=>by
  simp only[I1,List.cons.injEq,Prod.mk.injEq,and_true,true_and]at h
  rcases List.mem_cons.1 he with rfl|he
  ·exact h.1
  ·exact Mz h.2 e he
section
variable {c:Cx} {o:Oper} {σ:St} {ens:EN} {N:St→Prop}
theorem vG {X:St} {ns:List Nat} (hin:XIn ens X) (hn:IR ns σ.objs ens=true) (hf:I1 ns ens=ens):HL X σ ns:=by
 refine⟨fun s v hs=>?_,fun n o ho=>?_,fun n o ho=>?_,fun n o ho=>?_⟩
 ·obtain⟨obs,hm⟩:=hin.env s v hs
  exact Mz hf _ hm
 all_goals
  obtain⟨e,he,hp⟩:=hin.objs n o ho
  have:=FC hn e he _ hp
 ·exact this.2.2
 ·exact this.1
 ·exact this.2.1
theorem qF (hc:c.Ok) {τ:St} {vc:Prop} (ns:List Nat) (h:Fq c.tb o σ=some (vc,τ)) (hns:tn σ o.op=ns) (hsl:Jg o ens=true) (hn:IR ns σ.objs ens=true) (hfr:OK τ.objs ens=true) (hf:I1 ns ens=ens) (hd:HD c.nt o=true) (hvc:vc) (hN:N τ):XK c o σ ens N:=by
 subst hns
 intro X σ' hx hin a w next Q hs hk
 have ha:=vG hin hn hf
 have hXs:∀t∈GL o.op,lk t X.env=none:=fun t ht=>by
  cases hX:lk t X.env with
  | none=>rfl
  | some v=>obtain⟨obs,hm⟩:=hin.env t v hX;exact absurd ht (EK hsl _ hm).1
 have hXd:∀t,o.dst=some t→lk t X.env=none:=fun t ht=>by
  cases hX:lk t X.env with
  | none=>rfl
  | some v=>obtain⟨obs,hm⟩:=hin.env t v hX;exact absurd ht (EK hsl _ hm).2
 have hXt:∀n,(∃u,lk n τ.objs=some u)→lk n X.objs=none:=fun n hu=>by
  cases hX:lk n X.objs with
  | none=>rfl
  | some v =>
   obtain⟨e,he,hp⟩:=hin.objs n v hX
   obtain⟨u,hu⟩:=hu
   rw[Jh hfr e he _ hp]at hu;cases hu
 have htk:=ZH hx ha (op:=o.op) (Rh hx hXs)
 obtain⟨hx1,ha1⟩:=So (l:=B4 σ o.op) hx ha (fun m hm=>by simp[tn,hm])
 have key:∃τ',Fq c.tb o σ'=some (vc,τ')∧MO τ τ' X:=by
  have happ:∀n∈XM (CZ (B4 σ o.op) σ) o.op,n∈tn σ o.op:=fun m hm=>by simp[tn,hm]
  unfold Fq Ni at h ⊢
  rw[htk]
  generalize CZ (B4 σ o.op) σ=σ1 at h hx1 ha1 happ
  generalize CZ (B4 σ o.op) σ'=σ1' at hx1
  have hop1:=Rh hx1 hXs
  cases hq:aq c.tb σ1 (o.dst.getD 0) o.op with
  | some r =>
   obtain⟨vc',v,obs⟩:=r
   rw[hq]at h
   have hq':=Rc (hx1.obs ha1) (fun x hx v hv=>by rw[hop1 x hx];exact hv) hq
   rw[hq']
   simp only[J4]at h ⊢
   split at h
   ·rename_i hfs
    cases h
    have hob:∀n,lk n (σ1.add v obs o.dst).objs=(lk n obs).or (lk n σ1.objs):=fun n=>by cases o.dst<;>simp only[St.add,Ax]
    have hob':∀n,lk n (σ1'.add v obs o.dst).objs=(lk n obs).or (lk n σ1'.objs):=fun n=>by cases o.dst<;>simp only[St.add,Ax]
    have hXo:∀n u,lk n obs=some u→lk n X.objs=none:=fun n u hu=>hXt n ⟨u,by rw[hob,hu];rfl⟩
    have hfr':BT obs σ1'=true:=by
     simp only[BT,List.all_eq_true,Option.isNone_iff_eq_none]at hfs ⊢
     intro p hp
     obtain⟨u,hu⟩:=Lw hp
     rw[hx1.objs,hXo _ u hu,hfs p hp];rfl
    rw[if_pos hfr']
    refine⟨_,rfl,fun s=>?_,fun n=>?_⟩
    ·cases hdd:o.dst with
     | none=>simp only[St.add];exact hx1.env s
     | some d =>
      simp only[St.add,lk]
      by_cases hsd:s=d
      ·rw[if_pos hsd,if_pos hsd,hsd,hXd d hdd];rfl
      ·rw[if_neg hsd,if_neg hsd];exact hx1.env s
    ·rw[hob,hob',hx1.objs]
     cases hu:lk n obs with
     | none=>rfl
     | some u=>rw[hXo n u hu];rfl
   ·cases h
  | none =>
   rw[hq]at h
   simp only[J4]at h
   obtain⟨⟨τ',h1,h2⟩,h3⟩:=qE hx1 ha1 hop1 happ hXd hXt h
   rw[h3]
   simp only[J4]
   exact⟨τ',h1,h2⟩
 obtain⟨τ',h1,h2⟩:=key
 exact Nv hc hs h1 hvc (Cb hd) fun a' w' hs'=>hk τ hN a' w' τ' h2 hs'
/-! ### A call -/
theorem ZJ {σ σ':St}:∀ {xs:List Operand},dG σ σ' xs→Hk σ' xs=Hk σ xs
 | [],_=>rfl
 | x :: r,h=>by
  simp only[Hk]
  rw[h x (by simp),ZJ (fun y hy=>h y (by simp[hy]))]
theorem XP {σ σ':St} (h:YU σ σ') {ren:List (Nat×Br)} {x y:AV} (hm:GM σ ren x y):GM σ' ren x y:=by
 cases y<;>first|exact hm|exact Er h hm
theorem Ma {σ σ':St} (h:YU σ σ') {ren:List (Nat×Br)}:∀ {l r:List AV},BF σ ren l r→BF σ' ren l r
 | [],[],_=>trivial
 | [],_ :: _,hm=>hm.elim
 | _ :: _,[],hm=>hm.elim
 | _ :: _,_ :: _,hm=>⟨XP h hm.1,Ma h hm.2⟩
theorem Mb {l l':List (Nat×Obj)} (h:∀n o,lk n l=some o→lk n l'=some o) {ren:List (Nat×Br)}:∀ {r:List (Nat×Obj)},Ae l ren r→Ae l' ren r
 | [],_=>trivial
 | (m,o) :: r,hm=>by
  refine⟨?_,Mb h hm.2⟩
  have h1:=hm.1
  cases hf:lk m ren with
  | none=>rw[hf]at h1;exact h1.elim
  | some f =>
   rw[hf]at h1
   cases f with
   | nil=>exact h1
   | nm n =>
    simp only[F2]at h1 ⊢
    cases hn:lk n l with
    | none=>rw[hn]at h1;simp only[HF]at h1
    | some x=>rw[h n x hn,←hn];exact h1
theorem qG (hc:c.Ok) {dst:Option Nat} {g:Operand} {xs:List Operand} {ts:Array TypeId} {ty:TypeId} {pos:String} {after:Array Edge}
  {f:FuncId} {capn:List Nat} (hg:Ct (Av σ g)=some (f,capn)) {as:List AV} (has:Hk σ xs=some as)
  {A:List AV} {objs:List (Nat×Obj)} {stay:List Nat} {post:AV→List (Nat×Obj)→Prop} (hM:B8 c.P f A objs stay post)
  (ren:List (Nat×Br)) (hs:List Nat) (h1:Bv ren=true) (h2:CG objs ren=true) (hpin:(c.ds.pin.all fun p=>!Aa p.1 hs)=true)
  (hsl:Jg ⟨dst,.call ⟨.value g,xs.toArray,ts⟩,ty,pos,after,none⟩ ens=true) (hn:IR (Aj ren) σ.objs ens=true) (hf:I1 hs ens=ens) (hd:HD c.nt ⟨dst,.call ⟨.value g,xs.toArray,ts⟩,ty,pos,after,none⟩=true)
  (hA:BF σ ren (as++capn.map fun n=>AV.bp n [] 0) A) (hO:Ae σ.objs ren objs)
  (hk:∀res objs',post res objs'→∃(ren2:List (Nat×Br)) (res2:AV) (objs2:List (Nat×Obj)),Bv ren2=true∧CG objs2 ren2=true∧Ae objs' ren2 objs2∧BD ren2 res res2 ∧
   Hz ren ren2 stay hs=true∧Ez (Aj ren) objs2 σ.objs=true∧OK objs2 ens=true∧N (B9 σ (Aj ren) hs dst res2 objs2)) :
  XK c ⟨dst,.call ⟨.value g,xs.toArray,ts⟩,ty,pos,after,none⟩ σ ens N:=by
 intro X σ' hx hin a w next Q hsat hnx
 have henv:∀s v,lk s X.env=some v→v.fgt hs=v:=fun s v hs=>by
  obtain⟨obs,hm⟩:=hin.env s v hs
  exact Mz hf _ hm
 have hobs:YU σ σ':=by
  intro n o hno
  rw[hx.objs]
  cases hX:lk n X.objs with
  | none=>exact hno
  | some o' =>
   obtain⟨e,he,hp⟩:=hin.objs n o' hX
   rw[(FC hn e he _ hp).1]at hno;cases hno
 have hnh:∀n o,lk n X.objs=some o→n∉Aj ren:=fun n o ho=>by
  obtain⟨e,he,hp⟩:=hin.objs n o ho
  exact(FC hn e he _ hp).2.1
 have hXs:∀t∈(g :: xs).filterMap N9,lk t X.env=none:=fun t ht=>by
  cases hX:lk t X.env with
  | none=>rfl
  | some v =>
   obtain⟨obs,hm⟩:=hin.env t v hX
   refine absurd ?_ (EK hsl _ hm).1
   simpa[GL,Op.operands,Call.operands] using ht
 have hXd:∀t,dst=some t→lk t X.env=none:=fun t ht=>by
  cases hX:lk t X.env with
  | none=>rfl
  | some v=>obtain⟨obs,hm⟩:=hin.env t v hX;exact absurd ht (EK hsl _ hm).2
 have hops:=Rh hx hXs
 refine XH hc (xs:=xs) (ts:=ts) rfl rfl (by rw[hops g (by simp)];exact hg) (by rw[ZJ (fun y hy=>hops y (by simp[hy]))];exact has) hM ren h1 h2 (Ma hobs hA) (Mb hobs hO) hs hpin hsat (Cb hd) fun res objs' hp=>?_
 obtain⟨ren2,res2,objs2,g1,g2,g3,g4,g5,g6,g7,g8⟩:=hk res objs' hp
 have hX2:∀n o,lk n X.objs=some o→lk n objs2=none:=fun n o ho=>by
  obtain⟨e,he,hp⟩:=hin.objs n o ho
  exact Jh g7 e he _ hp
 refine⟨ren2,res2,objs2,g1,g2,g3,g4,g5,?_,fun a' w' hs'=>hnx _ g8 a' w' _ ⟨fun s=>?_,fun n=>?_⟩ hs'⟩
 ·simp only[Ez,List.all_eq_true,Bool.or_eq_true,Option.isNone_iff_eq_none]at g6 ⊢
  intro p hp
  rcases g6 p hp with h|h
  ·exact .inl h
  ·right
   rw[hx.objs,h]
   cases hX:lk p.1 X.objs with
   | none=>rfl
   | some u =>
    obtain⟨u',hu'⟩:=Lw hp
    rw[hX2 _ u hX]at hu';cases hu'
 ·have hfe:lk s (B7 hs σ'.env)=(lk s X.env).or (lk s (B7 hs σ.env)):=by
   rw[EW,EW,hx.env]
   cases hX:lk s X.env with
   | none=>rfl
   | some v=>simp[henv s v hX]
  simp only[B9]
  cases dst with
  | none=>exact hfe
  | some d =>
   simp only[Je,lk]
   by_cases hsd:s=d
   ·rw[if_pos hsd,if_pos hsd,hsd,hXd d rfl];rfl
   ·rw[if_neg hsd,if_neg hsd];exact hfe
 ·simp only[B9,Ax,Bp,hx.objs]
  cases hX:lk n X.objs with
  | none=>simp
  | some u =>
   have h4:Kr u=true:=by
    obtain⟨e,he,hp⟩:=hin.objs n u hX
    exact(FC hn e he _ hp).2.2
   have h3:¬Aa n (Aj ren)=true:=fun h=>hnh n _ hX ((Ag _ _).1 h)
   rw[hX2 n _ hX,if_neg h3]
   exact congrArg some (VW h4)
end
section
variable {c:Cx} {ops:List Oper} {Kf:St→Prop} {τ:St} {ens:EN} {vc:Prop}
theorem vH {D:List Nat} (h:dC c.tb ops τ.objs D [] τ.env=some (vc,ens)) (hvc:vc) (hfr:PR ens τ.objs=true) (hk:Kf (Kp ens τ)):u4 c ops Kf [] D ens τ:=⟨⟨vc,h,hvc,hfr⟩,hk⟩
theorem vI {A D:List Nat} {l:Nat} {ps:List (List Nat×Nat)} {o:Oper} {σ1:St} {ens1:EN} (h:dC c.tb ops τ.objs (A++qs ps D) [] τ.env=some (vc,ens)) (hvc:vc) (hfr:PR ens τ.objs=true) (ho:ops[l]?=some o) (hσ:Kp (ens.take A.length) τ=σ1) (he:ens.drop A.length=ens1)
  (hL:XK c o σ1 ens1 (fun τ'=>u4 c ops Kf ps D ens1 τ')):u4 c ops Kf ((A,l) :: ps) D ens τ:=by
 subst hσ he
 exact⟨⟨vc,h,hvc,hfr⟩,o,ho,hL⟩
end
end
/- The equations that simp makes of the definitions, once for all. -/
section
open Go
attribute [local go_sem] Yx AN List.toList_toArray Bi evG evK Uc EU JT GK FY Fq Ni J4 B4 DB Le CK CZ frz cD GF DA A5 FL Bg AV.frz AV.frzs AV.drp AV.drps AV.names AV.namess aq GH J3 JL RG IE BS BV Ik Ef Ho Eg Hq Hp Hr R5 Na Gb JM FO EA R6 O9 tS Il Hs KS Ey EE RH CP EF El PA PB KT II JN Cn Cg E7 DZ G9 DX Em DY EH FQ CK CX RF O8 Mm GB IH IG KR MT Nf KV KY KW JQ QT KX JR Wn Nh Ng AV.trn AV.trns Dy CO Obj.trn I0 ZI Cp DK Co EI CY Eo Av lk Gm GG G0 zN cC Ud cF QR pH pI zR AV.cells Bx Ii NZ JP Nc CF MR Ty.cell1 Hn Ee DW Fm Ml Ex JK KQ QP GE Ga MM RE R3 KO JJ Wk Ya QQ MS Cl Ij RV.flat Ty.flat Ty.size St.add upd Ua BT Value.oneCell' KJ Ty.dflt Hm Ny HG OH List.take_succ_cons List.take_zero List.length_cons Y7 Y8 OG Ix Kn Gy Iy uP FZ Lo Lp Lq Lr PK PM Ls Hw SQ Option.map_some Option.map_none Option.bind_some Option.getD_some Option.getD_none Option.isNone_none Option.isNone_some Bool.and_true Bool.true_and Bool.and_false Bool.false_and Bool.not_true Bool.not_false if_true if_false List.length_cons List.length_nil and_true true_and and_self List.all_cons List.all_nil List.append_nil List.nil_append List.cons_append List.getElem?_cons_zero List.getElem?_cons_succ List.getElem?_nil List.map_cons List.map_nil List.set_cons_zero List.set_cons_succ List.isEmpty_nil List.isEmpty_cons decide_true decide_false beq_self_eq_true bne_self_eq_false Nat.zero_add Nat.add_zero Nat.sub_zero Int.toNat_natCast Int.toNat_zero Int.toNat_one List.take_length List.length_append List.length_singleton true_or or_true or_self false_or or_false Ty.agg.injEq Ty.slice.injEq Ty.prod.injEq Ty.int.injEq Option.some.injEq beq_iff_eq Kl evMG evMQ uS HI Kj Bm Iw GL N9 Iu HH Hx Ja J8 Mv MZ Mw RL Kk OB OC Iv Aa Ak Op.operands Call.operands List.filterMap_cons List.filterMap_nil List.append_eq Bool.cond_false_right Bool.cond_true_left cond_true cond_false implies_true decide_eq_true_eq beq_true beq_false Bool.or_true Bool.or_false Bool.true_or Bool.false_or Option.isSome_some FM Lf Ep G7 Wm Nb FP Fy Fx Ht G8 JO KU Ue cE Ub inB JS QQX GC Im BG Y9 List.drop_zero Db HJ XI B9 Je B7 AV.fgt AV.fgts Obj.fgt Au Aj Aa Ct Hk BF GM List.any_cons List.any_nil dC ZC XJ ZD Kp PR qs List.flatMap_cons List.flatMap_nil List.cons_append tn XM I1 List.take_succ_cons List.drop_succ_cons Bv CG Ae FX JZ BD FW F2 HF Qj
end
end Go.Proofs.YtebfihindnhccaaGreat.Fw
