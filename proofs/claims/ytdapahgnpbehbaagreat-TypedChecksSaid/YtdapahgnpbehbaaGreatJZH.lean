/- Regions in which operations on memory float among quiet ones. -/
/- A statement whose order Go leaves open, with operations that turn memory in its midst: the others float around them. -/
import Derived.Test.YtdapahgnpbehbaaGreatJZG
set_option linter.unusedVariables false
set_option linter.unusedSimpArgs false
namespace Go.Proofs.YtdapahgnpbehbaaGreat.Fw
section
open Go Go.RowKit
abbrev EN:=List (Nat×AV×List (Nat×Obj))
def RE (x:Option Oper) (f:Oper→Option (Prop×EN)):Option (Prop×EN) :=
 match x with
 | some o=>f o
 | none=>none
def P0 (d:Option Nat) (r:BS) (f:Nat→Prop→AV→List (Nat×Obj)→Option (Prop×EN)):Option (Prop×EN) :=
 match d,r with
 | some d,some (vc,v,obs)=>f d vc v obs
 | _,_=>none
def RF (d:Nat) (vc:Prop) (v:AV) (obs:List (Nat×Obj)) (r:Option (Prop×EN)):Option (Prop×EN) :=
 match r with
 | some (vc',l)=>some (vc∧vc',(d,v,obs) :: l)
 | none=>none
def Vo (tb:Tb) (ops:List Oper) (base:List (Nat×Obj)):List Nat→List (Nat×List (Nat×Obj))→List (Nat×AV)→Option (Prop×EN)
 | [],_,_=>some (True,[])
 | i :: Q,E,env=>RE (ops[i]?) fun o=>P0 o.dst (aq tb ⟨env,IP false o.op base E⟩ (o.dst.getD 0) o.op) fun d vc v obs=>RF d vc v obs (Vo tb ops base Q (G9 d obs E) ((d,v) :: env))
def JD:EN→St→St
 | [],σ=>σ
 | (d,v,obs) :: r,σ=>JD r ⟨(d,v) :: σ.env,obs++σ.objs⟩
def Ln:EN→List (Nat×Obj)→Bool
 | [],_=>true
 | (_,_,obs) :: r,objs=>(obs.all fun p=>(lk p.1 objs).isNone)&&Ln r (obs++objs)
def xD (tb:Tb) (ops:List Oper) (Q:List Nat) (ens:EN) (τ:St):Prop:=∃vc:Prop,Vo tb ops τ.objs Q [] τ.env=some (vc,ens)∧vc∧Ln ens τ.objs=true
def qs (ps:List (List Nat×Nat)) (D:List Nat):List Nat:=(ps.flatMap (·.1))++D
def x6 (ops:List Oper) (anc:List (List Nat)) (L Q:List Nat):List Nat→List Nat→Bool
 | [],_=>true
 | i :: r,pre=>(match ops[i]? with
   | some o=>o.dst.isSome&&o.guard.isNone&&((Dv o).all fun e=>AX e L||AX e pre)&&((Fe o.op).all fun t=>Q.all fun j=>Ac ops j != some t||(AX j (anc.getD i [])&&AX j pre))&&(pre.all fun j=>Ac ops j != o.dst)&&!AX i L&&!AX i pre
   | none=>false)&&x6 ops anc L Q r (i :: pre)
def P6 (ops:List Oper) (anc:List (List Nat)) (p0:Nat):List Nat→List (List Nat×Nat)→List Nat→Bool
 | L,[],D=>x6 ops anc L D D []&&((List.range p0).all fun i=>AX i L||AX i D)&&decide (L.length+D.length=p0)&&decide (p0≤ops.length)&&(L.all fun i=>decide (i<p0))&&(D.all fun i=>decide (i<p0))&&((List.range ops.length).all fun i=>decide (i<p0)||(List.range i).all fun j=>AX j (anc.getD i []))
 | L,(A,l) :: ps,D=>x6 ops anc L (A++qs ps D) (A++qs ps D) []&&(match ops[l]? with
   | some o=>o.guard.isNone&&((Dv o).all fun e=>AX e L||AX e A)&&(A.all fun j=>AX j (anc.getD l []))&&!AX l L&&!AX l (A++qs ps D)
   | none=>false)&&(ps.all fun p=>AX l (anc.getD p.2 []))&&P6 ops anc p0 (l :: (A++L)) ps D
def xE (ops:List Oper) (anc:List (List Nat)):Bool :=
 (List.range ops.length).all fun i=>match ops[i]? with|some o=>((Dv o).all fun e=>decide (e<i))&&((anc.getD i []).all fun j=>AX j (Dv o)||(Dv o).any fun e=>AX j (anc.getD e []))|none=>false
structure Lo (σ σ' X:St):Prop where
 env:∀s,lk s σ'.env=(lk s X.env).or (lk s σ.env)
 objs:∀n,lk n σ'.objs=(lk n X.objs).or (lk n σ.objs)
structure XIn (ens:EN) (X:St):Prop where
 env:∀s v,lk s X.env=some v→∃obs,(s,v,obs)∈ens
 objs:∀n o,lk n X.objs=some o→∃e∈ens,(n,o)∈e.2.2
def VB (c:Cx) (o:Oper) (σ:St) (ens:EN) (N:St→Prop):Prop :=
 ∀(X σ':St),Lo σ σ' X→XIn ens X→∀(a:Act) (w:World) (next:Act→World→Prop) (Q:Exit→Act→World→Prop),c.sat σ' a w →
  (∀τ,N τ→∀(a':Act) (w':World) (τ':St),Lo τ τ' X→c.sat τ' a' w'→next a' w')→o.wpIn (FR c.r) 0 c.P a w next Q
def l0 (c:Cx) (ops:List Oper) (Kf:St→Prop):List (List Nat×Nat)→List Nat→EN→St→Prop
 | [],D,ens,τ=>xD c.tb ops D ens τ∧Kf (JD ens τ)
 | (A,l) :: ps,D,ens,τ=>xD c.tb ops (A++qs ps D) ens τ∧∃o,ops[l]?=some o∧VB c o (JD (ens.take A.length) τ) (ens.drop A.length) (fun τ'=>l0 c ops Kf ps D (ens.drop A.length) τ')
/-! ### Slots and names -/
def ML (Q:List Nat) (ens:EN) (i:Nat):En :=
 match lk i (Q.zip ens) with
 | some (_,v,obs)=>⟨true,v,obs⟩
 | none=>⟨true,.top,[]⟩
section
variable {ops:List Oper} {en:Nat→En} {τ:St}
theorem OJ:∀(l:List Nat),(Aj ops en τ l).env=(Aj ops en ⟨[],[]⟩ l).env++τ.env
 | []=>rfl
 | i :: r=>by
  simp only[Aj]
  cases Ac ops i with
  | none=>simp only[St.add];exact OJ r
  | some d=>simp only[St.add,List.cons_append];rw[OJ r]
theorem Yj (l:List Nat):(Aj ops en τ l).objs=(Aj ops en ⟨[],[]⟩ l).objs++τ.objs:=by
 rw[E9,E9];simp
theorem l3 (l:List Nat):Lo τ (Aj ops en τ l) (Aj ops en ⟨[],[]⟩ l) :=
 ⟨fun s=>by rw[OJ,Ar],fun n=>by rw[Yj,Ar]⟩
structure xF (ops:List Oper) (en:Nat→En) (τ:St) (Q:List Nat):Prop where
 slot:∀i∈Q,∀j∈Q,∀s,Ac ops i=some s→Ac ops j=some s→i=j
 new:∀i∈Q,∀n o,lk n (en i).obs=some o→lk n τ.objs=none
 name:∀i∈Q,∀j∈Q,∀n o o',lk n (en i).obs=some o→lk n (en j).obs=some o'→i=j
theorem l4 {Q l:List Nat} (h:xF ops en τ Q) (hl:∀i∈l,i∈Q) (s:Nat) (v:AV):lk s (Aj ops en τ l).env=some v↔(∃i∈l,Ac ops i=some s∧(en i).v=v)∨((∀i∈l,Ac ops i≠some s)∧lk s τ.env=some v):=by
 rw[FA]
 cases hf:l.find? (fun j=>Ac ops j==some s) with
 | none =>
  have hn:∀i∈l,Ac ops i≠some s:=fun i hi=>by simpa using List.find?_eq_none.1 hf i hi
  constructor
  ·intro hv;exact .inr ⟨hn,hv⟩
  ·rintro (⟨i,hi,hd,_⟩|⟨_,hv⟩)
   ·exact absurd hd (hn i hi)
   ·exact hv
 | some j =>
  have hj:=List.mem_of_find?_eq_some hf
  have hd:Ac ops j=some s:=by simpa using List.find?_some hf
  constructor
  ·intro hv;cases hv;exact .inl ⟨j,hj,hd,rfl⟩
  ·rintro (⟨i,hi,hdi,rfl⟩|⟨hn,_⟩)
   ·rw[h.slot i (hl i hi) j (hl j hj) s hdi hd]
   ·exact absurd hd (hn j hj)
theorem l5 {Q l:List Nat} (h:xF ops en τ Q) (hl:∀i∈l,i∈Q) (n:Nat) (o:Obj):lk n (Aj ops en τ l).objs=some o↔(∃i∈l,lk n (en i).obs=some o)∨((∀i∈l,lk n (en i).obs=none)∧lk n τ.objs=some o):=by
 rw[E9,Ar]
 cases hf:lk n (l.flatMap fun j=>(en j).obs) with
 | some o' =>
  obtain⟨j,hj,hlk⟩:=Z8 hf
  simp only[Option.some_or]
  constructor
  ·intro he;cases he;exact .inl ⟨j,hj,hlk⟩
  ·rintro (⟨i,hi,hi2⟩|⟨hn,_⟩)
   ·have:=h.name i (hl i hi) j (hl j hj) n o o' hi2 hlk
    subst this;rw[←hlk,hi2]
   ·rw[hn j hj]at hlk;cases hlk
 | none =>
  have hn:=Jf hf
  simp only[Option.none_or]
  constructor
  ·intro he;exact .inr ⟨hn,he⟩
  ·rintro (⟨j',hj',hlk'⟩|⟨_,h1⟩)
   ·rw[hn j' hj']at hlk';cases hlk'
   ·exact h1
theorem hC {Q l A:List Nat} (h:xF ops en τ Q) (hl:∀i∈l,i∈Q) (hA:∀i∈A,i∈l):Lo (Aj ops en τ A) (Aj ops en τ l) (Aj ops en ⟨[],[]⟩ (l.filter fun i=>!AX i A)):=by
 have h0:xF ops en ⟨[],[]⟩ Q:=⟨h.slot,fun _ _ _ _ _=>rfl,h.name⟩
 have hf:∀i∈l.filter (fun i=>!AX i A),i∈Q:=fun i hi=>hl i (List.mem_filter.1 hi).1
 have hAQ:∀i∈A,i∈Q:=fun i hi=>hl i (hA i hi)
 have mf:∀i,i∈l.filter (fun i=>!AX i A)↔i∈l∧i∉A:=fun i=>by
  rw[List.mem_filter]
  have:=AY i A
  constructor
  ·rintro⟨h1,h2⟩;exact⟨h1,fun h3=>by rw[this.2 h3]at h2;cases h2⟩
  ·rintro⟨h1,h2⟩
   refine⟨h1,?_⟩
   cases hm:AX i A with
   | false=>rfl
   | true=>exact absurd (this.1 hm) h2
 refine⟨fun s=>Option.ext fun v=>?_,fun n=>Option.ext fun o=>?_⟩
 ·rw[l4 h hl,Option.or_eq_some_iff,l4 h0 hf,l4 h hAQ]
  constructor
  ·rintro (⟨i,hi,hd,hv⟩|⟨hn,hv⟩)
   ·by_cases hiA:i∈A
    ·refine .inr ⟨?_,.inl ⟨i,hiA,hd,hv⟩⟩
     cases hx:lk s (Aj ops en ⟨[],[]⟩ (l.filter fun i=>!AX i A)).env with
     | none=>rfl
     | some u =>
      rcases (l4 h0 hf s u).1 hx with ⟨j,hj,hdj,_⟩|⟨_,hx⟩
      ·have:=h.slot i (hl i hi) j (hf j hj) s hd hdj
       subst this
       exact absurd hiA ((mf i).1 hj).2
      ·cases hx
    ·exact .inl (.inl ⟨i,(mf i).2 ⟨hi,hiA⟩,hd,hv⟩)
   ·refine .inr ⟨?_,.inr ⟨fun i hi=>hn i (hA i hi),hv⟩⟩
    cases hx:lk s (Aj ops en ⟨[],[]⟩ (l.filter fun i=>!AX i A)).env with
    | none=>rfl
    | some u =>
     rcases (l4 h0 hf s u).1 hx with ⟨j,hj,hdj,_⟩|⟨_,hx⟩
     ·exact absurd hdj (hn j ((mf j).1 hj).1)
     ·cases hx
  ·rintro ((⟨i,hi,hd,hv⟩|⟨_,hv⟩)|⟨hx,⟨i,hi,hd,hv⟩|⟨hn,hv⟩⟩)
   ·exact .inl ⟨i,((mf i).1 hi).1,hd,hv⟩
   ·cases hv
   ·exact .inl ⟨i,hA i hi,hd,hv⟩
   ·refine .inr ⟨fun i hi hd=>?_,hv⟩
    by_cases hiA:i∈A
    ·exact hn i hiA hd
    ·have:=(l4 h0 hf s (en i).v).2 (.inl ⟨i,(mf i).2 ⟨hi,hiA⟩,hd,rfl⟩)
     rw[hx]at this;cases this
 ·rw[l5 h hl,Option.or_eq_some_iff,l5 h0 hf,l5 h hAQ]
  constructor
  ·rintro (⟨i,hi,hv⟩|⟨hn,hv⟩)
   ·by_cases hiA:i∈A
    ·refine .inr ⟨?_,.inl ⟨i,hiA,hv⟩⟩
     cases hx:lk n (Aj ops en ⟨[],[]⟩ (l.filter fun i=>!AX i A)).objs with
     | none=>rfl
     | some u =>
      rcases (l5 h0 hf n u).1 hx with ⟨j,hj,hdj⟩|⟨_,hx⟩
      ·have:=h.name i (hl i hi) j (hf j hj) n _ _ hv hdj
       subst this
       exact absurd hiA ((mf i).1 hj).2
      ·cases hx
    ·exact .inl (.inl ⟨i,(mf i).2 ⟨hi,hiA⟩,hv⟩)
   ·refine .inr ⟨?_,.inr ⟨fun i hi=>hn i (hA i hi),hv⟩⟩
    cases hx:lk n (Aj ops en ⟨[],[]⟩ (l.filter fun i=>!AX i A)).objs with
    | none=>rfl
    | some u =>
     rcases (l5 h0 hf n u).1 hx with ⟨j,hj,hdj⟩|⟨_,hx⟩
     ·rw[hn j ((mf j).1 hj).1]at hdj;cases hdj
     ·cases hx
  ·rintro ((⟨i,hi,hv⟩|⟨_,hv⟩)|⟨hx,⟨i,hi,hv⟩|⟨hn,hv⟩⟩)
   ·exact .inl ⟨i,((mf i).1 hi).1,hv⟩
   ·cases hv
   ·exact .inl ⟨i,hA i hi,hv⟩
   ·refine .inr ⟨fun i hi=>?_,hv⟩
    by_cases hiA:i∈A
    ·exact hn i hiA
    ·cases hd:lk n (en i).obs with
     | none=>rfl
     | some u =>
      have:=(l5 h0 hf n u).2 (.inl ⟨i,(mf i).2 ⟨hi,hiA⟩,hd⟩)
      rw[hx]at this;cases this
end
/-! ### The front -/
def l6 (tb:Tb) (ops:List Oper) (τ:St) (en:Nat→En) (pre:List Nat) (i:Nat) (o:Oper):Prop :=
 ∃vc:Prop,aq tb ⟨(Aj ops en τ pre).env,Bd false (Fe o.op) τ.objs (ES ops en pre)⟩ (o.dst.getD 0) o.op=some (vc,(en i).v,(en i).obs)∧vc
theorem WW {ts:List Nat} {base:List (Nat×Obj)} {d:Nat} {obs:List (Nat×Obj)} {E:List (Nat×List (Nat×Obj))}:Bd false ts base (G9 d obs E)=Bd false ts base ((d,obs) :: E):=by
 cases obs with
 | nil=>simp only[G9,Bd,List.nil_append];split<;>rfl
 | cons x r=>rfl
theorem l7 {o:Op} {base:List (Nat×Obj)} {E:List (Nat×List (Nat×Obj))}:IP false o base E=Bd false (Fe o) base E:=by
 cases E<;>rfl
theorem TW {tb:Tb} {ops:List Oper} {τ:St} {en:Nat→En}:∀ {Q:List Nat} {ens:EN} {pre:List Nat} {E:List (Nat×List (Nat×Obj))} {vc:Prop},Vo tb ops τ.objs Q E (Aj ops en τ pre).env=some (vc,ens)→vc →
  (∀ts,Bd false ts τ.objs E=Bd false ts τ.objs (ES ops en pre))→(∀(j i:Nat) (e:Nat×AV×List (Nat×Obj)),Q[j]?=some i→ens[j]?=some e→en i=⟨true,e.2.1,e.2.2⟩) →
  ens.length=Q.length∧∀(j i:Nat),Q[j]?=some i→∃(o:Oper) (e:Nat×AV×List (Nat×Obj)),ops[i]?=some o∧ens[j]?=some e∧Ac ops i=some e.1∧l6 tb ops τ en ((Q.take j).reverse++pre) i o
 | [],ens,pre,E,vc,h,hvc,hE,hen=>by
  simp only[Vo]at h
  cases h
  exact⟨rfl,fun j i h=>by simp at h⟩
 | i :: Q,ens,pre,E,vc,h,hvc,hE,hen=>by
  simp only[Vo]at h
  cases ho:ops[i]? with
  | none=>rw[ho]at h;simp[RE]at h
  | some o =>
   rw[ho]at h
   simp only[RE]at h
   cases hd:o.dst with
   | none=>rw[hd]at h;simp[P0]at h
   | some d =>
    cases hq:aq tb ⟨(Aj ops en τ pre).env,IP false o.op τ.objs E⟩ (o.dst.getD 0) o.op with
    | none=>rw[hq,hd]at h;simp[P0]at h
    | some r =>
     obtain⟨vc0,v,obs⟩:=r
     rw[hq,hd]at h
     simp only[P0]at h
     cases hr:Vo tb ops τ.objs Q (G9 d obs E) ((d,v) :: (Aj ops en τ pre).env) with
     | none=>rw[hr]at h;simp[RF]at h
     | some p =>
      obtain⟨vc',ens'⟩:=p
      rw[hr]at h
      simp only[RF]at h
      cases h
      have hi:=hen 0 i (d,v,obs) rfl rfl
      have hdo:Ac ops i=some d:=by simp[Ac,ho,hd]
      have hst:(Aj ops en τ (i :: pre)).env=(d,v) :: (Aj ops en τ pre).env:=by simp[Aj,hdo,St.add,hi]
      have ih:=TW (pre:=i :: pre) (by rw[hst];exact hr) hvc.2 (fun ts=>by
       rw[WW]
       simp only[ES,List.map_cons,hdo,Option.getD_some,hi,Bd]
       rw[hE ts];rfl) (fun j k e h1 h2=>hen (j+1) k e (by simpa using h1) (by simpa using h2))
      refine⟨by simp[ih.1],fun j k hk=>?_⟩
      cases j with
      | zero =>
       simp only[List.getElem?_cons_zero,Option.some.injEq]at hk
       subst hk
       refine⟨o,(d,v,obs),ho,rfl,hdo,vc0,?_,hvc.1⟩
       rw[l7,hE]at hq
       simp only[List.take_zero,List.reverse_nil,List.nil_append]
       rw[hi]
       exact hq
      | succ j =>
       obtain⟨o',e,h1,h2,h3,h4⟩:=ih.2 j k (by simpa using hk)
       refine⟨o',e,h1,by simpa using h2,h3,?_⟩
       simpa[List.take_succ_cons] using h4
theorem OK:∀ {ens:EN} {objs:List (Nat×Obj)},Ln ens objs=true→∀(j:Nat) (e:Nat×AV×List (Nat×Obj)),ens[j]?=some e→∀n o,lk n e.2.2=some o→lk n objs=none∧∀(j':Nat) (e':Nat×AV×List (Nat×Obj)) (o':Obj),ens[j']?=some e'→lk n e'.2.2=some o'→j=j'
 | [],objs,_,j,e,h=>by simp at h
 | (d,v,obs) :: r,objs,h,j,e,he=>by
  simp only[Ln,Bool.and_eq_true,List.all_eq_true,Option.isNone_iff_eq_none]at h
  have h0:∀n o,lk n obs=some o→lk n objs=none:=fun n o hn=>h.1 _ (FY hn)
  have hr:=OK h.2
  have low:∀(k:Nat) e',r[k]?=some e'→∀n o o',lk n obs=some o→lk n e'.2.2=some o'→False:=by
   intro k e' hk n o o' h1 h2
   have:=(hr k e' hk n o' h2).1
   rw[Ar,h1]at this
   simp at this
  intro n o hn
  cases j with
  | zero =>
   simp only[List.getElem?_cons_zero,Option.some.injEq]at he
   subst he
   refine⟨h0 n o hn,fun j' e' o' h1 h2=>?_⟩
   cases j' with
   | zero=>rfl
   | succ k=>exact(low k e' (by simpa using h1) n o o' hn h2).elim
  | succ j =>
   have he:r[j]?=some e:=by simpa using he
   have h1:=hr j e he n o hn
   refine⟨?_,fun j' e' o' h2 h3=>?_⟩
   ·have:=h1.1
    rw[Ar]at this
    cases hx:lk n obs with
    | none=>rw[hx]at this;simpa using this
    | some u=>rw[hx]at this;simp at this
   ·cases j' with
    | zero =>
     simp only[List.getElem?_cons_zero,Option.some.injEq]at h2
     subst h2
     exact(low j e he n o' o h3 hn).elim
    | succ k=>rw[h1.2 k e' o' (by simpa using h2) h3]
end
/- A statement whose order Go leaves open, with operations that turn memory in its midst: the proof. -/
section
open Go Go.RowKit
structure TX (ops:Array Oper) (anc:List (List Nat)):Prop where
 lt:∀i o,ops[i]?=some o→∀e∈Dv o,e<i
 cl:∀i o,ops[i]?=some o→∀j∈anc.getD i [],j∈Dv o∨∃e∈Dv o,j∈anc.getD e []
theorem yW {ops:Array Oper} {anc:List (List Nat)} (h:xE ops.toList anc=true):TX ops anc:=by
 simp only[xE,List.all_eq_true,List.mem_range]at h
 have hi:∀i o,ops[i]?=some o→((Dv o).all fun e=>decide (e<i))=true∧((anc.getD i []).all fun j=>AX j (Dv o)||(Dv o).any fun e=>AX j (anc.getD e []))=true:=by
  intro i o ho
  have hlt:i<ops.toList.length:=by
   have:=(Array.getElem?_eq_some_iff.1 ho).1
   simpa using this
  have:=h i hlt
  have ho':ops.toList[i]?=some o:=by simpa using ho
  rw[ho']at this
  simpa only[Bool.and_eq_true] using this
 refine⟨fun i o ho e he=>?_,fun i o ho j hj=>?_⟩
 ·have:=(hi i o ho).1
  simp only[List.all_eq_true,decide_eq_true_eq]at this
  exact this e he
 ·have:=(hi i o ho).2
  simp only[List.all_eq_true,Bool.or_eq_true,List.any_eq_true,AY]at this
  exact this j hj
section
variable {ops:Array Oper} {k:Nat} {anc:List (List Nat)} {Q:Exit→Act→World→Prop}
theorem PU (hc:TX ops anc) {listed:Array Bool} (hcl:∀i o,ops[i]?=some o→listed.getD i true=true→∀e∈Dv o,listed.getD e false=true) :
  ∀i o,ops[i]?=some o→(∀e∈Dv o,listed.getD e false=true)→∀j∈anc.getD i [],listed.getD j false=true:=by
 intro i
 induction i using Nat.strongRecOn with
 | _ i ih =>
  intro o ho hd j hj
  rcases hc.cl i o ho j hj with h1|⟨e,he,hje⟩
  ·exact hd j h1
  ·have hlt:=hc.lt i o ho e he
   have hsz:i<ops.size:=(Array.getElem?_eq_some_iff.1 ho).1
   have hoe:ops[e]?=some (ops[e]'(by omega)):=Array.getElem?_eq_getElem (by omega)
   have hle:=hd e he
   have hle':listed.getD e true=true:=by
    by_cases hh:e<listed.size
    ·simp[Array.getD,hh]at hle ⊢;exact hle
    ·simp[Array.getD,hh]at hle
   exact ih e hlt _ hoe (hcl e _ hoe hle') j hje
theorem OL {F:Fence} {P:Program} (hc:TX ops anc) (hback:∀i o,ops[i]?=some o→k≤i→∀j,j<i→j∈anc.getD i []):∀ {rest:List Oper} {p:Nat} {listed:Array Bool} {a:Act} {w:World},ops.toList.drop p=rest→k≤p→p≤ops.size→listed.size=ops.size →
  (∀i,i<ops.size→(listed.getD i true=true↔i<p))→wpListIn F 0 P ops Q rest a w→wpAnyIn F 0 P .any ops Q rest.length listed a w
 | [],p,listed,a,w,hd,hkp,hps,hls,hl,hQ=>by
  have hp:p=ops.size:=by
   have:=congrArg List.length hd
   simp at this
   omega
  refine⟨?_,hQ⟩
  apply List.eq_nil_iff_forall_not_mem.2
  intro i hi
  rw[DX]at hi
  obtain⟨h1,o,ho,_⟩:=hi
  have hsz:i<ops.size:=(Array.getElem?_eq_some_iff.1 ho).1
  have:=(hl i hsz).2 (by omega)
  rw[h1]at this
  cases this
 | o :: r,p,listed,a,w,hd,hkp,hps,hls,hl,hQ=>by
  obtain⟨hop,hr⟩:=TP hd
  have hop:ops[p]?=some o:=by simpa using hop
  have hpsz:p<ops.size:=(Array.getElem?_eq_some_iff.1 hop).1
  have gd:∀e b,e<ops.size→listed.getD e b=listed.getD e true:=fun e b he=>by
   have:e<listed.size:=by omega
   simp[Array.getD,this]
  have hcl:∀i o,ops[i]?=some o→listed.getD i true=true→∀e∈Dv o,listed.getD e false=true:=by
   intro i o ho h1 e he
   have hsz:i<ops.size:=(Array.getElem?_eq_some_iff.1 ho).1
   have h2:=(hl i hsz).1 h1
   have h3:=hc.lt i o ho e he
   rw[gd e false (by omega)]
   exact(hl e (by omega)).2 (by omega)
  have hready:∀i,i∈Region.ready .any ops listed→i=p:=by
   intro i hi
   rw[DX]at hi
   obtain⟨h1,o',ho',h2⟩:=hi
   have hsz:i<ops.size:=(Array.getElem?_eq_some_iff.1 ho').1
   have hge:¬i<p:=fun hlt=>by rw[(hl i hsz).2 hlt]at h1;cases h1
   by_cases hip:i=p
   ·exact hip
   ·have h3:=PU hc hcl i o' ho' h2 p (hback i o' ho' (by omega) p (by omega))
    rw[gd p false hpsz]at h3
    have:=(hl p hpsz).1 h3
    omega
  refine⟨fun hnil=>?_,fun i hi=>?_⟩
  ·exfalso
   have:p∈Region.ready .any ops listed:=by
    rw[DX]
    refine⟨?_,o,hop,fun e he=>?_⟩
    ·cases hh:listed.getD p true with
     | false=>rfl
     | true=>have:=(hl p hpsz).1 hh;omega
    ·have:=hc.lt p o hop e he
     rw[gd e false (by omega)]
     exact(hl e (by omega)).2 this
   rw[hnil]at this
   cases this
  ·have hip:=hready i hi
   subst hip
   have hnext:∀(j:Nat),j<ops.size→((listed.setIfInBounds i true).getD j true=true↔j<i+1):=by
    intro j hj
    have hjl:j<listed.size:=by omega
    by_cases hji:j=i
    ·subst hji
     simp[Array.getD,hjl]
    ·have h1:(listed.setIfInBounds i true).getD j true=listed.getD j true:=getD_set_ne true (fun e=>hji e.symm)
     rw[h1,hl j hj]
     omega
   unfold wpOpIn
   rw[hop]
   simp only
   unfold wpListIn at hQ
   split
   ·rename_i hw
    rw[if_pos hw]at hQ
    exact Oper.wpIn_mono (fun a' w' h'=>OL hc hback hr.symm (by omega) (by omega) (by simpa using hls) hnext h') hQ
   ·rename_i hw
    rw[if_neg hw]at hQ
    exact⟨hQ.1,OL hc hback hr.symm (by omega) (by omega) (by simpa using hls) hnext hQ.2⟩
end
/-! ### What the checks say -/
structure x7 (ops:List Oper) (anc:List (List Nat)) (L Q:List Nat):Prop where
 nodup:Q.Nodup
 pos:∀(j i:Nat),Q[j]?=some i→i∉L∧∃o,ops[i]?=some o∧o.guard=none∧(∀e∈Dv o,e∈L∨e∈Q.take j)∧(∀t∈Fe o.op,∀k∈Q,Ac ops k=some t→k∈anc.getD i []∧k∈Q.take j)
 slot:∀i∈Q,∀j∈Q,∀s,Ac ops i=some s→Ac ops j=some s→i=j
theorem WX {ops:List Oper} {anc:List (List Nat)} {L Q:List Nat}:∀ {r pre:List Nat},x6 ops anc L Q r pre=true →
  (∀(j i:Nat),r[j]?=some i→i∉L∧i∉pre∧i∉r.take j∧∃o,ops[i]?=some o∧o.guard=none∧(∀e∈Dv o,e∈L∨e∈pre∨e∈r.take j)∧(∀t∈Fe o.op,∀k∈Q,Ac ops k=some t→k∈anc.getD i []∧(k∈pre∨k∈r.take j)) ∧
   ∀k,k∈pre∨k∈r.take j→Ac ops k≠Ac ops i)
 | [],pre,h,j,i,hj=>by simp at hj
 | x :: r,pre,h,j,i,hj=>by
  simp only[x6,Bool.and_eq_true]at h
  obtain⟨h1,h2⟩:=h
  cases j with
  | zero =>
   simp only[List.getElem?_cons_zero,Option.some.injEq]at hj
   subst hj
   cases ho:ops[x]? with
   | none=>rw[ho]at h1;cases h1
   | some o =>
    rw[ho]at h1
    simp only[Bool.and_eq_true,List.all_eq_true,Bool.or_eq_true,AY,bne_iff_ne,Bool.not_eq_true',Option.isNone_iff_eq_none]at h1
    obtain⟨⟨⟨⟨⟨⟨g1,g2⟩,g3⟩,g4⟩,g5⟩,g6⟩,g7⟩:=h1
    refine⟨fun h=>(by rw[(AY _ _).2 h]at g6;cases g6),fun h=>(by rw[(AY _ _).2 h]at g7;cases g7),by simp,o,rfl,g2,fun e he=>?_,fun t ht k hk hd=>?_,fun k hk=>?_⟩
    ·rcases g3 e he with h|h
     ·exact .inl h
     ·exact .inr (.inl h)
    ·rcases g4 t ht k hk with h|h
     ·exact absurd hd h
     ·exact⟨h.1,.inl h.2⟩
    ·rcases hk with hk|hk
     ·have:=g5 k hk
      simpa[Ac,ho] using this
     ·simp at hk
  | succ j =>
   obtain⟨a1,a2,a3,o,a4,a5,a6,a7,a8⟩:=WX h2 j i (by simpa using hj)
   simp only[List.mem_cons,not_or]at a2
   refine⟨a1,a2.2,by simp[List.take_succ_cons,a2.1,a3],o,a4,a5,fun e he=>?_,fun t ht k hk hd=>?_,fun k hk=>a8 k ?_⟩
   ·rcases a6 e he with h|h|h
    ·exact .inl h
    ·rcases List.mem_cons.1 h with rfl|h
     ·exact .inr (.inr (by simp))
     ·exact .inr (.inl h)
    ·exact .inr (.inr (by simp[h]))
   ·obtain⟨b1,b2⟩:=a7 t ht k hk hd
    refine⟨b1,?_⟩
    rcases b2 with h|h
    ·rcases List.mem_cons.1 h with rfl|h
     ·exact .inr (by simp)
     ·exact .inl h
    ·exact .inr (by simp[h])
   ·rcases hk with hk|hk
    ·exact .inl (by simp[hk])
    ·simp only[List.take_succ_cons,List.mem_cons]at hk
     rcases hk with rfl|hk
     ·exact .inl (by simp)
     ·exact .inr hk
theorem WY {α:Type} {l:List α} {i j:Nat} {x:α} (h:l[i]?=some x) (hij:i<j):x∈l.take j:=by
 rw[List.mem_iff_getElem?]
 exact⟨i,by rw[List.getElem?_take,if_pos hij];exact h⟩
theorem qOk {ops:List Oper} {anc:List (List Nat)} {L Q:List Nat} (h:x6 ops anc L Q Q []=true):x7 ops anc L Q:=by
 have hs:=WX h
 have hne:∀ {i j x y:Nat},Q[i]?=some x→Q[j]?=some y→i<j→x≠y∧Ac ops x≠Ac ops y:=by
  intro i j x y hx hy hij
  obtain⟨_,_,a3,_,_,_,_,_,a8⟩:=hs j y hy
  have hm:=WY hx hij
  exact⟨fun e=>a3 (e▸hm),a8 x (.inr hm)⟩
 refine⟨?_,fun j i hj=>?_,fun i hi j hj s h1 h2=>?_⟩
 ·rw[List.nodup_iff_pairwise_ne,List.pairwise_iff_getElem]
  intro i j hi hj hij e
  exact(hne (List.getElem?_eq_getElem hi) (List.getElem?_eq_getElem hj) hij).1 e
 ·obtain⟨a1,_,_,o,a4,a5,a6,a7,_⟩:=hs j i hj
  refine⟨a1,o,a4,a5,fun e he=>?_,fun t ht k hk hd=>?_⟩
  ·rcases a6 e he with h|h|h
   ·exact .inl h
   ·cases h
   ·exact .inr h
  ·obtain⟨b1,b2⟩:=a7 t ht k hk hd
   rcases b2 with h|h
   ·cases h
   ·exact⟨b1,h⟩
 ·obtain⟨a,ha⟩:=List.mem_iff_getElem?.1 hi
  obtain⟨b,hb⟩:=List.mem_iff_getElem?.1 hj
  rcases Nat.lt_trichotomy a b with h|h|h
  ·exact absurd (h1.trans h2.symm) (hne ha hb h).2
  ·subst h;rw[ha]at hb;injection hb
  ·exact absurd (h2.trans h1.symm) (hne hb ha h).2
theorem Yk:∀ {Q:List Nat} {ens:EN},Q.Nodup→∀(j i:Nat) (e:Nat×AV×List (Nat×Obj)),Q[j]?=some i→ens[j]?=some e→ML Q ens i=⟨true,e.2.1,e.2.2⟩
 | [],ens,_,j,i,e,h,_=>by simp at h
 | x :: Q,[],_,j,i,e,_,h=>by simp at h
 | x :: Q,f :: ens,hn,j,i,e,h1,h2=>by
  cases j with
  | zero =>
   simp only[List.getElem?_cons_zero,Option.some.injEq]at h1 h2
   subst h1;subst h2
   simp[ML,List.zip_cons_cons,lk]
  | succ j =>
   have h1:Q[j]?=some i:=by simpa using h1
   have hx:i≠x:=fun e=>by
    subst e
    exact(List.nodup_cons.1 hn).1 (List.mem_of_getElem? h1)
   have:=Yk (List.nodup_cons.1 hn).2 j i e h1 (by simpa using h2)
   simp only[ML,List.zip_cons_cons,lk,if_neg hx]at this ⊢
   exact this
structure Fr (tb:Tb) (ops:List Oper) (anc:List (List Nat)) (L Q:List Nat) (ens:EN) (τ:St):Prop where
 q:x7 ops anc L Q
 len:ens.length=Q.length
 own:xF ops (ML Q ens) τ Q
 at_:∀(j i:Nat),Q[j]?=some i→∃(o:Oper) (e:Nat×AV×List (Nat×Obj)),ops[i]?=some o∧ens[j]?=some e∧Ac ops i=some e.1∧ML Q ens i=⟨true,e.2.1,e.2.2⟩∧l6 tb ops τ (ML Q ens) (Q.take j).reverse i o
theorem l8 {tb:Tb} {ops:List Oper} {anc:List (List Nat)} {L Q:List Nat} {ens:EN} {τ:St} (hq:x7 ops anc L Q) (h:xD tb ops Q ens τ):Fr tb ops anc L Q ens τ:=by
 obtain⟨vc,h1,h2,h3⟩:=h
 have hz:=fun(j i:Nat) (e:Nat×AV×List (Nat×Obj))=>Yk (ens:=ens) hq.nodup j i e
 obtain⟨hl,hf⟩:=TW (en:=ML Q ens) (pre:=[]) h1 h2 (fun ts=>rfl) hz
 have hat:∀i∈Q,∃(j:Nat) (e:Nat×AV×List (Nat×Obj)),Q[j]?=some i∧ens[j]?=some e∧ML Q ens i=⟨true,e.2.1,e.2.2⟩:=by
  intro i hi
  obtain⟨j,hj⟩:=List.mem_iff_getElem?.1 hi
  obtain⟨_,e,_,he,_⟩:=hf j i hj
  exact⟨j,e,hj,he,hz j i e hj he⟩
 refine⟨hq,hl,⟨hq.slot,fun i hi n o hn=>?_,fun i hi j hj n o o' h4 h5=>?_⟩,fun j i hj=>?_⟩
 ·obtain⟨j,e,_,he,hz⟩:=hat i hi
  rw[hz]at hn
  exact(OK h3 j e he n o hn).1
 ·obtain⟨a,e,ha,he,hz1⟩:=hat i hi
  obtain⟨b,e',hb,he',hz2⟩:=hat j hj
  rw[hz1]at h4
  rw[hz2]at h5
  have:=(OK h3 a e he n o h4).2 b e' o' he' h5
  subst this
  rw[ha]at hb
  injection hb
 ·obtain⟨o,e,h4,h5,h6,h7⟩:=hf j i hj
  exact⟨o,e,h4,h5,h6,hz j i e hj h5,by simpa using h7⟩
theorem hH {ops:List Oper} {en:Nat→En} {τ:St} {Q:List Nat} (h:xF ops en τ Q) {ts pre ex:List Nat} (hp:∀j∈pre,j∈Q) (hex:∀j∈ex,j∈Q) (hA:∀j∈pre,AX ((Ac ops j).getD 0) ts=true→j∈ex) {n:Nat} {o:Obj} :
  lk n (Bd false ts τ.objs (ES ops en pre))=some o→lk n (Aj ops en τ ex).objs=some o:=by
 rw[l5 h hex]
 induction pre with
 | nil =>
  simp only[ES,List.map_nil,Bd]
  intro hn
  refine .inr ⟨fun j hj=>?_,hn⟩
  cases h':lk n (en j).obs with
  | none=>rfl
  | some o'=>have:=h.new j (hex j hj) n o' h';rw[this]at hn;cases hn
 | cons i r ih =>
  simp only[ES,List.map_cons,Bd]
  have ih:=ih (fun j hj=>hp j (by simp[hj])) (fun j hj=>hA j (by simp[hj]))
  split
  ·rename_i hm
   intro hn
   rw[Ar]at hn
   cases h':lk n (en i).obs with
   | some o' =>
    rw[h']at hn
    simp only[Option.some_or]at hn
    cases hn
    exact .inl ⟨i,hA i (by simp) (by simpa using hm),h'⟩
   | none =>
    rw[h']at hn
    exact ih (by simpa[ES] using hn)
  ·exact ih
theorem OM {p:Nat×Obj}:∀ {l:List (Nat×Obj)},p∈l→∃o',lk p.1 l=some o'
 | (q1,q2) :: r,h=>by
  simp only[lk]
  by_cases he:p.1=q1
  ·exact⟨q2,by rw[if_pos he]⟩
  ·rw[if_neg he]
   rcases List.mem_cons.1 h with rfl|h
   ·exact absurd rfl he
   ·exact OM h
theorem Yl {c:Cx} (hok:c.Ok) {ops:List Oper} {anc:List (List Nat)} {L Q:List Nat} {ens:EN} {τ:St} (hF:Fr c.tb ops anc L Q ens τ) {ex:List Nat} (hex:∀i∈ex,i∈Q) {j i:Nat} {o:Oper} (hj:Q[j]?=some i) (ho:ops[i]?=some o) (hni:i∉ex)
  (hdep:∀k∈anc.getD i [],k∈Q→k∈ex) (hdo:∀d,o.dst=some d→d<c.nt) {a:Act} {w:World} {next:Act→World→Prop} {Qe:Exit→Act→World→Prop} (hs:c.sat (Aj ops (ML Q ens) τ ex) a w)
  (hn:∀a' w',c.sat (Aj ops (ML Q ens) τ (i :: ex)) a' w'→next a' w'):o.wpIn (FR c.r) 0 c.P a w next Qe:=by
 obtain⟨o',e,ho',he,hd,hz,vc,hq,hvc⟩:=hF.at_ j i hj
 rw[ho]at ho';cases ho'
 obtain⟨_,o2,ho2,_,_,hts⟩:=hF.q.pos j i hj
 rw[ho]at ho2;cases ho2
 have hpre:∀k∈(Q.take j).reverse,k∈Q:=fun k hk=>List.mem_of_mem_take (by simpa using hk)
 have hops:w8 ⟨(Aj ops (ML Q ens) τ (Q.take j).reverse).env,Bd false (Fe o.op) τ.objs (ES ops (ML Q ens) (Q.take j).reverse)⟩ (Aj ops (ML Q ens) τ ex) o.op.operands.toList:=by
  intro x hx v hv
  cases x with
  | tmp t =>
   simp only[Ae]at hv ⊢
   have ht:t∈Fe o.op:=List.mem_filterMap.2 ⟨_,hx,rfl⟩
   rw[l4 hF.own hpre]at hv
   rw[l4 hF.own hex]
   rcases hv with ⟨k,hk,hkd,hkv⟩|⟨hno,hv⟩
   ·exact .inl ⟨k,hdep k (hts t ht k (hpre k hk) hkd).1 (hpre k hk),hkd,hkv⟩
   ·refine .inr ⟨fun k hk hkd=>?_,hv⟩
    exact hno k (by simpa using (hts t ht k (hex k hk) hkd).2) hkd
  | const v'=>exact hv
  | global g=>exact hv
  | func f=>exact hv
 have hobs:YJ ⟨(Aj ops (ML Q ens) τ (Q.take j).reverse).env,Bd false (Fe o.op) τ.objs (ES ops (ML Q ens) (Q.take j).reverse)⟩ (Aj ops (ML Q ens) τ ex):=by
  intro n o' hn
  refine hH hF.own hpre hex (fun k hk hm=>?_) hn
  obtain⟨jk,hjk⟩:=List.mem_iff_getElem?.1 (hpre k hk)
  obtain⟨_,ek,_,_,hdk,_⟩:=hF.at_ jk k hjk
  rw[hdk]at hm
  exact hdep k (hts _ ((AY _ _).1 hm) k (hpre k hk) hdk).1 (hpre k hk)
 have hq':=QP hobs hops hq
 have hiQ:=List.mem_of_getElem? hj
 have hfresh:BJ (ML Q ens i).obs (Aj ops (ML Q ens) τ ex)=true:=by
  simp only[BJ,List.all_eq_true,Option.isNone_iff_eq_none]
  intro p hp
  obtain⟨o',hp'⟩:=OM hp
  cases hl:lk p.1 (Aj ops (ML Q ens) τ ex).objs with
  | none=>rfl
  | some u =>
   rcases (l5 hF.own hex p.1 u).1 hl with ⟨k,hk,hku⟩|⟨_,hu⟩
   ·have:=hF.own.name i hiQ k (hex k hk) p.1 o' u hp' hku
    subst this
    exact absurd hk hni
   ·rw[hF.own.new i hiQ p.1 o' hp']at hu;cases hu
 obtain⟨ρ,hsρ⟩:=hs
 refine Zx (qX hok hsρ) hq' hvc hfresh fun u ρ' w' hqs=>hn _ _ ?_
 have hdd:Ac ops i=o.dst:=by simp[Ac,ho]
 simp only[Aj,hdd]
 exact⟨ρ',hsρ.add hok.K hok.O hdo hfresh hqs⟩
end
/- A statement whose order Go leaves open, with operations that turn memory in its midst: any order. -/
section
open Go Go.RowKit
theorem Km:∀ {l l':List Nat},l.Nodup→(∀x∈l,x∈l')→l.length≤l'.length
 | [],_,_,_=>by simp
 | x :: l,l',hn,h=>by
  have hx:=h x (by simp)
  have:=Km (l:=l) (l':=l'.erase x) (List.nodup_cons.1 hn).2 (fun y hy=>by
   have:y≠x:=fun e=>(List.nodup_cons.1 hn).1 (e▸hy)
   exact(List.mem_erase_of_ne this).2 (h y (by simp[hy])))
  rw[List.length_erase_of_mem hx]at this
  have:=List.length_pos_of_mem hx
  simp only[List.length_cons]
  omega
theorem IW (A:List Nat) (l:Nat) (ps:List (List Nat×Nat)) (D:List Nat):qs ((A,l) :: ps) D=A++qs ps D:=by simp[qs]
structure yX (ops:List Oper) (anc:List (List Nat)) (p0:Nat) (L:List Nat) (ps:List (List Nat×Nat)) (D:List Nat):Prop where
 all:∀i,i<p0→i∈L∨i∈qs ps D∨i∈ps.map (·.2)
 back:∀i,p0≤i→i<ops.length→∀j,j<i→j∈anc.getD i []
 L:∀i∈L,i<p0
 Q:∀i∈qs ps D,i<p0
 lo:∀p∈ps,p.2<p0
 p0:p0≤ops.length
theorem RG {ops:List Oper} {anc:List (List Nat)} {p0:Nat} {L D:List Nat} (h:P6 ops anc p0 L [] D=true):x7 ops anc L D∧(∀i,i<p0→i∈L∨i∈D)∧L.length+D.length=p0∧p0≤ops.length∧(∀i∈L,i<p0)∧(∀i∈D,i<p0)∧(∀i,p0≤i→i<ops.length→∀j,j<i→j∈anc.getD i []):=by
 simp only[P6,Bool.and_eq_true,List.all_eq_true,List.mem_range,Bool.or_eq_true,decide_eq_true_eq,AY]at h
 obtain⟨⟨⟨⟨⟨⟨h1,h2⟩,h3⟩,h4⟩,h5⟩,h6⟩,h7⟩:=h
 refine⟨qOk h1,h2,h3,h4,h5,h6,fun i hi hl j hj=>?_⟩
 rcases h7 i hl with h|h
 ·omega
 ·exact h j hj
theorem JE {ops:List Oper} {anc:List (List Nat)} {p0:Nat} {L D A:List Nat} {l:Nat} {ps:List (List Nat×Nat)} (h:P6 ops anc p0 L ((A,l) :: ps) D=true):x7 ops anc L (A++qs ps D)∧(∃o,ops[l]?=some o∧o.guard=none∧(∀e∈Dv o,e∈L∨e∈A))∧(∀j∈A,j∈anc.getD l [])∧l∉L∧l∉A++qs ps D∧(∀p∈ps,l∈anc.getD p.2 [])∧P6 ops anc p0 (l :: (A++L)) ps D=true:=by
 simp only[P6,Bool.and_eq_true,List.all_eq_true,AY]at h
 obtain⟨⟨⟨h1,h2⟩,h3⟩,h4⟩:=h
 cases ho:ops[l]? with
 | none=>rw[ho]at h2;cases h2
 | some o =>
  rw[ho]at h2
  simp only[Bool.and_eq_true,List.all_eq_true,Bool.or_eq_true,AY,Bool.not_eq_true',Option.isNone_iff_eq_none]at h2
  obtain⟨⟨⟨⟨g1,g2⟩,g3⟩,g4⟩,g5⟩:=h2
  exact⟨qOk h1,⟨o,rfl,g1,g2⟩,g3,fun h=>(by rw[(AY _ _).2 h]at g4;cases g4),fun h=>(by rw[(AY _ _).2 h]at g5;cases g5),h3,h4⟩
theorem RH {ops:List Oper} {anc:List (List Nat)} {p0:Nat}:∀ {ps:List (List Nat×Nat)} {L D:List Nat},P6 ops anc p0 L ps D=true→yX ops anc p0 L ps D
 | [],L,D,h=>by
  obtain⟨_,h1,h2,h3,h4,h5,h6⟩:=RG h
  refine⟨fun i hi=>?_,h6,h4,by simpa[qs] using h5,by simp,h3⟩
  rcases h1 i hi with h|h
  ·exact .inl h
  ·exact .inr (.inl (by simpa[qs] using h))
 | (A,l) :: ps,L,D,h=>by
  obtain⟨_,_,_,_,_,_,h1⟩:=JE h
  have ih:=RH h1
  refine⟨fun i hi=>?_,ih.back,fun i hi=>ih.L i (by simp[hi]),fun i hi=>?_,fun p hp=>?_,ih.p0⟩
  ·rcases ih.all i hi with h|h|h
   ·simp only[List.mem_cons,List.mem_append]at h
    rcases h with rfl|h|h
    ·exact .inr (.inr (by simp))
    ·exact .inr (.inl (by rw[IW];simp[h]))
    ·exact .inl h
   ·exact .inr (.inl (by rw[IW];simp[h]))
   ·exact .inr (.inr (by simp only[List.map_cons,List.mem_cons];exact .inr h))
  ·rw[IW,List.mem_append]at hi
   rcases hi with hi|hi
   ·exact ih.L i (by simp[hi])
   ·exact ih.Q i hi
  ·rcases List.mem_cons.1 hp with rfl|hp
   ·exact ih.L l (by simp)
   ·exact ih.lo p hp
theorem VC {ops:List Oper} {en:Nat→En} {τ:St}:∀ {Q:List Nat} {ens:EN} {pre:List Nat},ens.length=Q.length→(∀(j i:Nat) (e:Nat×AV×List (Nat×Obj)),Q[j]?=some i→ens[j]?=some e→Ac ops i=some e.1∧en i=⟨true,e.2.1,e.2.2⟩) →
  JD ens (Aj ops en τ pre)=Aj ops en τ (Q.reverse++pre)
 | [],[],pre,_,_=>rfl
 | [],_ :: _,_,h,_=>by simp at h
 | _ :: _,[],_,h,_=>by simp at h
 | i :: Q,(d,v,obs) :: ens,pre,hl,h=>by
  obtain⟨h1,h2⟩:=h 0 i (d,v,obs) rfl rfl
  have:(⟨(d,v) :: (Aj ops en τ pre).env,obs++(Aj ops en τ pre).objs⟩:St)=Aj ops en τ (i :: pre):=by simp[Aj,h1,h2,St.add]
  simp only[JD]
  rw[this,VC (by simpa using hl) (fun j k e h3 h4=>h (j+1) k e (by simpa using h3) (by simpa using h4))]
  simp
section
variable {c:Cx} {ops:Array Oper} {anc:List (List Nat)} {p0:Nat} {Kf:St→Prop} {Qe:Exit→Act→World→Prop}
theorem l9 {ps:List (List Nat×Nat)} {L D:List Nat} {ens:EN} {τ:St} (hB:P6 ops.toList anc p0 L ps D=true) (hM:l0 c ops.toList Kf ps D ens τ):Fr c.tb ops.toList anc L (qs ps D) ens τ:=by
 cases ps with
 | nil =>
  have:qs [] D=D:=rfl
  rw[this]
  exact l8 (RG hB).1 hM.1
 | cons p ps =>
  obtain⟨A,l⟩:=p
  rw[IW]
  exact l8 (JE hB).1 hM.1
theorem TY (hanc:TX ops anc) {ps:List (List Nat×Nat)} {L D:List Nat} {ex:List Nat} {listed:Array Bool} (hB:P6 ops.toList anc p0 L ps D=true) (hq:x7 ops.toList anc L (qs ps D)) (hex:∀i∈ex,i∈qs ps D) (hls:listed.size=ops.size)
    (hl:∀i,i<ops.size→(listed.getD i true=true↔i∈L∨i∈ex)) (hf:¬(ps=[]∧∀i∈qs ps D,i∈ex)):∃i,i∈Region.ready .any ops listed:=by
  have gd:∀e b,e<ops.size→listed.getD e b=listed.getD e true:=fun e b he=>by
    have:e<listed.size:=by omega
    simp[Array.getD,this]
  have mk:∀i o,ops[i]?=some o→i∉L→i∉ex→(∀e∈Dv o,e∈L∨e∈ex)→i∈Region.ready .any ops listed:=by
    intro i o ho h1 h2 h3
    have hsz:i<ops.size:=(Array.getElem?_eq_some_iff.1 ho).1
    rw[DX]
    refine⟨?_,o,ho,fun e he=>?_⟩
    · cases hh:listed.getD i true with
      | false=>rfl
      | true => rcases (hl i hsz).1 hh with h | h
                · exact absurd h h1
                · exact absurd h h2
    · have h4:=hanc.lt i o ho e he
      rw[gd e false (by omega)]
      exact(hl e (by omega)).2 (h3 e he)
  by_cases hall:∀i∈qs ps D,i∈ex
  · cases ps with
    | nil=>exact absurd ⟨rfl,hall⟩ hf
    | cons p ps =>
      obtain⟨A,l⟩:=p
      rw[IW]at hall hex
      obtain⟨_,⟨o,ho,_,hd⟩,_,h1,h2,_,_⟩:=JE hB
      refine⟨l,mk l o (by simpa using ho) h1 (fun h=>h2 (hex l h)) fun e he=>?_⟩
      rcases hd e he with h|h
      · exact .inl h
      · exact .inr (hall e (by simp[h]))
  · have key:∀(n j:Nat),j≤n→(∃i,(qs ps D)[j]?=some i∧i∉ex)→∃i,i∈Region.ready .any ops listed:=by
      intro n
      induction n with
      | zero =>
        rintro j hj ⟨i,hi,hne⟩
        have:j=0:=by omega
        subst this
        obtain⟨g1,o,g2,_,g3,_⟩:=hq.pos 0 i hi
        refine⟨i,mk i o (by simpa using g2) g1 hne fun e he=>?_⟩
        rcases g3 e he with h|h
        · exact .inl h
        · simp at h
      | succ n ihn =>
        rintro j hj ⟨i,hi,hne⟩
        by_cases hlow:∃j',j'<j∧∃i',(qs ps D)[j']?=some i'∧i'∉ex
        · obtain⟨j',h1,h2⟩:=hlow
          exact ihn j' (by omega) h2
        · obtain⟨g1,o,g2,_,g3,_⟩:=hq.pos j i hi
          refine⟨i,mk i o (by simpa using g2) g1 hne fun e he=>?_⟩
          rcases g3 e he with h|h
          · exact .inl h
          · right
            obtain⟨j',hj'⟩:=List.mem_iff_getElem?.1 h
            rw[List.getElem?_take]at hj'
            split at hj'
            · rename_i hlt
              apply Classical.byContradiction
              intro hx
              exact hlow ⟨j',hlt,e,hj',hx⟩
            · cases hj'
    have:∃i,i∈qs ps D∧i∉ex:=by
      apply Classical.byContradiction
      intro hno
      exact hall fun i hi=>Classical.byContradiction fun hx=>hno ⟨i,hi,hx⟩
    obtain⟨i,hi,hne⟩:=this
    obtain⟨j,hj⟩:=List.mem_iff_getElem?.1 hi
    exact key j j (Nat.le_refl _) ⟨i,hj,hne⟩
theorem TZ (hanc:TX ops anc) (hT:∀τ,Kf τ→∀a w,c.sat τ a w→wpListIn (FR c.r) 0 c.P ops Qe (ops.toList.drop p0) a w) {m:Nat} {L D:List Nat} {ens:EN} {τ:St} {ex:List Nat} {listed:Array Bool} {a:Act} {w:World}
  (hB:P6 ops.toList anc p0 L [] D=true) (hM:l0 c ops.toList Kf [] D ens τ) (hnd:(L++ex).Nodup) (hex:∀i∈ex,i∈D) (hm:m+L.length+ex.length=ops.size) (hls:listed.size=ops.size) (hl:∀i,i<ops.size→(listed.getD i true=true↔i∈L∨i∈ex))
  (hs:c.sat (Aj ops.toList (ML D ens) τ ex) a w) (hall:∀i∈D,i∈ex):wpAnyIn (FR c.r) 0 c.P .any ops Qe m listed a w:=by
 obtain⟨hq,h1,h2,h3,h4,h5,h6⟩:=RG hB
 have hF:=l8 hq hM.1
 have hlen:ex.length=D.length:=Nat.le_antisymm (Km (List.nodup_append.1 hnd).2.1 hex) (Km hq.nodup hall)
 have hm':m=(ops.toList.drop p0).length:=by
  simp only[List.length_drop,Array.length_toList]
  omega
 have hadd:JD ens τ=Aj ops.toList (ML D ens) τ D.reverse:=by
  have:=VC (ops:=ops.toList) (en:=ML D ens) (τ:=τ) (pre:=[]) hF.len (fun j i e h7 h8=>by
   obtain⟨o,e',_,h9,h10,h11,_⟩:=hF.at_ j i h7
   rw[h8]at h9;cases h9
   exact⟨h10,h11⟩)
  simpa[Aj] using this
 have hs':c.sat (JD ens τ) a w:=by
  rw[hadd]
  have hr:∀i∈D.reverse,i∈D:=fun i hi=>by simpa using hi
  have hme:∀i,i∈ex↔i∈D.reverse:=fun i=>⟨fun h=>by simpa using hex i h,fun h=>hall i (by simpa using h)⟩
  refine Q6 (fun s=>Option.ext fun v=>?_) (fun n=>Option.ext fun o=>?_) hs
  ·rw[l4 hF.own hr,l4 hF.own hex]
   simp only[hme]
  ·rw[l5 hF.own hr,l5 hF.own hex]
   simp only[hme]
 have:=OL (Q:=Qe) (F:=FR c.r) (P:=c.P) hanc (k:=p0) (fun i o ho hi j hj=>h6 i hi (by have:=(Array.getElem?_eq_some_iff.1 ho).1;simpa using this) j hj) (rest:=ops.toList.drop p0) (p:=p0) (listed:=listed) (a:=a) (w:=w) rfl (Nat.le_refl _) (by simpa using h3) hls
  (fun i hi=>by
   rw[hl i hi]
   constructor
   ·rintro (h|h)
    ·exact h4 i h
    ·exact h5 i (hex i h)
   ·intro h
    rcases h1 i h with h|h
    ·exact .inl h
    ·exact .inr (hall i h)) (hT _ hM.2 a w hs')
 rw[hm']
 exact this
theorem rE (hok:c.Ok) (hdst:∀o∈ops.toList,IK c.nt o=true) (hanc:TX ops anc) (hT:∀τ,Kf τ→∀a w,c.sat τ a w→wpListIn (FR c.r) 0 c.P ops Qe (ops.toList.drop p0) a w) :
  ∀(m:Nat) (ps:List (List Nat×Nat)) (L D:List Nat) (ens:EN) (τ:St) (ex:List Nat) (listed:Array Bool) (a:Act) (w:World),P6 ops.toList anc p0 L ps D=true→l0 c ops.toList Kf ps D ens τ→(L++ex).Nodup→(∀i∈ex,i∈qs ps D) →
   m+L.length+ex.length=ops.size→listed.size=ops.size→(∀i,i<ops.size→(listed.getD i true=true↔i∈L∨i∈ex))→(∀i o,ops[i]?=some o→(i∈L∨i∈ex)→∀e∈Dv o,e∈L∨e∈ex) →
   c.sat (Aj ops.toList (ML (qs ps D) ens) τ ex) a w→wpAnyIn (FR c.r) 0 c.P .any ops Qe m listed a w:=by
 intro m
 induction m with
 | zero =>
  intro ps L D ens τ ex listed a w hB hM hnd hex hm hls hl hcl hs
  have hF:=l9 hB hM
  by_cases hf:ps=[]∧∀i∈qs ps D,i∈ex
  ·obtain⟨rfl,hall⟩:=hf
   exact TZ hanc hT hB hM hnd hex hm hls hl hs hall
  ·exfalso
   obtain⟨i,hi⟩:=TY hanc hB hF.q hex hls hl hf
   rw[DX]at hi
   obtain⟨h1,o,ho,_⟩:=hi
   have hsz:i<ops.size:=(Array.getElem?_eq_some_iff.1 ho).1
   have hne:i∉L++ex:=fun h=>by
    rw[(hl i hsz).2 (List.mem_append.1 h)]at h1;cases h1
   have hcv:=RH hB
   have:=D8 ops.size (i :: (L++ex)) (List.nodup_cons.2 ⟨hne,hnd⟩) (fun j hj=>by
    have hp:=hcv.p0
    simp only[Array.length_toList]at hp
    rcases List.mem_cons.1 hj with rfl|hj
    ·exact hsz
    ·rcases List.mem_append.1 hj with hj|hj
     ·have:=hcv.L j hj;omega
     ·have:=hcv.Q j (hex j hj);omega)
   simp only[List.length_cons,List.length_append]at this
   omega
 | succ m ih =>
  intro ps L D ens τ ex listed a w hB hM hnd hex hm hls hl hcl hs
  have hF:=l9 hB hM
  have hcv:=RH hB
  have gd:∀e b,e<ops.size→listed.getD e b=listed.getD e true:=fun e b he=>by
   have:e<listed.size:=by omega
   simp[Array.getD,this]
  by_cases hf:ps=[]∧∀i∈qs ps D,i∈ex
  ·obtain⟨rfl,hall⟩:=hf
   exact TZ hanc hT hB hM hnd hex hm hls hl hs hall
  ·refine⟨fun hnil=>?_,fun i hi=>?_⟩
   ·obtain⟨i,hi⟩:=TY hanc hB hF.q hex hls hl hf
    rw[hnil]at hi
    cases hi
   ·rw[DX]at hi
    obtain⟨h1,o,ho,h2⟩:=hi
    have hsz:i<ops.size:=(Array.getElem?_eq_some_iff.1 ho).1
    have hne:¬(i∈L∨i∈ex):=fun h=>by rw[(hl i hsz).2 h]at h1;cases h1
    have hdir:∀e∈Dv o,e∈L∨e∈ex:=fun e he=>by
     have h3:=hanc.lt i o ho e he
     have h4:=h2 e he
     rw[gd e false (by omega)]at h4
     exact(hl e (by omega)).1 h4
    have hancs:∀j∈anc.getD i [],j∈L∨j∈ex:=by
     have hcl':∀i o,ops[i]?=some o→listed.getD i true=true→∀e∈Dv o,listed.getD e false=true:=by
      intro i o ho h1 e he
      have hsz:i<ops.size:=(Array.getElem?_eq_some_iff.1 ho).1
      have h3:=hanc.lt i o ho e he
      rw[gd e false (by omega)]
      exact(hl e (by omega)).2 (hcl i o ho ((hl i hsz).1 h1) e he)
     intro j hj
     have h3:=PU hanc hcl' i o ho h2 j hj
     by_cases hjs:j<ops.size
     ·rw[gd j false hjs]at h3
      exact(hl j hjs).1 h3
     ·have:¬j<listed.size:=by omega
      simp[Array.getD,this]at h3
    have hol:ops.toList[i]?=some o:=by simpa using ho
    have hmem:o∈ops.toList:=List.mem_of_getElem? hol
    have hdo:=Bh (hdst o hmem)
    have hlist:∀(S:List Nat),(∀j,j∈S↔j=i∨j∈L∨j∈ex)→∀j,j<ops.size→((listed.setIfInBounds i true).getD j true=true↔j∈S):=by
     intro S hS j hj
     have hjl:j<listed.size:=by omega
     rw[hS]
     by_cases hji:j=i
     ·subst hji
      simp[Array.getD,hjl]
     ·have h3:(listed.setIfInBounds i true).getD j true=listed.getD j true:=getD_set_ne true (fun e=>hji e.symm)
      rw[h3,hl j hj]
      simp[hji]
    have hwant:∀ {g:Option (Nat×Bool)},g=none→o.guard=g→Region.wanted o (yielded ops a.tmps)=true:=by
     intro g hg e
     simp[Region.wanted,e,hg]
    by_cases hiQ:i∈qs ps D
    ·obtain⟨j,hj⟩:=List.mem_iff_getElem?.1 hiQ
     obtain⟨_,o2,ho2,hg,_,_⟩:=hF.q.pos j i hj
     rw[hol]at ho2;cases ho2
     unfold wpOpIn
     rw[ho]
     simp only
     rw[if_pos (hwant rfl hg)]
     refine Yl hok hF hex hj hol (fun h=>hne (.inr h)) (fun k hk hkQ=>?_) hdo hs fun a' w' hs'=>?_
     ·rcases hancs k hk with h|h
      ·obtain⟨jk,hjk⟩:=List.mem_iff_getElem?.1 hkQ
       exact absurd h (hF.q.pos jk k hjk).1
      ·exact h
     ·refine ih ps L D ens τ (i :: ex) _ a' w' hB hM ?_ (fun k hk=>?_) (by simp only[List.length_cons];omega) (by simpa using hls) (fun k hk=>?_) (fun i' o' ho' hi' e he=>?_) hs'
      ·rw[List.nodup_append]at hnd ⊢
       refine⟨hnd.1,List.nodup_cons.2 ⟨fun h=>hne (.inr h),hnd.2.1⟩,fun x hx y hy=>?_⟩
       rcases List.mem_cons.1 hy with rfl|hy
       ·exact fun e=>hne (.inl (e▸hx))
       ·exact hnd.2.2 x hx y hy
      ·rcases List.mem_cons.1 hk with rfl|hk
       ·exact hiQ
       ·exact hex k hk
      ·rw[hlist (i :: (L++ex)) (fun j=>by simp) k hk]
       simp only[List.mem_cons,List.mem_append]
       constructor
       ·rintro (h|h|h)
        ·exact .inr (.inl h)
        ·exact .inl h
        ·exact .inr (.inr h)
       ·rintro (h|h|h)
        ·exact .inr (.inl h)
        ·exact .inl h
        ·exact .inr (.inr h)
      ·have:e∈L∨e∈ex:=by
        rcases hi' with h|h
        ·exact hcl i' o' ho' (.inl h) e he
        ·rcases List.mem_cons.1 h with rfl|h
         ·rw[ho]at ho';cases ho'
          exact hdir e he
         ·exact hcl i' o' ho' (.inr h) e he
       rcases this with h|h
       ·exact .inl h
       ·exact .inr (by simp[h])
    · -- no operation of the front
     have hnotback:¬p0≤i:=by
      intro hge
      have hb:=hcv.back i hge (by simpa using hsz)
      cases ps with
      | nil =>
       refine hf ⟨rfl,fun j hj=>?_⟩
       have h3:=hcv.Q j hj
       rcases hancs j (hb j (by omega)) with h|h
       ·obtain⟨jk,hjk⟩:=List.mem_iff_getElem?.1 hj
        exact absurd h (hF.q.pos jk j hjk).1
       ·exact h
      | cons p ps =>
       obtain⟨A,l⟩:=p
       obtain⟨_,_,_,h5,h6,_,_⟩:=JE hB
       have h3:=hcv.lo (A,l) (by simp)
       simp only at h3
       rcases hancs l (hb l (by omega)) with h|h
       ·exact h5 h
       ·exact h6 (by rw[←IW A l];exact hex l h)
     cases ps with
     | nil =>
      rcases hcv.all i (by omega) with h|h|h
      ·exact absurd (.inl h) hne
      ·exact absurd h hiQ
      ·cases h
     | cons p ps =>
      obtain⟨A,l⟩:=p
      obtain⟨_,⟨ol,hol2,hgl,hdl⟩,hAl,h5,h6,h7,hB2⟩:=JE hB
      have hil:i=l:=by
       rcases hcv.all i (by omega) with h|h|h
       ·exact absurd (.inl h) hne
       ·exact absurd h hiQ
       ·simp only[List.map_cons,List.mem_cons,List.mem_map]at h
        rcases h with h|⟨p,hp,rfl⟩
        ·exact h
        ·rcases hancs l (h7 p hp) with h|h
         ·exact absurd h h5
         ·exact absurd (hex l h) (by rw[IW];exact h6)
      subst hil
      rw[hol]at hol2;cases hol2
      rw[IW]at hF hex hs hiQ
      obtain⟨hM1,o',ho',hL⟩:=hM
      rw[hol]at ho';cases ho'
      have hAex:∀j∈A,j∈ex:=fun j hj=>by
       rcases hancs j (hAl j hj) with h|h
       ·obtain⟨jk,hjk⟩:=List.mem_iff_getElem?.1 (show j∈A++qs ps D by simp[hj])
        exact absurd h (hF.q.pos jk j hjk).1
       ·exact h
      have hAn:A.Nodup∧(qs ps D).Nodup∧∀x∈A,∀y∈qs ps D,x≠y:=List.nodup_append.1 hF.q.nodup
      have hadd:JD (ens.take A.length) τ=Aj ops.toList (ML (A++qs ps D) ens) τ A.reverse:=by
       have:=VC (ops:=ops.toList) (en:=ML (A++qs ps D) ens) (τ:=τ) (pre:=[]) (Q:=A) (ens:=ens.take A.length) (by have:=hF.len;simp only[List.length_append]at this;simp only[List.length_take];omega) (fun j i e h8 h9=>by
        have hjA:j<A.length:=(List.getElem?_eq_some_iff.1 h8).1
        obtain⟨o,e',_,h10,h11,h12,_⟩:=hF.at_ j i (by rw[List.getElem?_append_left hjA];exact h8)
        rw[List.getElem?_take,if_pos hjA,h10]at h9
        cases h9
        exact⟨h11,h12⟩)
       simpa[Aj] using this
      have hsplit:=hC (A:=A.reverse) hF.own hex (fun j hj=>hAex j (by simpa using hj))
      rw[←hadd]at hsplit
      have mf:∀j,j∈ex.filter (fun j=>!AX j A.reverse)↔j∈ex∧j∉A:=fun j=>by
       rw[List.mem_filter]
       have:=AY j A.reverse
       constructor
       ·rintro⟨h8,h9⟩;exact⟨h8,fun h10=>by rw[this.2 (by simpa using h10)]at h9;cases h9⟩
       ·rintro⟨h8,h9⟩
        refine⟨h8,?_⟩
        cases hmm:AX j A.reverse with
        | false=>rfl
        | true=>exact absurd (by simpa using this.1 hmm) h9
      have hQ':∀j∈ex.filter (fun j=>!AX j A.reverse),j∈qs ps D:=fun j hj=>by
       have:=hex j ((mf j).1 hj).1
       rcases List.mem_append.1 this with h|h
       ·exact absurd h ((mf j).1 hj).2
       ·exact h
      have hents:∀j∈qs ps D,∃(jk:Nat) (e:Nat×AV×List (Nat×Obj)),(qs ps D)[jk]?=some j∧(ens.drop A.length)[jk]?=some e∧Ac ops.toList j=some e.1∧ML (A++qs ps D) ens j=⟨true,e.2.1,e.2.2⟩:=by
       intro j hj
       obtain⟨jk,hjk⟩:=List.mem_iff_getElem?.1 hj
       obtain⟨o,e,_,h10,h11,h12,_⟩:=hF.at_ (A.length+jk) j (by rw[List.getElem?_append_right (by omega),Nat.add_sub_cancel_left];exact hjk)
       exact⟨jk,e,hjk,by rw[List.getElem?_drop];exact h10,h11,h12⟩
      have hown0:xF ops.toList (ML (A++qs ps D) ens) ⟨[],[]⟩ (A++qs ps D):=⟨hF.own.slot,fun _ _ _ _ _=>rfl,hF.own.name⟩
      have hexf:∀j∈ex.filter (fun j=>!AX j A.reverse),j∈A++qs ps D:=fun j hj=>by simp[hQ' j hj]
      unfold wpOpIn
      rw[ho]
      simp only
      rw[if_pos (hwant rfl hgl)]
      refine hL _ _ hsplit ⟨fun s v hv=>?_,fun n o' hn=>?_⟩ a w _ _ hs fun τ' hN a' w' τ'' hext hs''=>?_
      ·rcases (l4 hown0 hexf s v).1 hv with ⟨j,hj,hd,rfl⟩|⟨_,hv⟩
       ·obtain⟨jk,e,_,h9,h10,h11⟩:=hents j (hQ' j hj)
        rw[hd]at h10
        cases h10
        rw[h11]
        exact⟨e.2.2,List.mem_of_getElem? h9⟩
       ·cases hv
      ·rcases (l5 hown0 hexf n o').1 hn with ⟨j,hj,hd⟩|⟨_,hv⟩
       ·obtain⟨jk,e,_,h9,h10,h11⟩:=hents j (hQ' j hj)
        rw[h11]at hd
        exact⟨e,List.mem_of_getElem? h9,FY hd⟩
       ·cases hv
      ·have hFlen:ex.length=A.length+(ex.filter (fun j=>!AX j A.reverse)).length:=by
        have hsum:∀l:List Nat,l.length=(l.filter (fun j=>AX j A.reverse)).length+(l.filter (fun j=>!AX j A.reverse)).length:=by
         intro l
         induction l with
         | nil=>rfl
         | cons x r ihr =>
          simp only[List.filter_cons,List.length_cons]
          cases AX x A.reverse<;>simp<;>omega
        rw[hsum ex]
        have hexn:=(List.nodup_append.1 hnd).2.1
        have h8:(ex.filter (fun j=>AX j A.reverse)).length≤A.length:=Km (hexn.filter _) fun x hx=>by
         have:=(AY _ _).1 (List.mem_filter.1 hx).2
         simpa using this
        have h9:A.length≤(ex.filter (fun j=>AX j A.reverse)).length:=Km hAn.1 fun x hx=>List.mem_filter.2 ⟨hAex x hx,(AY _ _).2 (by simpa using hx)⟩
        omega
       have hLe:∀x,(x∈i :: (A++L)∨x∈ex.filter (fun j=>!AX j A.reverse))↔x=i∨x∈L∨x∈ex:=by
        intro x
        rw[mf]
        simp only[List.mem_cons,List.mem_append]
        constructor
        ·rintro ((h|h|h)|h)
         ·exact .inl h
         ·exact .inr (.inr (hAex x h))
         ·exact .inr (.inl h)
         ·exact .inr (.inr h.1)
        ·rintro (h|h|h)
         ·exact .inl (.inl h)
         ·exact .inl (.inr (.inr h))
         ·by_cases hx:x∈A
          ·exact .inl (.inr (.inl hx))
          ·exact .inr ⟨h,hx⟩
       refine ih ps (i :: (A++L)) D (ens.drop A.length) τ' (ex.filter fun j=>!AX j A.reverse) _ a' w' hB2 hN ?_ hQ' (by simp only[List.length_cons,List.length_append];omega) (by simpa using hls) (fun k hk=>?_) (fun i' o' ho' hi' e he=>?_) ?_
       ·obtain⟨n1,n2,n3⟩:=List.nodup_append.1 hnd
        have hAL:∀x∈A,x∉L:=fun x hx hxL=>n3 x hxL x (hAex x hx) rfl
        rw[List.nodup_append]
        refine⟨List.nodup_cons.2 ⟨fun h=>?_,List.nodup_append.2 ⟨hAn.1,n1,fun x hx y hy e=>hAL x hx (e▸hy)⟩⟩,n2.filter _,fun x hx y hy e=>?_⟩
        ·rcases List.mem_append.1 h with h|h
         ·exact hne (.inr (hAex i h))
         ·exact hne (.inl h)
        ·subst e
         obtain⟨q1,q2⟩:=(mf x).1 hy
         rcases List.mem_cons.1 hx with rfl|hx
         ·exact hne (.inr q1)
         ·rcases List.mem_append.1 hx with hx|hx
          ·exact q2 hx
          ·exact n3 x hx x q1 rfl
       ·rw[hLe k,hlist (i :: (L++ex)) (fun j=>by simp) k hk]
        simp
       ·rw[hLe]
        have:e∈L∨e∈ex:=by
         rcases (hLe i').1 hi' with rfl|h
         ·rw[ho]at ho';cases ho'
          exact hdir e he
         ·exact hcl i' o' ho' h e he
        exact .inr this
       ·have hzz:∀j∈ex.filter (fun j=>!AX j A.reverse),ML (qs ps D) (ens.drop A.length) j=ML (A++qs ps D) ens j:=fun j hj=>by
         obtain⟨jk,e,h8,h9,_,h11⟩:=hents j (hQ' j hj)
         rw[h11]
         exact Yk hAn.2.1 jk j e h8 h9
        have hx:=l3 (ops:=ops.toList) (en:=ML (qs ps D) (ens.drop A.length)) (τ:=τ') (ex.filter fun j=>!AX j A.reverse)
        rw[Je (en:=ML (A++qs ps D) ens) (σ0:=⟨[],[]⟩) hzz]at hx
        exact Q6 (fun s=>by rw[hx.env,hext.env]) (fun n=>by rw[hx.objs,hext.objs]) hs''
end
section
variable {c:Cx} {R:Exit→Act→World→Prop} {k:List DU} {σ:St}
theorem Cp (hm:c.P.follows .mixedOrders=true) (hc:c.Ok) {id:Nat} {l:List Oper} (p0:Nat) (ps:List (List Nat×Nat)) (D:List Nat) (hchk:(xE l (lR l)&&P6 l (lR l) p0 [] ps D)=true) {ens:EN}
  (h:l0 c l (fun τ=>HB c R k l.toArray (l.drop p0) τ) ps D ens σ):Ev c R (.run (.region id l.toArray true)) k σ:=by
 intro h1 h2 a w hs
 simp only[IL,CC,List.all_eq_true]at h1
 simp only[Bool.and_eq_true]at hchk
 refine wpIn_region_any hm ?_
 have hk:∀τ,HB c R k l.toArray (l.drop p0) τ→∀a w,c.sat τ a w→wpListIn (FR c.r) 0 c.P l.toArray (Q0 c R k) (l.toArray.toList.drop p0) a w:=fun τ hE a w hs=>hE (fun o ho=>h1 o (by simpa using List.mem_of_mem_drop ho)) h2 a w hs
 exact rE (ops:=l.toArray) (anc:=lR l) hc (by simpa using h1) (yW (by simpa using hchk.1)) hk l.toArray.size ps [] D ens σ [] (Array.replicate l.toArray.size false) a { w with drawn:=w.drawn+1 } (by simpa using hchk.2) (by simpa using h) (by simp) (by simp) (by simp) (by simp) (fun i hi=>by simp at hi;simp[Array.getD,hi]) (fun i o _ hi=>by simp at hi) (WQ hs)
end
end
/- Operations that turn memory do so whatever else there is. -/
section
open Go Go.RowKit
section
variable {n:Nat} {ns:List Nat}
theorem GD {m:Nat} (hn:n∈ns) (h:¬AX m ns=true):¬m=n:=fun e=>h ((AY _ _).2 (e▸hn))
mutual
theorem RI (hn:n∈ns) {e:Ty} {xs:List e.den}:∀(x:AV),x.fgt ns=x→x.frz n e xs=x
 | .sr m e' lo hi,h=>by
  simp only[AV.fgt]at h
  split at h
  ·cases h
  ·rename_i hm;simp only[AV.frz,if_neg (GD hn hm)]
 | .ep m e' i path off,h=>by
  simp only[AV.fgt]at h
  split at h
  ·cases h
  ·rename_i hm;simp only[AV.frz,if_neg (GD hn hm)]
 | .nin m e' i len,h=>by
  simp only[AV.fgt]at h
  split at h
  ·cases h
  ·rename_i hm;simp only[AV.frz,if_neg (GD hn hm)]
 | .ag l,h=>by
  simp only[AV.fgt,AV.ag.injEq]at h
  simp only[AV.frz,frzs_of_fgt hn l h]
 | .tup l,h=>by
  simp only[AV.fgt,AV.tup.injEq]at h
  simp only[AV.frz,frzs_of_fgt hn l h]
 | .p _ _,_=>rfl
 | .pc _ _,_=>rfl
 | .raw _,_=>rfl
 | .ip _ _,_=>rfl
 | .bp _ _ _,_=>rfl
 | .fn _,_=>rfl
 | .clo _ _,_=>rfl
 | .mp _,_=>rfl
 | .yl _,_=>rfl
 | .top,_=>rfl
theorem frzs_of_fgt (hn:n∈ns) {e:Ty} {xs:List e.den}:∀(l:List AV),AV.fgts ns l=l→AV.frzs n e xs l=l
 | [],_=>rfl
 | x :: r,h=>by
  simp only[AV.fgts,List.cons.injEq]at h
  simp only[AV.frzs,RI hn x h.1,frzs_of_fgt hn r h.2]
end
mutual
theorem RJ (hn:n∈ns):∀(x:AV),x.fgt ns=x→x.drp n=x
 | .sr m e' lo hi,h=>by
  simp only[AV.fgt]at h
  split at h
  ·cases h
  ·rename_i hm;simp only[AV.drp,if_neg (GD hn hm)]
 | .ep m e' i path off,h=>by
  simp only[AV.fgt]at h
  split at h
  ·cases h
  ·rename_i hm;simp only[AV.drp,if_neg (GD hn hm)]
 | .nin m e' i len,h=>by
  simp only[AV.fgt]at h
  split at h
  ·cases h
  ·rename_i hm;simp only[AV.drp,if_neg (GD hn hm)]
 | .ag l,h=>by
  simp only[AV.fgt,AV.ag.injEq]at h
  simp only[AV.drp,drps_of_fgt hn l h]
 | .tup l,h=>by
  simp only[AV.fgt,AV.tup.injEq]at h
  simp only[AV.drp,drps_of_fgt hn l h]
 | .p _ _,_=>rfl
 | .pc _ _,_=>rfl
 | .raw _,_=>rfl
 | .ip _ _,_=>rfl
 | .bp _ _ _,_=>rfl
 | .fn _,_=>rfl
 | .clo _ _,_=>rfl
 | .mp _,_=>rfl
 | .yl _,_=>rfl
 | .top,_=>rfl
theorem drps_of_fgt (hn:n∈ns):∀(l:List AV),AV.fgts ns l=l→AV.drps n l=l
 | [],_=>rfl
 | x :: r,h=>by
  simp only[AV.fgts,List.cons.injEq]at h
  simp only[AV.drps,RJ hn x h.1,drps_of_fgt hn r h.2]
end
end
section
variable {n:Nat} {ns tl:List Nat}
theorem Dw (htl:∀n,n∈tl→n∈ns) {m:Nat} (h:¬AX m ns=true):¬AX m tl=true:=fun h1=>h ((AY _ _).2 (htl _ ((AY _ _).1 h1)))
theorem aH (htl:∀n,n∈tl→n∈ns) {l:List Nat} (h:¬(l.any fun m=>AX m ns)=true):¬(l.any fun m=>AX m tl)=true:=fun h1=>by
 obtain⟨m,hm,h2⟩:=List.any_eq_true.1 h1
 exact h (List.any_eq_true.2 ⟨m,hm,(AY _ _).2 (htl _ ((AY _ _).1 h2))⟩)
mutual
theorem RK (htl:∀n,n∈tl→n∈ns):∀(x:AV),x.fgt ns=x→x.fgt tl=x
 | .sr m e' lo hi,h=>by
  simp only[AV.fgt]at h
  split at h
  ·cases h
  ·rename_i hm;simp only[AV.fgt,if_neg (Dw htl hm)]
 | .ep m e' i path off,h=>by
  simp only[AV.fgt]at h
  split at h
  ·cases h
  ·rename_i hm;simp only[AV.fgt,if_neg (Dw htl hm)]
 | .nin m e' i len,h=>by
  simp only[AV.fgt]at h
  split at h
  ·cases h
  ·rename_i hm;simp only[AV.fgt,if_neg (Dw htl hm)]
 | .bp m path off,h=>by
  simp only[AV.fgt]at h
  split at h
  ·cases h
  ·rename_i hm;simp only[AV.fgt,if_neg (Dw htl hm)]
 | .mp m,h=>by
  simp only[AV.fgt]at h
  split at h
  ·cases h
  ·rename_i hm;simp only[AV.fgt,if_neg (Dw htl hm)]
 | .yl m,h=>by
  simp only[AV.fgt]at h
  split at h
  ·cases h
  ·rename_i hm;simp only[AV.fgt,if_neg (Dw htl hm)]
 | .clo f cs,h=>by
  simp only[AV.fgt]at h
  split at h
  ·cases h
  ·rename_i hm;simp only[AV.fgt,if_neg (aH htl hm)]
 | .ag l,h=>by
  simp only[AV.fgt,AV.ag.injEq]at h
  simp only[AV.fgt,fgts_of_fgt htl l h]
 | .tup l,h=>by
  simp only[AV.fgt,AV.tup.injEq]at h
  simp only[AV.fgt,fgts_of_fgt htl l h]
 | .p _ _,_=>rfl
 | .pc _ _,_=>rfl
 | .raw _,_=>rfl
 | .ip _ _,_=>rfl
 | .fn _,_=>rfl
 | .top,_=>rfl
theorem fgts_of_fgt (htl:∀n,n∈tl→n∈ns):∀(l:List AV),AV.fgts ns l=l→AV.fgts tl l=l
 | [],_=>rfl
 | x :: r,h=>by
  simp only[AV.fgts,List.cons.injEq]at h
  simp only[AV.fgts,RK htl x h.1,fgts_of_fgt htl r h.2]
end
mutual
theorem RL (hn:n∈ns) (htl:∀n,n∈tl→n∈ns):∀(x:AV),x.fgt ns=x→x.trn n tl=x
 | .sr m e' lo hi,h=>by
  simp only[AV.fgt]at h
  split at h
  ·cases h
  ·rename_i hm;simp only[AV.trn,if_neg (Dw htl hm)]
 | .ep m e' i path off,h=>by
  simp only[AV.fgt]at h
  split at h
  ·cases h
  ·rename_i hm;simp only[AV.trn,if_neg (Dw htl hm)]
 | .nin m e' i len,h=>by
  simp only[AV.fgt]at h
  split at h
  ·cases h
  ·rename_i hm;simp only[AV.trn];rw[if_neg fun h=>h.elim (GD hn hm) (Dw htl hm)]
 | .bp m path off,h=>by
  simp only[AV.fgt]at h
  split at h
  ·cases h
  ·rename_i hm;simp only[AV.trn,if_neg (Dw htl hm)]
 | .mp m,h=>by
  simp only[AV.fgt]at h
  split at h
  ·cases h
  ·rename_i hm;simp only[AV.trn,if_neg (Dw htl hm)]
 | .yl m,h=>by
  simp only[AV.fgt]at h
  split at h
  ·cases h
  ·rename_i hm;simp only[AV.trn,if_neg (Dw htl hm)]
 | .clo f cs,h=>by
  simp only[AV.fgt]at h
  split at h
  ·cases h
  ·rename_i hm;simp only[AV.trn,if_neg (aH htl hm)]
 | .ag l,h=>by
  simp only[AV.fgt,AV.ag.injEq]at h
  simp only[AV.trn,trns_of_fgt hn htl l h]
 | .tup l,h=>by
  simp only[AV.fgt,AV.tup.injEq]at h
  simp only[AV.trn,trns_of_fgt hn htl l h]
 | .p _ _,_=>rfl
 | .pc _ _,_=>rfl
 | .raw _,_=>rfl
 | .ip _ _,_=>rfl
 | .fn _,_=>rfl
 | .top,_=>rfl
theorem trns_of_fgt (hn:n∈ns) (htl:∀n,n∈tl→n∈ns):∀(l:List AV),AV.fgts ns l=l→AV.trns n tl l=l
 | [],_=>rfl
 | x :: r,h=>by
  simp only[AV.fgts,List.cons.injEq]at h
  simp only[AV.trns,RL hn htl x h.1,trns_of_fgt hn htl r h.2]
end
end
def Jg:AV→Bool
 | .raw _=>true
 | .p _ _=>true
 | _=>false
def Kn:Obj→Bool
 | .arr _ _ _=>true
 | .box _ _ fs=>fs.all Jg
 | _=>false
theorem RM {n:Nat} {e:Ty} {xs:List e.den}:∀fs:List AV,fs.all Jg=true→AV.frzs n e xs fs=fs
 | [],_=>rfl
 | x :: r,h=>by
  rw[List.all_cons,Bool.and_eq_true]at h
  simp only[AV.frzs,RM r h.2]
  cases x<;>first|rfl|(have:=h.1;simp[Jg]at this)
theorem RN {n:Nat}:∀fs:List AV,fs.all Jg=true→AV.drps n fs=fs
 | [],_=>rfl
 | x :: r,h=>by
  rw[List.all_cons,Bool.and_eq_true]at h
  simp only[AV.drps,RN r h.2]
  cases x<;>first|rfl|(have:=h.1;simp[Jg]at this)
theorem hU {n:Nat} {e:Ty} {xs:List e.den} {o:Obj} (h:Kn o=true):Obj.frz n e xs o=o:=by
 cases o with
 | box et st fs=>simp only[Obj.frz,RM fs h]
 | arr et e' ys=>rfl
 | _=>cases h
theorem hZ {n:Nat} {o:Obj} (h:Kn o=true):Obj.drp n o=o:=by
 cases o with
 | box et st fs=>simp only[Obj.drp,RN fs h]
 | arr et e' ys=>rfl
 | _=>cases h
theorem RO {hs:List Nat}:∀fs:List AV,fs.all Jg=true→AV.fgts hs fs=fs
 | [],_=>rfl
 | x :: r,h=>by
  rw[List.all_cons,Bool.and_eq_true]at h
  simp only[AV.fgts,RO r h.2]
  cases x<;>first|rfl|(have:=h.1;simp[Jg]at this)
theorem Ta {hs:List Nat} {o:Obj} (h:Kn o=true):Obj.fgt hs o=o:=by
 cases o with
 | box et st fs=>simp only[Obj.fgt,RO fs h]
 | arr et e' ys=>rfl
 | _=>cases h
theorem RP {n:Nat} {hs:List Nat}:∀fs:List AV,fs.all Jg=true→AV.trns n hs fs=fs
 | [],_=>rfl
 | x :: r,h=>by
  rw[List.all_cons,Bool.and_eq_true]at h
  simp only[AV.trns,RP r h.2]
  cases x<;>first|rfl|(have:=h.1;simp[Jg]at this)
theorem Tc {n:Nat} {hs:List Nat} {o:Obj} (h:Kn o=true):Obj.trn n hs o=o:=by
 cases o with
 | box et st fs=>simp only[Obj.trn,RP fs h]
 | arr et e' ys=>rfl
 | _=>cases h
structure Hm (X σ:St) (ns:List Nat):Prop where
 env:∀s v,lk s X.env=some v→v.fgt ns=v
 arr:∀n o,lk n X.objs=some o→Kn o=true
 new:∀n o,lk n X.objs=some o→lk n σ.objs=none
 nm:∀n o,lk n X.objs=some o→n∉ns
section
variable {σ σ' X:St} {ns:List Nat}
theorem Lo.lkn (hx:Lo σ σ' X) (ha:Hm X σ ns) {n:Nat} (hn:n∈ns):lk n σ'.objs=lk n σ.objs:=by
 rw[hx.objs]
 cases hX:lk n X.objs with
 | none=>rfl
 | some o=>exact absurd hn (ha.nm n o hX)
theorem Lo.obs (hx:Lo σ σ' X) (ha:Hm X σ ns):YJ σ σ':=by
 intro n o hn
 rw[hx.objs]
 cases hX:lk n X.objs with
 | none=>exact hn
 | some o'=>rw[ha.new n o' hX]at hn;cases hn
theorem rF {n:Nat} (hx:Lo σ σ' X) (ha:Hm X σ ns) (hn:n∈ns):Lo (frz n σ) (frz n σ') X∧Hm X (frz n σ) ns:=by
 unfold frz
 split
 ·exact⟨hx,ha⟩
 have core:∀(e:Ty) (xs:List e.den),Lo ⟨CU n e xs σ.env,Aq n e xs (del n σ.objs)⟩ ⟨CU n e xs σ'.env,Aq n e xs (del n σ'.objs)⟩ X∧Hm X ⟨CU n e xs σ.env,Aq n e xs (del n σ.objs)⟩ ns:=by
  intro e xs
  refine⟨⟨fun s=>?_,fun m=>?_⟩,ha.env,ha.arr,fun m o hm=>?_,ha.nm⟩
  ·simp only[LK,hx.env]
   cases hX:lk s X.env with
   | none=>rfl
   | some v=>simp[RI hn v (ha.env s v hX)]
  ·simp only[CN,Nx]
   by_cases hm:m=n
   ·subst hm
    cases hX:lk m X.objs with
    | none=>simp
    | some o=>exact absurd hn (ha.nm m o hX)
   ·simp only[if_neg hm,hx.objs]
    cases hX:lk m X.objs with
    | none=>rfl
    | some o=>exact congrArg some (hU (ha.arr m o hX))
  ·simp only[CN,Nx]
   split
   ·rfl
   ·rw[ha.new m o hm];rfl
 rw[hx.lkn ha hn]
 unfold Sq
 split
 ·exact core _ _
 ·rename_i et iet k e xs hl
  exact core (.agg (.prod k (.slice e))) xs
 ·exact⟨hx,ha⟩
theorem RQ:∀ {l:List Nat} {σ σ':St},Lo σ σ' X→Hm X σ ns→(∀n∈l,n∈ns)→Lo (CA l σ) (CA l σ') X∧Hm X (CA l σ) ns
 | [],_,_,hx,ha,_=>⟨hx,ha⟩
 | n :: l,σ,σ',hx,ha,h=>by
  obtain⟨h1,h2⟩:=rF hx ha (h n (by simp))
  have:=RQ (l:=l) h1 h2 fun m hm=>h m (by simp[hm])
  exact this
/-! ### Operands -/
def iA (σ σ':St) (xs:List Operand):Prop:=∀x∈xs,Ae σ' x=Ae σ x
theorem QV (hx:Lo σ σ' X) {xs:List Operand} (h:∀t∈xs.filterMap KE,lk t X.env=none):iA σ σ' xs:=by
 intro x hm
 cases x with
 | tmp t =>
  simp only[Ae,hx.env]
  rw[h t (List.mem_filterMap.2 ⟨_,hm,rfl⟩)]
  rfl
 | const v=>rfl
 | global g=>rfl
 | func f=>rfl
theorem Ko:∀ {l:List (Nat×Operand)},iA σ σ' (l.map (·.2))→B0 σ' l=B0 σ l
 | [],_=>rfl
 | (i,x) :: r,h=>by
  simp only[B0]
  rw[h x (by simp),Ko (fun y hy=>h y (by simp only[List.map_cons,List.mem_cons];exact .inr hy))]
theorem NB:∀ {l:List (Nat×Operand)},iA σ σ' (l.map (·.2))→DS σ' l=DS σ l
 | [],_=>rfl
 | (i,x) :: r,h=>by
  simp only[DS]
  rw[h x (by simp),NB (fun y hy=>h y (by simp only[List.map_cons,List.mem_cons];exact .inr hy))]
theorem Ym (hx:Lo σ σ' X) (ha:Hm X σ ns) (n:Nat):B8 (lk n σ'.objs)=B8 (lk n σ.objs):=by
 rw[hx.objs]
 cases hX:lk n X.objs with
 | none=>rfl
 | some o =>
  rw[ha.new n o hX]
  have:=ha.arr n o hX
  cases o<;>first|rfl|cases this
theorem WZ (hx:Lo σ σ' X) (ha:Hm X σ ns) {op:Op} (h:iA σ σ' op.operands.toList):Bm σ' op=Bm σ op:=by
 cases op<;>simp only[Bm]
 case buildSlice t n parts =>
  exact Ko (fun x hx=>h x (by simpa[Op.operands] using hx))
 case build t parts =>
  exact NB (fun x hx=>h x (by simpa[Op.operands] using hx))
 case store t x y =>
  rw[h x (by simp[Op.operands]),h y (by simp[Op.operands])]
  unfold BD
  split
  ·rw[Ym hx ha]
  ·rfl
 case mapUpdate t m x y =>
  rw[h m (by simp[Op.operands]),h x (by simp[Op.operands]),h y (by simp[Op.operands])]
def HC (σ:St):Option AV→Option AV→List Nat
 | some (.sr n _ _ _),some (.sr m _ _ _)=>if B8 (lk n σ.objs)=true then [n,m] else [n]
 | some (.sr n _ _ _),_=>[n]
 | some (.nin n _ _ _),_=>[n]
 | some (.raw _),some (.sr m _ _ _)=>if B8 (lk m σ.objs)=true then [m] else []
 | _,_=>[]
def RR (σ:St):Option AV→Option AV→List Nat
 | some (.ep n _ _ _ _),some (.sr m _ _ _)=>if B8 (lk n σ.objs)=true then [n,m] else []
 | _,_=>[]
def QA (σ:St):Op→List Nat
 | .call c=>match c.callee,c.args.toList with
  | .builtin .append,[x,y]=>HC σ (Ae σ x) (Ae σ y)
  | _,_=>[]
 | .store _ x y=>RR σ (Ae σ x) (Ae σ y)
 | _=>[]
theorem mA {n:Nat} {e:Ty} {lo hi:Nat} {v:AV}:n∈HC σ (some (.sr n e lo hi)) (some v):=by
 cases v<;>first|(simp[HC];done)|(simp only[HC];split<;>simp)
theorem aI (hx:Lo σ σ' X) (ha:Hm X σ ns) {tl:List Nat} (htl:∀n,n∈tl→n∈ns) {d nn:Nat} {v:AV} {ob:Obj} (hd:lk d X.env=none) (hnn:lk nn X.objs=none) :
  Lo ⟨(d,v) :: BP tl σ.env,(nn,ob) :: Ab tl tl σ.objs⟩ ⟨(d,v) :: BP tl σ'.env,(nn,ob) :: Ab tl tl σ'.objs⟩ X:=by
 refine⟨fun s=>?_,fun m=>?_⟩
 ·simp only[lk]
  by_cases hs:s=d
  ·subst hs;rw[if_pos rfl,if_pos rfl,hd];rfl
  ·rw[if_neg hs,if_neg hs,D7,D7,hx.env]
   cases hX:lk s X.env with
   | none=>rfl
   | some w=>simp[RK htl w (ha.env s w hX)]
 ·simp only[lk]
  by_cases hm:m=nn
  ·subst hm;rw[if_pos rfl,if_pos rfl,hnn];rfl
  ·rw[if_neg hm,if_neg hm,BU,BU,hx.objs]
   cases hX:lk m X.objs with
   | none=>rfl
   | some w =>
    rw[if_neg fun h=>ha.nm m w hX (htl _ ((AY _ _).1 h))]
    exact congrArg some (Ta (ha.arr m w hX))
theorem aJ (hx:Lo σ σ' X) (ha:Hm X σ ns) {n:Nat} {tl:List Nat} (hn:n∈ns) (htl:∀n,n∈tl→n∈ns) {en:List (Nat×AV)} {new:List (Nat×Obj)} (hd:∀s v,lk s en=some v→lk s X.env=none) (hnn:∀m o,lk m new=some o→lk m X.objs=none) :
  Lo ⟨en++DE n tl σ.env,new++Bv n tl σ.objs⟩ ⟨en++DE n tl σ'.env,new++Bv n tl σ'.objs⟩ X:=by
 refine⟨fun s=>?_,fun m=>?_⟩
 ·simp only[Ar]
  cases hs:lk s en with
  | some v=>rw[hd s v hs];rfl
  | none =>
   rw[E7,E7,hx.env]
   cases hX:lk s X.env with
   | none=>rfl
   | some w=>simp[RL hn htl w (ha.env s w hX)]
 ·simp only[Ar]
  cases hm:lk m new with
  | some o=>rw[hnn m o hm];rfl
  | none =>
   rw[DG,DG,hx.objs]
   cases hX:lk m X.objs with
   | none=>rfl
   | some w =>
    rw[if_neg fun h=>ha.nm m w hX (by
     rcases List.mem_cons.1 ((AY _ _).1 h) with rfl|h
     ·exact hn
     ·exact htl _ h)]
    exact congrArg some (Tc (ha.arr m w hX))
theorem VD {n:Nat} {o o':Obj} (hx:Lo σ σ' X) (ha:Hm X σ ns) (hn:lk n σ.objs=some o) {env env':List (Nat×AV)} (he:∀s,lk s env'=(lk s X.env).or (lk s env)):Lo ⟨env,upd n o' σ.objs⟩ ⟨env',upd n o' σ'.objs⟩ X:=by
 refine⟨he,fun m=>?_⟩
 simp only[F9]
 have hX:lk n X.objs=none:=by
  cases h:lk n X.objs with
  | none=>rfl
  | some u=>rw[ha.new n u h]at hn;cases hn
 by_cases hm:m=n
 ·subst hm
  rw[if_pos rfl,if_pos rfl,hx.objs,hX];rfl
 ·rw[if_neg hm,if_neg hm,hx.objs]
theorem Lo.some_lk (hx:Lo σ σ' X) (ha:Hm X σ ns) {n:Nat} {o:Obj} (h:lk n σ.objs=some o):lk n σ'.objs=some o:=hx.obs ha n o h
theorem iB {tb:Tb} {op:Op} {d:Option Nat} {vc:Prop} {τ:St} (hx:Lo σ σ' X) (ha:Hm X σ ns) (hops:iA σ σ' op.operands.toList) (happ:∀n∈QA σ op,n∈ns) (hd:∀t,d=some t→lk t X.env=none) (hXt:∀n,(∃u,lk n τ.objs=some u)→lk n X.objs=none) (h:EL tb σ d op=some (vc,τ)) :
  (∃τ',EL tb σ' d op=some (vc,τ')∧Lo τ τ' X)∧∀k,aq tb σ' k op=none:=by
 have hobs:=hx.obs ha
 cases op<;>simp only[EL]at h<;>try(cases h;done)
 case store t x y =>
  refine⟨?_,fun _=>rfl⟩
  simp only[EL]
  have happ:∀n∈RR σ (Ae σ x) (Ae σ y),n∈ns:=happ
  rw[hops x (by simp[Op.operands]),hops y (by simp[Op.operands])]
  cases d with
  | some d=>simp[Cj]at h
  | none =>
   simp only[Cj]at h ⊢
   generalize Ae σ x=X1 at h happ ⊢
   generalize Ae σ y=Y1 at h happ ⊢
   unfold FW at h ⊢
   split at h
   ·rename_i ti n path off v hti
    try simp only
    unfold CV at h ⊢
    split at h
    ·rename_i et st fs hl
     rw[hx.some_lk ha hl]
     try simp only
     unfold DQ at h ⊢
     split at h
     ·rename_i u fs' h1 h2
      try rw[h1,h2]
      try simp only
      split at h
      ·rename_i hc
       rw[if_pos hc]
       cases h
       exact⟨_,rfl,VD hx ha hl hx.env⟩
      ·cases h
     ·cases h
    ·cases h
   ·rename_i ti n e i path off v hti
    try simp only
    unfold CW at h ⊢
    split at h
    ·rename_i et e' xs hl
     rw[hx.some_lk ha hl]
     try simp only
     cases hv:Iz false σ ti.ty v with
     | none=>rw[hv]at h;unfold Cv at h;split at h<;>first|(cases h;done)|(rename_i h2;cases h2)
     | some w =>
      rw[Fd hobs hv]
      rw[hv]at h
      unfold Cv at h ⊢
      split at h
      ·rename_i ys w' h1 h2
       cases h2
       try rw[h1]
       try simp only
       unfold Ds at h ⊢
       split at h
       ·rename_i z h3
        try rw[h3]
        try simp only
        split at h
        ·rename_i hc
         rw[if_pos hc]
         cases h
         exact⟨_,rfl,VD hx ha hl hx.env⟩
        ·cases h
       ·cases h
      ·cases h
    ·rename_i et iet k e1 xs j hl
     rw[hx.some_lk ha hl]
     try simp only
     split at h
     ·rename_i m E hi
      try simp only
      split at h
      ·rename_i hc
       rw[if_pos hc]
       unfold Ha at h ⊢
       split at h
       ·rename_i hc2
        rw[if_pos hc2]
        unfold HY at h ⊢
        split at h
        ·rename_i jet e2 ys hm
         rw[hx.some_lk ha hm]
         try simp only
         split at h
         ·rename_i hc3
          rw[if_pos hc3]
          unfold Gk at h ⊢
          split at h
          ·rename_i zs hz
           try rw[hz]
           try simp only
           cases h
           have hnm:∀q,q∈[n,m]→q∈ns:=fun q hq=>happ q (by simp only[RR,hl,B8,if_true];exact hq)
           refine⟨_,rfl,aJ (en:=[]) (new:=[(n,_)]) hx ha (hnm n (by simp)) (fun q hq=>hnm q (by simp at hq;simp[hq])) (fun s v h=>by cases h) (fun q o hq=>hXt q ⟨o,?_⟩)⟩
           simp only[lk]at hq ⊢
           split at hq
           ·rename_i e1;cases hq;rw[if_pos e1]
           ·cases hq
          ·cases h
         ·cases h
        ·cases h
       ·cases h
      ·cases h
     ·cases h
    ·cases h
   ·cases h
 case mapUpdate t m x y =>
  refine⟨?_,fun _=>rfl⟩
  simp only[EL]
  rw[hops m (by simp[Op.operands]),hops x (by simp[Op.operands]),hops y (by simp[Op.operands])]
  cases d with
  | some d=>simp[Cj]at h
  | none =>
   simp only[Cj]at h ⊢
   generalize Ae σ m=M1 at h ⊢
   generalize Ae σ x=X1 at h ⊢
   generalize Ae σ y=Y1 at h ⊢
   unfold Gm at h ⊢
   split at h
   ·try simp only
    unfold EF at h ⊢
    split at h
    ·rename_i kt vt l hl
     rw[hx.some_lk ha hl]
     try simp only
     split at h
     ·rename_i hc
      rw[if_pos hc]
      unfold EV at h ⊢
      split at h
      ·rename_i k1 v1 h1 h2
       rw[Fd hobs h1,Fd hobs h2]
       try simp only
       split at h
       ·rename_i hc2
        rw[if_pos hc2]
        cases h
        exact⟨_,rfl,VD hx ha hl hx.env⟩
       ·cases h
      ·cases h
     ·cases h
    ·cases h
   ·cases h
 case call cl =>
  obtain⟨callee,⟨args⟩,⟨argTypes⟩⟩:=cl
  cases callee with
  | value g=>simp[CL]at h
  | invoke r m=>simp[CL]at h
  | builtin b =>
   simp only[CL]at h
   unfold CQ at h
   split at h
   ·rename_i x y t u
    have hx1:Ae σ' x=Ae σ x:=hops x (by simp[Op.operands,Call.operands])
    have hy1:Ae σ' y=Ae σ y:=hops y (by simp[Op.operands,Call.operands])
    have happ:∀n∈HC σ (Ae σ x) (Ae σ y),n∈ns:=fun n hn=>happ n (by simpa[QA] using hn)
    unfold CK at h
    split at h
    ·rename_i n e hi v hxv hyv
     rw[hxv,hyv]at happ
     refine⟨?_,fun k=>by simp[aq,B5,B9,Bw,hx1,hxv]⟩
     simp only[EL,CL,CQ,CK,hx1,hxv,hy1,hyv]
     split at h
     ·rename_i d' 
      have hd':=hd d' rfl
      have hns:n∈ns:=happ n mA
      try simp only
      split at h
      ·rename_i htu
       rw[if_pos htu]
       unfold Cw at h ⊢
       split at h
       ·rename_i e2 o2 el b2 htb
        try rw[htb]
        try simp only
        split at h
        ·rename_i hee
         rw[if_pos hee]
         unfold Bo at h ⊢
         split at h
         ·rename_i ti et e' xs h1 hl
          try rw[h1]
          try rw[hx.some_lk ha hl]
          try simp only
          split at h
          ·rename_i hel
           rw[if_pos hel]
           unfold DR at h ⊢
           split at h
           ·rename_i zs ys h2 h3
            try rw[h2]
            rw[Kj hobs h3]
            try simp only
            cases h
            refine⟨_,rfl,⟨fun s=>?_,fun m=>?_⟩⟩
            ·simp only[lk]
             by_cases hs:s=d'
             ·subst hs;rw[if_pos rfl,if_pos rfl,hd'];rfl
             ·rw[if_neg hs,if_neg hs,I8,I8,hx.env]
              cases hX:lk s X.env with
              | none=>rfl
              | some w=>simp[RJ hns w (ha.env s w hX)]
            ·simp only[F9,Bg]
             have hXn:lk n X.objs=none:=by
              cases hX:lk n X.objs with
              | none=>rfl
              | some w=>exact absurd hns (ha.nm n w hX)
             by_cases hm:m=n
             ·subst hm
              rw[if_pos rfl,if_pos rfl,hx.objs,hXn];rfl
             ·rw[if_neg hm,if_neg hm,hx.objs]
              cases hX:lk m X.objs with
              | none=>rfl
              | some w=>exact congrArg some (hZ (ha.arr m w hX))
           ·cases h
          ·cases h
         ·rename_i ti et iet k e' xs h1 hl
          try rw[h1]
          try rw[hx.some_lk ha hl]
          try simp only
          split at h
          ·rename_i hc
           rw[if_pos hc]
           unfold KY at h ⊢
           split at h
           ·rename_i m E hi'
            try simp only
            unfold HZ at h ⊢
            split at h
            ·rename_i et2 iet2 k2 e3 ys hm
             rw[hx.some_lk ha hm]
             try simp only
             split at h
             ·rename_i hc2
              rw[if_pos hc2]
              unfold Gl at h ⊢
              split at h
              ·rename_i zs hz
               try rw[hz]
               try simp only
               cases h
               refine⟨_,rfl,aI hx ha (fun q hq=>happ q (by simp only[HC,hl,B8,if_true];exact hq)) hd' ?_⟩
               cases hX:lk n X.objs with
               | none=>rfl
               | some w=>exact absurd hns (ha.nm n w hX)
              ·cases h
             ·cases h
            ·cases h
           ·cases h
          ·cases h
         ·cases h
        ·cases h
       ·cases h
      ·cases h
     ·cases h
    ·rename_i n e i len v hxv hyv
     rw[hxv,hyv]at happ
     refine⟨?_,fun k=>by simp[aq,B5,B9,Bw,hx1,hxv]⟩
     simp only[EL,CL,CQ,CK,hx1,hxv,hy1,hyv]
     split at h
     ·rename_i d' 
      have hd':=hd d' rfl
      have hns:n∈ns:=happ n (by simp[HC])
      try simp only
      split at h
      ·rename_i htu
       rw[if_pos htu]
       unfold I2 at h ⊢
       split at h
       ·rename_i e2 o2 el b2 htb
        try rw[htb]
        try simp only
        split at h
        ·rename_i hee
         rw[if_pos hee]
         unfold J7 at h ⊢
         split at h
         ·rename_i ti et iet k e1 xs h1 hl
          try rw[h1]
          try rw[hx.some_lk ha hl]
          try simp only
          split at h
          ·rename_i hc
           rw[if_pos hc]
           unfold IG at h ⊢
           split at h
           ·rename_i ys h3
            rw[Kj hobs h3]
            try simp only
            split at h
            ·rename_i hdn
             have hXd:lk d' X.objs=none:=by
              refine hXt d' ?_
              cases h
              exact⟨_,by simp only[lk,if_true];rfl⟩
             have hdn':(lk d' σ'.objs).isNone=true∧ys.isEmpty=false:=⟨by rw[hx.objs,hXd];exact hdn.1,hdn.2⟩
             rw[if_pos hdn']
             cases h
             refine⟨_,rfl,aJ (en:=[(d',_)]) (new:=[(d',_),(n,_)]) hx ha hns (fun q hq=>by cases hq) (fun s v h=>?_) (fun q o hq=>?_)⟩
             ·simp only[lk]at h
              split at h
              ·rename_i e1;rw[e1];exact hd'
              ·cases h
             ·simp only[lk]at hq
              split at hq
              ·rename_i e1;rw[e1];exact hXd
              ·split at hq
               ·rename_i e1
                rw[e1]
                cases hX:lk n X.objs with
                | none=>rfl
                | some w=>exact absurd hns (ha.nm n w hX)
               ·cases hq
            ·cases h
           ·cases h
          ·cases h
         ·cases h
        ·cases h
       ·cases h
      ·cases h
     ·cases h
    ·rename_i v hxv hyv
     rw[hxv,hyv]at happ
     split at h
     ·rename_i d' 
      have hd':=hd d' rfl
      split at h
      ·rename_i htu
       unfold Pv at h
       split at h
       ·rename_i m E hi' t1 offs el b hti
        unfold J9 at h
        split at h
        ·rename_i ti et2 iet k e ys h1 hm
         split at h
         ·rename_i hc
          unfold J8 at h
          split at h
          ·rename_i hc2
           have hXd:lk d' X.objs=none:=by
            refine hXt d' ?_
            cases h
            exact⟨_,by simp only[lk,if_true];rfl⟩
           have hdn':(lk d' σ'.objs).isNone=true:=by rw[hx.objs,hXd];exact hc2.1
           have hm':=hx.some_lk ha hm
           refine⟨?_,fun k0=>by simp[aq,B5,B9,Bw,hx1,hxv,hy1,hyv,htu,Cu,Lq,hm',B8];split<;>simp[DP]⟩
           cases h
           simp only[EL,CL,CQ,CK,hx1,hxv,hy1,hyv,Pv,J9,J8]
           rw[if_pos htu,hti]
           simp only
           rw[hm',h1]
           simp only
           rw[if_pos hc,if_pos ⟨hdn',hc2.2⟩]
           exact⟨_,rfl,aI hx ha (fun q hq=>happ q (by simp only[HC,hm,B8,if_true];exact hq)) hd' hXd⟩
          ·cases h
         ·cases h
        ·cases h
       ·cases h
      ·cases h
     ·cases h
    ·cases h
   ·cases h
end
end
/- What turns memory in the midst of a statement: a step, a call. -/
section
open Go Go.RowKit
def mB (o:Obj):Bool:=Kn o
def Jh (o:Oper):EN→Bool
 | []=>true
 | (d,_,_) :: r=>!AX d (Fe o.op)&&!AX d o.dst.toList&&Jh o r
def QW (ns:List Nat) (σ:List (Nat×Obj)):List (Nat×Obj)→Bool
 | []=>true
 | (n,o) :: r=>(lk n σ).isNone&&!AX n ns&&mB o&&QW ns σ r
def Il (ns:List Nat) (σ:List (Nat×Obj)):EN→Bool
 | []=>true
 | (_,_,obs) :: r=>QW ns σ obs&&Il ns σ r
def VE (τ:List (Nat×Obj)):List (Nat×Obj)→Bool
 | []=>true
 | (n,_) :: r=>(lk n τ).isNone&&VE τ r
def NC (τ:List (Nat×Obj)):EN→Bool
 | []=>true
 | (_,_,obs) :: r=>VE τ obs&&NC τ r
def HD (ns:List Nat):EN→EN
 | []=>[]
 | (d,v,obs) :: r=>(d,v.fgt ns,obs) :: HD ns r
def tn (σ:St) (o:Op):List Nat:=Bm σ o++QA (CA (Bm σ o) σ) o
theorem EO {o:Oper}:∀ {ens:EN},Jh o ens=true→∀e∈ens,e.1∉Fe o.op∧o.dst≠some e.1
 | [],_,e,he=>by cases he
 | (d,v,obs) :: r,h,e,he=>by
  simp only[Jh,Bool.and_eq_true,Bool.not_eq_true']at h
  rcases List.mem_cons.1 he with rfl|he
  ·refine⟨fun hm=>(by rw[(AY _ _).2 hm]at h;cases h.1.1),fun hm=>?_⟩
   have:=h.1.2
   rw[hm]at this
   simp[AX]at this
  ·exact EO h.2 e he
theorem ND {ns:List Nat} {σ:List (Nat×Obj)}:∀ {l:List (Nat×Obj)},QW ns σ l=true→∀p∈l,lk p.1 σ=none∧p.1∉ns∧mB p.2=true
 | [],_,e,he=>by cases he
 | (n,o) :: r,h,p,hp=>by
  simp only[QW,Bool.and_eq_true,Bool.not_eq_true',Option.isNone_iff_eq_none]at h
  rcases List.mem_cons.1 hp with rfl|hp
  ·exact⟨h.1.1.1,fun hm=>(by rw[(AY _ _).2 hm]at h;cases h.1.1.2),h.1.2⟩
  ·exact ND h.2 p hp
theorem FC {ns:List Nat} {σ:List (Nat×Obj)}:∀ {ens:EN},Il ns σ ens=true→∀e∈ens,∀p∈e.2.2,lk p.1 σ=none∧p.1∉ns∧mB p.2=true
 | [],_,e,he=>by cases he
 | (d,v,obs) :: r,h,e,he=>by
  simp only[Il,Bool.and_eq_true]at h
  rcases List.mem_cons.1 he with rfl|he
  ·exact ND h.1
  ·exact FC h.2 e he
theorem PW {τ:List (Nat×Obj)}:∀ {l:List (Nat×Obj)},VE τ l=true→∀p∈l,lk p.1 τ=none
 | [],_,e,he=>by cases he
 | (n,o) :: r,h,p,hp=>by
  simp only[VE,Bool.and_eq_true,Option.isNone_iff_eq_none]at h
  rcases List.mem_cons.1 hp with rfl|hp
  ·exact h.1
  ·exact PW h.2 p hp
theorem Ji {τ:List (Nat×Obj)}:∀ {ens:EN},NC τ ens=true→∀e∈ens,∀p∈e.2.2,lk p.1 τ=none
 | [],_,e,he=>by cases he
 | (d,v,obs) :: r,h,e,he=>by
  simp only[NC,Bool.and_eq_true]at h
  rcases List.mem_cons.1 he with rfl|he
  ·exact PW h.1
  ·exact Ji h.2 e he
theorem MM {ns:List Nat}:∀ {ens:EN},HD ns ens=ens→∀e∈ens,e.2.1.fgt ns=e.2.1
 | [],_,e,he=>by cases he
 | (d,v,obs) :: r,h,e,he=>by
  simp only[HD,List.cons.injEq,Prod.mk.injEq,and_true,true_and]at h
  rcases List.mem_cons.1 he with rfl|he
  ·exact h.1
  ·exact MM h.2 e he
section
variable {c:Cx} {o:Oper} {σ:St} {ens:EN} {N:St→Prop}
theorem mC {X:St} {ns:List Nat} (hin:XIn ens X) (hn:Il ns σ.objs ens=true) (hf:HD ns ens=ens):Hm X σ ns:=by
 refine⟨fun s v hs=>?_,fun n o ho=>?_,fun n o ho=>?_,fun n o ho=>?_⟩
 ·obtain⟨obs,hm⟩:=hin.env s v hs
  exact MM hf _ hm
 all_goals
  obtain⟨e,he,hp⟩:=hin.objs n o ho
  have:=FC hn e he _ hp
 ·exact this.2.2
 ·exact this.1
 ·exact this.2.1
theorem iC (hc:c.Ok) {τ:St} {vc:Prop} (ns:List Nat) (h:Eh c.tb o σ=some (vc,τ)) (hns:tn σ o.op=ns) (hsl:Jh o ens=true) (hn:Il ns σ.objs ens=true) (hfr:NC τ.objs ens=true) (hf:HD ns ens=ens) (hd:IK c.nt o=true) (hvc:vc) (hN:N τ):VB c o σ ens N:=by
 subst hns
 intro X σ' hx hin a w next Q hs hk
 have ha:=mC hin hn hf
 have hXs:∀t∈Fe o.op,lk t X.env=none:=fun t ht=>by
  cases hX:lk t X.env with
  | none=>rfl
  | some v=>obtain⟨obs,hm⟩:=hin.env t v hX;exact absurd ht (EO hsl _ hm).1
 have hXd:∀t,o.dst=some t→lk t X.env=none:=fun t ht=>by
  cases hX:lk t X.env with
  | none=>rfl
  | some v=>obtain⟨obs,hm⟩:=hin.env t v hX;exact absurd ht (EO hsl _ hm).2
 have hXt:∀n,(∃u,lk n τ.objs=some u)→lk n X.objs=none:=fun n hu=>by
  cases hX:lk n X.objs with
  | none=>rfl
  | some v =>
   obtain⟨e,he,hp⟩:=hin.objs n v hX
   obtain⟨u,hu⟩:=hu
   rw[Ji hfr e he _ hp]at hu;cases hu
 have htk:=WZ hx ha (op:=o.op) (QV hx hXs)
 obtain⟨hx1,ha1⟩:=RQ (l:=Bm σ o.op) hx ha (fun m hm=>by simp[tn,hm])
 have key:∃τ',Eh c.tb o σ'=some (vc,τ')∧Lo τ τ' X:=by
  have happ:∀n∈QA (CA (Bm σ o.op) σ) o.op,n∈tn σ o.op:=fun m hm=>by simp[tn,hm]
  unfold Eh KA at h ⊢
  rw[htk]
  generalize CA (Bm σ o.op) σ=σ1 at h hx1 ha1 happ
  generalize CA (Bm σ o.op) σ'=σ1' at hx1
  have hop1:=QV hx1 hXs
  cases hq:aq c.tb σ1 (o.dst.getD 0) o.op with
  | some r =>
   obtain⟨vc',v,obs⟩:=r
   rw[hq]at h
   have hq':=QP (hx1.obs ha1) (fun x hx v hv=>by rw[hop1 x hx];exact hv) hq
   rw[hq']
   simp only[Hb]at h ⊢
   split at h
   ·rename_i hfs
    cases h
    have hob:∀n,lk n (σ1.add v obs o.dst).objs=(lk n obs).or (lk n σ1.objs):=fun n=>by cases o.dst<;>simp only[St.add,Ar]
    have hob':∀n,lk n (σ1'.add v obs o.dst).objs=(lk n obs).or (lk n σ1'.objs):=fun n=>by cases o.dst<;>simp only[St.add,Ar]
    have hXo:∀n u,lk n obs=some u→lk n X.objs=none:=fun n u hu=>hXt n ⟨u,by rw[hob,hu];rfl⟩
    have hfr':BJ obs σ1'=true:=by
     simp only[BJ,List.all_eq_true,Option.isNone_iff_eq_none]at hfs ⊢
     intro p hp
     obtain⟨u,hu⟩:=OM hp
     rw[hx1.objs,hXo _ u hu,hfs p hp];rfl
    rw[if_pos hfr']
    refine⟨_,rfl,fun s=>?_,fun n=>?_⟩
    ·cases hdd:o.dst with
     | none=>simp only[St.add];exact hx1.env s
     | some d =>
      simp only[St.add,lk]
      by_cases hsd:s=d
      ·rw[if_pos hsd,if_pos hsd,hsd,hXd d hdd];rfl
      ·rw[if_neg hsd,if_neg hsd];exact hx1.env s
    ·rw[hob,hob',hx1.objs]
     cases hu:lk n obs with
     | none=>rfl
     | some u=>rw[hXo n u hu];rfl
   ·cases h
  | none =>
   rw[hq]at h
   simp only[Hb]at h
   obtain⟨⟨τ',h1,h2⟩,h3⟩:=iB hx1 ha1 hop1 happ hXd hXt h
   rw[h3]
   simp only[Hb]
   exact⟨τ',h1,h2⟩
 obtain⟨τ',h1,h2⟩:=key
 exact M3 hc hs h1 hvc (Bh hd) fun a' w' hs'=>hk τ hN a' w' τ' h2 hs'
/-! ### A call -/
end
section
variable {c:Cx} {ops:List Oper} {Kf:St→Prop} {τ:St} {ens:EN} {vc:Prop}
theorem mD {D:List Nat} (h:Vo c.tb ops τ.objs D [] τ.env=some (vc,ens)) (hvc:vc) (hfr:Ln ens τ.objs=true) (hk:Kf (JD ens τ)):l0 c ops Kf [] D ens τ:=⟨⟨vc,h,hvc,hfr⟩,hk⟩
theorem mE {A D:List Nat} {l:Nat} {ps:List (List Nat×Nat)} {o:Oper} {σ1:St} {ens1:EN} (h:Vo c.tb ops τ.objs (A++qs ps D) [] τ.env=some (vc,ens)) (hvc:vc) (hfr:Ln ens τ.objs=true) (ho:ops[l]?=some o) (hσ:JD (ens.take A.length) τ=σ1) (he:ens.drop A.length=ens1)
  (hL:VB c o σ1 ens1 (fun τ'=>l0 c ops Kf ps D ens1 τ')):l0 c ops Kf ((A,l) :: ps) D ens τ:=by
 subst hσ he
 exact⟨⟨vc,h,hvc,hfr⟩,o,ho,hL⟩
end
end
/- The equations that simp makes of the definitions, once for all. -/
section
open Go
attribute [local go_sem] PO AM List.toList_toArray BX evG evK Pw DK Gn Da Cz Eh KA Hb Bm B0 HG BD CA frz Sq FL CU Aq EI BE AV.frz AV.frzs AV.drp AV.drps AV.names AV.namess aq FO HV Ge L7 F4 A2 A5 G2 DM FP DN QQX FQ FT Mn J4 Et GM EK Cs Mo Lj Zq G7 GT HW D9 Ci F7 Gg Ct L8 Bw Cu DP Lk GU Ll IE F8 Gh B9 B5 EL Cj FW CV DQ CW Cv Ds BD B8 Lq Li Id EU F6 F5 Gf I2 J7 IG Ha HY Gk KY HZ Gl Pv J9 J8 AV.trn AV.trns DE Bv Obj.trn HC RR CL CQ CK Cw Bo DR Ae lk Eq E2 FN gG Sp Nt Ss KX YH YI kL AV.cells Bn Gz KV Gj J6 Bx I0 Ty.cell1 FM Dd Cg Eg Iz Dc H9 ID L6 Cr Fx JT L5 Mm Iy H8 Ps Qm KW I1 CM G0 RV.flat Ty.flat Ty.size St.add upd del BJ Value.oneCell' Ic Ty.dflt FK QQQ Ej IU List.take_succ_cons List.take_zero List.length_cons PQ PR IT Fi GZ EX FB WM C0 HL HN HO HP Jb Jc GQ Fc Ki Option.map_some Option.map_none Option.bind_some Option.getD_some Option.getD_none Option.isNone_none Option.isNone_some Bool.and_true Bool.true_and Bool.and_false Bool.false_and Bool.not_true Bool.not_false if_true if_false List.length_cons List.length_nil and_true true_and and_self List.all_cons List.all_nil List.append_nil List.nil_append List.cons_append List.getElem?_cons_zero List.getElem?_cons_succ List.getElem?_nil List.map_cons List.map_nil List.set_cons_zero List.set_cons_succ List.isEmpty_nil List.isEmpty_cons decide_true decide_false beq_self_eq_true bne_self_eq_false Nat.zero_add Nat.add_zero Nat.sub_zero Int.toNat_natCast Int.toNat_zero Int.toNat_one List.take_length List.length_append List.length_singleton true_or or_true or_self false_or or_false Ty.agg.injEq Ty.slice.injEq Ty.prod.injEq Ty.int.injEq Option.some.injEq beq_iff_eq JB evMG evMQ Z7 Fh IP Bd HA Fe KE G9 Fg Ff GR Hi Ii JA Ij MJ GY IQ IR E8 AX Ac Op.operands Call.operands List.filterMap_cons List.filterMap_nil List.append_eq Bool.cond_false_right Bool.cond_true_left cond_true cond_false implies_true decide_eq_true_eq beq_true beq_false Bool.or_true Bool.or_false Bool.true_or Bool.false_or Option.isSome_some EJ HH DS Fz Pu J5 Dr D5 D0 GV FU Gi HX Nu Sr IA pX Gm EF EV FX Al PT List.drop_zero Cc F0 Pz CO Hj BP AV.fgt AV.fgts Obj.fgt Ab Ak AX Cb JC BI Fj List.any_cons List.any_nil Vo RE P0 RF JD Ln qs List.flatMap_cons List.flatMap_nil List.cons_append tn QA HD List.take_succ_cons List.drop_succ_cons B2 CR Ag Du Gp BV DW Cl Fa Fb Eu GC
end
end Go.Proofs.YtdapahgnpbehbaaGreat.Fw
