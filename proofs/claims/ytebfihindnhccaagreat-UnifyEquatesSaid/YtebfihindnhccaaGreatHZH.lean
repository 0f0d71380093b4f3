/- Regions in which operations on memory float among quiet ones. -/
/- A statement whose order Go leaves open, with operations that turn memory in its midst: the others float around them. -/
import Derived.Test.YtebfihindnhccaaGreatHZG
set_option linter.unusedVariables false
set_option linter.unusedSimpArgs false
namespace Go.Proofs.YtebfihindnhccaaGreat.Fw
section
open Go Go.RowKit
abbrev EN:=List (Nat×AV×List (Nat×Obj))
def YE (x:Option Oper) (f:Oper→Option (Prop×EN)):Option (Prop×EN) :=
 match x with
 | some o=>f o
 | none=>none
def WU (d:Option Nat) (r:BO) (f:Nat→Prop→AV→List (Nat×Obj)→Option (Prop×EN)):Option (Prop×EN) :=
 match d,r with
 | some d,some (vc,v,obs)=>f d vc v obs
 | _,_=>none
def YF (d:Nat) (vc:Prop) (v:AV) (obs:List (Nat×Obj)) (r:Option (Prop×EN)):Option (Prop×EN) :=
 match r with
 | some (vc',l)=>some (vc∧vc',(d,v,obs) :: l)
 | none=>none
def aX (tb:Tb) (ops:List Oper) (base:List (Nat×Obj)):List Nat→List (Nat×List (Nat×Obj))→List (Nat×AV)→Option (Prop×EN)
 | [],_,_=>some (True,[])
 | i :: Q,E,env=>YE (ops[i]?) fun o=>WU o.dst (aq tb ⟨env,KJ false o.op base E⟩ (o.dst.getD 0) o.op) fun d vc v obs=>YF d vc v obs (aX tb ops base Q (IU d obs E) ((d,v) :: env))
def KO:EN→St→St
 | [],σ=>σ
 | (d,v,obs) :: r,σ=>KO r ⟨(d,v) :: σ.env,obs++σ.objs⟩
def O3:EN→List (Nat×Obj)→Bool
 | [],_=>true
 | (_,_,obs) :: r,objs=>(obs.all fun p=>(lk p.1 objs).isNone)&&O3 r (obs++objs)
def A28 (tb:Tb) (ops:List Oper) (Q:List Nat) (ens:EN) (τ:St):Prop:=∃vc:Prop,aX tb ops τ.objs Q [] τ.env=some (vc,ens)∧vc∧O3 ens τ.objs=true
def qs (ps:List (List Nat×Nat)) (D:List Nat):List Nat:=(ps.flatMap (·.1))++D
def qB1 (ops:List Oper) (anc:List (List Nat)) (L Q:List Nat):List Nat→List Nat→Bool
 | [],_=>true
 | i :: r,pre=>(match ops[i]? with
   | some o=>o.dst.isSome&&o.guard.isNone&&((Da o).all fun e=>AZ e L||AZ e pre)&&((F2 o.op).all fun t=>Q.all fun j=>Af ops j != some t||(AZ j (anc.getD i [])&&AZ j pre))&&(pre.all fun j=>Af ops j != o.dst)&&!AZ i L&&!AZ i pre
   | none=>false)&&qB1 ops anc L Q r (i :: pre)
def Qx (ops:List Oper) (anc:List (List Nat)) (p0:Nat):List Nat→List (List Nat×Nat)→List Nat→Bool
 | L,[],D=>qB1 ops anc L D D []&&((List.range p0).all fun i=>AZ i L||AZ i D)&&decide (L.length+D.length=p0)&&decide (p0≤ops.length)&&(L.all fun i=>decide (i<p0))&&(D.all fun i=>decide (i<p0))&&((List.range ops.length).all fun i=>decide (i<p0)||(List.range i).all fun j=>AZ j (anc.getD i []))
 | L,(A,l) :: ps,D=>qB1 ops anc L (A++qs ps D) (A++qs ps D) []&&(match ops[l]? with
   | some o=>o.guard.isNone&&((Da o).all fun e=>AZ e L||AZ e A)&&(A.all fun j=>AZ j (anc.getD l []))&&!AZ l L&&!AZ l (A++qs ps D)
   | none=>false)&&(ps.all fun p=>AZ l (anc.getD p.2 []))&&Qx ops anc p0 (l :: (A++L)) ps D
def A29 (ops:List Oper) (anc:List (List Nat)):Bool :=
 (List.range ops.length).all fun i=>match ops[i]? with|some o=>((Da o).all fun e=>decide (e<i))&&((anc.getD i []).all fun j=>AZ j (Da o)||(Da o).any fun e=>AZ j (anc.getD e []))|none=>false
structure Lx (σ σ' X:St):Prop where
 env:∀s,lk s σ'.env=(lk s X.env).or (lk s σ.env)
 objs:∀n,lk n σ'.objs=(lk n X.objs).or (lk n σ.objs)
structure XIn (ens:EN) (X:St):Prop where
 env:∀s v,lk s X.env=some v→∃obs,(s,v,obs)∈ens
 objs:∀n o,lk n X.objs=some o→∃e∈ens,(n,o)∈e.2.2
def Qy (c:Cx) (o:Oper) (σ:St) (ens:EN) (N:St→Prop):Prop :=
 ∀(X σ':St),Lx σ σ' X→XIn ens X→∀(a:Act) (w:World) (next:Act→World→Prop) (Q:Exit→Act→World→Prop),c.sat σ' a w →
  (∀τ,N τ→∀(a':Act) (w':World) (τ':St),Lx τ τ' X→c.sat τ' a' w'→next a' w')→o.wpIn (FR c.r) 0 c.P a w next Q
def sL (c:Cx) (ops:List Oper) (Kf:St→Prop):List (List Nat×Nat)→List Nat→EN→St→Prop
 | [],D,ens,τ=>A28 c.tb ops D ens τ∧Kf (KO ens τ)
 | (A,l) :: ps,D,ens,τ=>A28 c.tb ops (A++qs ps D) ens τ∧∃o,ops[l]?=some o∧Qy c o (KO (ens.take A.length) τ) (ens.drop A.length) (fun τ'=>sL c ops Kf ps D (ens.drop A.length) τ')
/-! ### Slots and names -/
def Ma (Q:List Nat) (ens:EN) (i:Nat):En :=
 match lk i (Q.zip ens) with
 | some (_,v,obs)=>⟨true,v,obs⟩
 | none=>⟨true,.top,[]⟩
section
variable {ops:List Oper} {en:Nat→En} {τ:St}
theorem O4:∀(l:List Nat),(Aj ops en τ l).env=(Aj ops en ⟨[],[]⟩ l).env++τ.env
 | []=>rfl
 | i :: r=>by
  simp only[Aj]
  cases Af ops i with
  | none=>simp only[St.add];exact O4 r
  | some d=>simp only[St.add,List.cons_append];rw[O4 r]
theorem aY (l:List Nat):(Aj ops en τ l).objs=(Aj ops en ⟨[],[]⟩ l).objs++τ.objs:=by
 rw[Ew,Ew];simp
theorem sM (l:List Nat):Lx τ (Aj ops en τ l) (Aj ops en ⟨[],[]⟩ l) :=
 ⟨fun s=>by rw[O4,Ar],fun n=>by rw[aY,Ar]⟩
structure Own (ops:List Oper) (en:Nat→En) (τ:St) (Q:List Nat):Prop where
 slot:∀i∈Q,∀j∈Q,∀s,Af ops i=some s→Af ops j=some s→i=j
 new:∀i∈Q,∀n o,lk n (en i).obs=some o→lk n τ.objs=none
 name:∀i∈Q,∀j∈Q,∀n o o',lk n (en i).obs=some o→lk n (en j).obs=some o'→i=j
theorem sO {Q l:List Nat} (h:Own ops en τ Q) (hl:∀i∈l,i∈Q) (s:Nat) (v:AV):lk s (Aj ops en τ l).env=some v↔(∃i∈l,Af ops i=some s∧(en i).v=v)∨((∀i∈l,Af ops i≠some s)∧lk s τ.env=some v):=by
 rw[Ex]
 cases hf:l.find? (fun j=>Af ops j==some s) with
 | none =>
  have hn:∀i∈l,Af ops i≠some s:=fun i hi=>by simpa using List.find?_eq_none.1 hf i hi
  constructor
  ·intro hv;exact .inr ⟨hn,hv⟩
  ·rintro (⟨i,hi,hd,_⟩|⟨_,hv⟩)
   ·exact absurd hd (hn i hi)
   ·exact hv
 | some j =>
  have hj:=List.mem_of_find?_eq_some hf
  have hd:Af ops j=some s:=by simpa using List.find?_some hf
  constructor
  ·intro hv;cases hv;exact .inl ⟨j,hj,hd,rfl⟩
  ·rintro (⟨i,hi,hdi,rfl⟩|⟨hn,_⟩)
   ·rw[h.slot i (hl i hi) j (hl j hj) s hdi hd]
   ·exact absurd hd (hn j hj)
theorem sP {Q l:List Nat} (h:Own ops en τ Q) (hl:∀i∈l,i∈Q) (n:Nat) (o:Obj):lk n (Aj ops en τ l).objs=some o↔(∃i∈l,lk n (en i).obs=some o)∨((∀i∈l,lk n (en i).obs=none)∧lk n τ.objs=some o):=by
 rw[Ew,Ar]
 cases hf:lk n (l.flatMap fun j=>(en j).obs) with
 | some o' =>
  obtain⟨j,hj,hlk⟩:=eD hf
  simp only[Option.some_or]
  constructor
  ·intro he;cases he;exact .inl ⟨j,hj,hlk⟩
  ·rintro (⟨i,hi,hi2⟩|⟨hn,_⟩)
   ·have:=h.name i (hl i hi) j (hl j hj) n o o' hi2 hlk
    subst this;rw[←hlk,hi2]
   ·rw[hn j hj]at hlk;cases hlk
 | none =>
  have hn:=JE hf
  simp only[Option.none_or]
  constructor
  ·intro he;exact .inr ⟨hn,he⟩
  ·rintro (⟨j',hj',hlk'⟩|⟨_,h1⟩)
   ·rw[hn j' hj']at hlk';cases hlk'
   ·exact h1
theorem oD {Q l A:List Nat} (h:Own ops en τ Q) (hl:∀i∈l,i∈Q) (hA:∀i∈A,i∈l):Lx (Aj ops en τ A) (Aj ops en τ l) (Aj ops en ⟨[],[]⟩ (l.filter fun i=>!AZ i A)):=by
 have h0:Own ops en ⟨[],[]⟩ Q:=⟨h.slot,fun _ _ _ _ _=>rfl,h.name⟩
 have hf:∀i∈l.filter (fun i=>!AZ i A),i∈Q:=fun i hi=>hl i (List.mem_filter.1 hi).1
 have hAQ:∀i∈A,i∈Q:=fun i hi=>hl i (hA i hi)
 have mf:∀i,i∈l.filter (fun i=>!AZ i A)↔i∈l∧i∉A:=fun i=>by
  rw[List.mem_filter]
  have:=Ae i A
  constructor
  ·rintro⟨h1,h2⟩;exact⟨h1,fun h3=>by rw[this.2 h3]at h2;cases h2⟩
  ·rintro⟨h1,h2⟩
   refine⟨h1,?_⟩
   cases hm:AZ i A with
   | false=>rfl
   | true=>exact absurd (this.1 hm) h2
 refine⟨fun s=>Option.ext fun v=>?_,fun n=>Option.ext fun o=>?_⟩
 ·rw[sO h hl,Option.or_eq_some_iff,sO h0 hf,sO h hAQ]
  constructor
  ·rintro (⟨i,hi,hd,hv⟩|⟨hn,hv⟩)
   ·by_cases hiA:i∈A
    ·refine .inr ⟨?_,.inl ⟨i,hiA,hd,hv⟩⟩
     cases hx:lk s (Aj ops en ⟨[],[]⟩ (l.filter fun i=>!AZ i A)).env with
     | none=>rfl
     | some u =>
      rcases (sO h0 hf s u).1 hx with ⟨j,hj,hdj,_⟩|⟨_,hx⟩
      ·have:=h.slot i (hl i hi) j (hf j hj) s hd hdj
       subst this
       exact absurd hiA ((mf i).1 hj).2
      ·cases hx
    ·exact .inl (.inl ⟨i,(mf i).2 ⟨hi,hiA⟩,hd,hv⟩)
   ·refine .inr ⟨?_,.inr ⟨fun i hi=>hn i (hA i hi),hv⟩⟩
    cases hx:lk s (Aj ops en ⟨[],[]⟩ (l.filter fun i=>!AZ i A)).env with
    | none=>rfl
    | some u =>
     rcases (sO h0 hf s u).1 hx with ⟨j,hj,hdj,_⟩|⟨_,hx⟩
     ·exact absurd hdj (hn j ((mf j).1 hj).1)
     ·cases hx
  ·rintro ((⟨i,hi,hd,hv⟩|⟨_,hv⟩)|⟨hx,⟨i,hi,hd,hv⟩|⟨hn,hv⟩⟩)
   ·exact .inl ⟨i,((mf i).1 hi).1,hd,hv⟩
   ·cases hv
   ·exact .inl ⟨i,hA i hi,hd,hv⟩
   ·refine .inr ⟨fun i hi hd=>?_,hv⟩
    by_cases hiA:i∈A
    ·exact hn i hiA hd
    ·have:=(sO h0 hf s (en i).v).2 (.inl ⟨i,(mf i).2 ⟨hi,hiA⟩,hd,rfl⟩)
     rw[hx]at this;cases this
 ·rw[sP h hl,Option.or_eq_some_iff,sP h0 hf,sP h hAQ]
  constructor
  ·rintro (⟨i,hi,hv⟩|⟨hn,hv⟩)
   ·by_cases hiA:i∈A
    ·refine .inr ⟨?_,.inl ⟨i,hiA,hv⟩⟩
     cases hx:lk n (Aj ops en ⟨[],[]⟩ (l.filter fun i=>!AZ i A)).objs with
     | none=>rfl
     | some u =>
      rcases (sP h0 hf n u).1 hx with ⟨j,hj,hdj⟩|⟨_,hx⟩
      ·have:=h.name i (hl i hi) j (hf j hj) n _ _ hv hdj
       subst this
       exact absurd hiA ((mf i).1 hj).2
      ·cases hx
    ·exact .inl (.inl ⟨i,(mf i).2 ⟨hi,hiA⟩,hv⟩)
   ·refine .inr ⟨?_,.inr ⟨fun i hi=>hn i (hA i hi),hv⟩⟩
    cases hx:lk n (Aj ops en ⟨[],[]⟩ (l.filter fun i=>!AZ i A)).objs with
    | none=>rfl
    | some u =>
     rcases (sP h0 hf n u).1 hx with ⟨j,hj,hdj⟩|⟨_,hx⟩
     ·rw[hn j ((mf j).1 hj).1]at hdj;cases hdj
     ·cases hx
  ·rintro ((⟨i,hi,hv⟩|⟨_,hv⟩)|⟨hx,⟨i,hi,hv⟩|⟨hn,hv⟩⟩)
   ·exact .inl ⟨i,((mf i).1 hi).1,hv⟩
   ·cases hv
   ·exact .inl ⟨i,hA i hi,hv⟩
   ·refine .inr ⟨fun i hi=>?_,hv⟩
    by_cases hiA:i∈A
    ·exact hn i hiA
    ·cases hd:lk n (en i).obs with
     | none=>rfl
     | some u =>
      have:=(sP h0 hf n u).2 (.inl ⟨i,(mf i).2 ⟨hi,hiA⟩,hd⟩)
      rw[hx]at this;cases this
end
/-! ### The front -/
def sQ (tb:Tb) (ops:List Oper) (τ:St) (en:Nat→En) (pre:List Nat) (i:Nat) (o:Oper):Prop :=
 ∃vc:Prop,aq tb ⟨(Aj ops en τ pre).env,Bh false (F2 o.op) τ.objs (ES ops en pre)⟩ (o.dst.getD 0) o.op=some (vc,(en i).v,(en i).obs)∧vc
theorem YG {ts:List Nat} {base:List (Nat×Obj)} {d:Nat} {obs:List (Nat×Obj)} {E:List (Nat×List (Nat×Obj))}:Bh false ts base (IU d obs E)=Bh false ts base ((d,obs) :: E):=by
 cases obs with
 | nil=>simp only[IU,Bh,List.nil_append];split<;>rfl
 | cons x r=>rfl
theorem sR {o:Op} {base:List (Nat×Obj)} {E:List (Nat×List (Nat×Obj))}:KJ false o base E=Bh false (F2 o) base E:=by
 cases E<;>rfl
theorem Ui {tb:Tb} {ops:List Oper} {τ:St} {en:Nat→En}:∀ {Q:List Nat} {ens:EN} {pre:List Nat} {E:List (Nat×List (Nat×Obj))} {vc:Prop},aX tb ops τ.objs Q E (Aj ops en τ pre).env=some (vc,ens)→vc →
  (∀ts,Bh false ts τ.objs E=Bh false ts τ.objs (ES ops en pre))→(∀(j i:Nat) (e:Nat×AV×List (Nat×Obj)),Q[j]?=some i→ens[j]?=some e→en i=⟨true,e.2.1,e.2.2⟩) →
  ens.length=Q.length∧∀(j i:Nat),Q[j]?=some i→∃(o:Oper) (e:Nat×AV×List (Nat×Obj)),ops[i]?=some o∧ens[j]?=some e∧Af ops i=some e.1∧sQ tb ops τ en ((Q.take j).reverse++pre) i o
 | [],ens,pre,E,vc,h,hvc,hE,hen=>by
  simp only[aX]at h
  cases h
  exact⟨rfl,fun j i h=>by simp at h⟩
 | i :: Q,ens,pre,E,vc,h,hvc,hE,hen=>by
  simp only[aX]at h
  cases ho:ops[i]? with
  | none=>rw[ho]at h;simp[YE]at h
  | some o =>
   rw[ho]at h
   simp only[YE]at h
   cases hd:o.dst with
   | none=>rw[hd]at h;simp[WU]at h
   | some d =>
    cases hq:aq tb ⟨(Aj ops en τ pre).env,KJ false o.op τ.objs E⟩ (o.dst.getD 0) o.op with
    | none=>rw[hq,hd]at h;simp[WU]at h
    | some r =>
     obtain⟨vc0,v,obs⟩:=r
     rw[hq,hd]at h
     simp only[WU]at h
     cases hr:aX tb ops τ.objs Q (IU d obs E) ((d,v) :: (Aj ops en τ pre).env) with
     | none=>rw[hr]at h;simp[YF]at h
     | some p =>
      obtain⟨vc',ens'⟩:=p
      rw[hr]at h
      simp only[YF]at h
      cases h
      have hi:=hen 0 i (d,v,obs) rfl rfl
      have hdo:Af ops i=some d:=by simp[Af,ho,hd]
      have hst:(Aj ops en τ (i :: pre)).env=(d,v) :: (Aj ops en τ pre).env:=by simp[Aj,hdo,St.add,hi]
      have ih:=Ui (pre:=i :: pre) (by rw[hst];exact hr) hvc.2 (fun ts=>by
       rw[YG]
       simp only[ES,List.map_cons,hdo,Option.getD_some,hi,Bh]
       rw[hE ts];rfl) (fun j k e h1 h2=>hen (j+1) k e (by simpa using h1) (by simpa using h2))
      refine⟨by simp[ih.1],fun j k hk=>?_⟩
      cases j with
      | zero =>
       simp only[List.getElem?_cons_zero,Option.some.injEq]at hk
       subst hk
       refine⟨o,(d,v,obs),ho,rfl,hdo,vc0,?_,hvc.1⟩
       rw[sR,hE]at hq
       simp only[List.take_zero,List.reverse_nil,List.nil_append]
       rw[hi]
       exact hq
      | succ j =>
       obtain⟨o',e,h1,h2,h3,h4⟩:=ih.2 j k (by simpa using hk)
       refine⟨o',e,h1,by simpa using h2,h3,?_⟩
       simpa[List.take_succ_cons] using h4
theorem O5:∀ {ens:EN} {objs:List (Nat×Obj)},O3 ens objs=true→∀(j:Nat) (e:Nat×AV×List (Nat×Obj)),ens[j]?=some e→∀n o,lk n e.2.2=some o→lk n objs=none∧∀(j':Nat) (e':Nat×AV×List (Nat×Obj)) (o':Obj),ens[j']?=some e'→lk n e'.2.2=some o'→j=j'
 | [],objs,_,j,e,h=>by simp at h
 | (d,v,obs) :: r,objs,h,j,e,he=>by
  simp only[O3,Bool.and_eq_true,List.all_eq_true,Option.isNone_iff_eq_none]at h
  have h0:∀n o,lk n obs=some o→lk n objs=none:=fun n o hn=>h.1 _ (FD hn)
  have hr:=O5 h.2
  have low:∀(k:Nat) e',r[k]?=some e'→∀n o o',lk n obs=some o→lk n e'.2.2=some o'→False:=by
   intro k e' hk n o o' h1 h2
   have:=(hr k e' hk n o' h2).1
   rw[Ar,h1]at this
   simp at this
  intro n o hn
  cases j with
  | zero =>
   simp only[List.getElem?_cons_zero,Option.some.injEq]at he
   subst he
   refine⟨h0 n o hn,fun j' e' o' h1 h2=>?_⟩
   cases j' with
   | zero=>rfl
   | succ k=>exact(low k e' (by simpa using h1) n o o' hn h2).elim
  | succ j =>
   have he:r[j]?=some e:=by simpa using he
   have h1:=hr j e he n o hn
   refine⟨?_,fun j' e' o' h2 h3=>?_⟩
   ·have:=h1.1
    rw[Ar]at this
    cases hx:lk n obs with
    | none=>rw[hx]at this;simpa using this
    | some u=>rw[hx]at this;simp at this
   ·cases j' with
    | zero =>
     simp only[List.getElem?_cons_zero,Option.some.injEq]at h2
     subst h2
     exact(low j e he n o' o h3 hn).elim
    | succ k=>rw[h1.2 k e' o' (by simpa using h2) h3]
end
/- A statement whose order Go leaves open, with operations that turn memory in its midst: the proof. -/
section
open Go Go.RowKit
structure Uj (ops:Array Oper) (anc:List (List Nat)):Prop where
 lt:∀i o,ops[i]?=some o→∀e∈Da o,e<i
 cl:∀i o,ops[i]?=some o→∀j∈anc.getD i [],j∈Da o∨∃e∈Da o,j∈anc.getD e []
theorem A2Y {ops:Array Oper} {anc:List (List Nat)} (h:A29 ops.toList anc=true):Uj ops anc:=by
 simp only[A29,List.all_eq_true,List.mem_range]at h
 have hi:∀i o,ops[i]?=some o→((Da o).all fun e=>decide (e<i))=true∧((anc.getD i []).all fun j=>AZ j (Da o)||(Da o).any fun e=>AZ j (anc.getD e []))=true:=by
  intro i o ho
  have hlt:i<ops.toList.length:=by
   have:=(Array.getElem?_eq_some_iff.1 ho).1
   simpa using this
  have:=h i hlt
  have ho':ops.toList[i]?=some o:=by simpa using ho
  rw[ho']at this
  simpa only[Bool.and_eq_true] using this
 refine⟨fun i o ho e he=>?_,fun i o ho j hj=>?_⟩
 ·have:=(hi i o ho).1
  simp only[List.all_eq_true,decide_eq_true_eq]at this
  exact this e he
 ·have:=(hi i o ho).2
  simp only[List.all_eq_true,Bool.or_eq_true,List.any_eq_true,Ae]at this
  exact this j hj
section
variable {ops:Array Oper} {k:Nat} {anc:List (List Nat)} {Q:Exit→Act→World→Prop}
theorem QP (hc:Uj ops anc) {listed:Array Bool} (hcl:∀i o,ops[i]?=some o→listed.getD i true=true→∀e∈Da o,listed.getD e false=true) :
  ∀i o,ops[i]?=some o→(∀e∈Da o,listed.getD e false=true)→∀j∈anc.getD i [],listed.getD j false=true:=by
 intro i
 induction i using Nat.strongRecOn with
 | _ i ih =>
  intro o ho hd j hj
  rcases hc.cl i o ho j hj with h1|⟨e,he,hje⟩
  ·exact hd j h1
  ·have hlt:=hc.lt i o ho e he
   have hsz:i<ops.size:=(Array.getElem?_eq_some_iff.1 ho).1
   have hoe:ops[e]?=some (ops[e]'(by omega)):=Array.getElem?_eq_getElem (by omega)
   have hle:=hd e he
   have hle':listed.getD e true=true:=by
    by_cases hh:e<listed.size
    ·simp[Array.getD,hh]at hle ⊢;exact hle
    ·simp[Array.getD,hh]at hle
   exact ih e hlt _ hoe (hcl e _ hoe hle') j hje
theorem O6 {F:Fence} {P:Program} (hc:Uj ops anc) (hback:∀i o,ops[i]?=some o→k≤i→∀j,j<i→j∈anc.getD i []):∀ {rest:List Oper} {p:Nat} {listed:Array Bool} {a:Act} {w:World},ops.toList.drop p=rest→k≤p→p≤ops.size→listed.size=ops.size →
  (∀i,i<ops.size→(listed.getD i true=true↔i<p))→wpListIn F 0 P ops Q rest a w→wpAnyIn F 0 P .any ops Q rest.length listed a w
 | [],p,listed,a,w,hd,hkp,hps,hls,hl,hQ=>by
  have hp:p=ops.size:=by
   have:=congrArg List.length hd
   simp at this
   omega
  refine⟨?_,hQ⟩
  apply List.eq_nil_iff_forall_not_mem.2
  intro i hi
  rw[C0]at hi
  obtain⟨h1,o,ho,_⟩:=hi
  have hsz:i<ops.size:=(Array.getElem?_eq_some_iff.1 ho).1
  have:=(hl i hsz).2 (by omega)
  rw[h1]at this
  cases this
 | o :: r,p,listed,a,w,hd,hkp,hps,hls,hl,hQ=>by
  obtain⟨hop,hr⟩:=Uf hd
  have hop:ops[p]?=some o:=by simpa using hop
  have hpsz:p<ops.size:=(Array.getElem?_eq_some_iff.1 hop).1
  have gd:∀e b,e<ops.size→listed.getD e b=listed.getD e true:=fun e b he=>by
   have:e<listed.size:=by omega
   simp[Array.getD,this]
  have hcl:∀i o,ops[i]?=some o→listed.getD i true=true→∀e∈Da o,listed.getD e false=true:=by
   intro i o ho h1 e he
   have hsz:i<ops.size:=(Array.getElem?_eq_some_iff.1 ho).1
   have h2:=(hl i hsz).1 h1
   have h3:=hc.lt i o ho e he
   rw[gd e false (by omega)]
   exact(hl e (by omega)).2 (by omega)
  have hready:∀i,i∈Region.ready .any ops listed→i=p:=by
   intro i hi
   rw[C0]at hi
   obtain⟨h1,o',ho',h2⟩:=hi
   have hsz:i<ops.size:=(Array.getElem?_eq_some_iff.1 ho').1
   have hge:¬i<p:=fun hlt=>by rw[(hl i hsz).2 hlt]at h1;cases h1
   by_cases hip:i=p
   ·exact hip
   ·have h3:=QP hc hcl i o' ho' h2 p (hback i o' ho' (by omega) p (by omega))
    rw[gd p false hpsz]at h3
    have:=(hl p hpsz).1 h3
    omega
  refine⟨fun hnil=>?_,fun i hi=>?_⟩
  ·exfalso
   have:p∈Region.ready .any ops listed:=by
    rw[C0]
    refine⟨?_,o,hop,fun e he=>?_⟩
    ·cases hh:listed.getD p true with
     | false=>rfl
     | true=>have:=(hl p hpsz).1 hh;omega
    ·have:=hc.lt p o hop e he
     rw[gd e false (by omega)]
     exact(hl e (by omega)).2 this
   rw[hnil]at this
   cases this
  ·have hip:=hready i hi
   subst hip
   have hnext:∀(j:Nat),j<ops.size→((listed.setIfInBounds i true).getD j true=true↔j<i+1):=by
    intro j hj
    have hjl:j<listed.size:=by omega
    by_cases hji:j=i
    ·subst hji
     simp[Array.getD,hjl]
    ·have h1:(listed.setIfInBounds i true).getD j true=listed.getD j true:=getD_set_ne true (fun e=>hji e.symm)
     rw[h1,hl j hj]
     omega
   unfold wpOpIn
   rw[hop]
   simp only
   unfold wpListIn at hQ
   split
   ·rename_i hw
    rw[if_pos hw]at hQ
    exact Oper.wpIn_mono (fun a' w' h'=>O6 hc hback hr.symm (by omega) (by omega) (by simpa using hls) hnext h') hQ
   ·rename_i hw
    rw[if_neg hw]at hQ
    exact⟨hQ.1,O6 hc hback hr.symm (by omega) (by omega) (by simpa using hls) hnext hQ.2⟩
end
/-! ### What the checks say -/
structure QOk (ops:List Oper) (anc:List (List Nat)) (L Q:List Nat):Prop where
 nodup:Q.Nodup
 pos:∀(j i:Nat),Q[j]?=some i→i∉L∧∃o,ops[i]?=some o∧o.guard=none∧(∀e∈Da o,e∈L∨e∈Q.take j)∧(∀t∈F2 o.op,∀k∈Q,Af ops k=some t→k∈anc.getD i []∧k∈Q.take j)
 slot:∀i∈Q,∀j∈Q,∀s,Af ops i=some s→Af ops j=some s→i=j
theorem YH {ops:List Oper} {anc:List (List Nat)} {L Q:List Nat}:∀ {r pre:List Nat},qB1 ops anc L Q r pre=true →
  (∀(j i:Nat),r[j]?=some i→i∉L∧i∉pre∧i∉r.take j∧∃o,ops[i]?=some o∧o.guard=none∧(∀e∈Da o,e∈L∨e∈pre∨e∈r.take j)∧(∀t∈F2 o.op,∀k∈Q,Af ops k=some t→k∈anc.getD i []∧(k∈pre∨k∈r.take j)) ∧
   ∀k,k∈pre∨k∈r.take j→Af ops k≠Af ops i)
 | [],pre,h,j,i,hj=>by simp at hj
 | x :: r,pre,h,j,i,hj=>by
  simp only[qB1,Bool.and_eq_true]at h
  obtain⟨h1,h2⟩:=h
  cases j with
  | zero =>
   simp only[List.getElem?_cons_zero,Option.some.injEq]at hj
   subst hj
   cases ho:ops[x]? with
   | none=>rw[ho]at h1;cases h1
   | some o =>
    rw[ho]at h1
    simp only[Bool.and_eq_true,List.all_eq_true,Bool.or_eq_true,Ae,bne_iff_ne,Bool.not_eq_true',Option.isNone_iff_eq_none]at h1
    obtain⟨⟨⟨⟨⟨⟨g1,g2⟩,g3⟩,g4⟩,g5⟩,g6⟩,g7⟩:=h1
    refine⟨fun h=>(by rw[(Ae _ _).2 h]at g6;cases g6),fun h=>(by rw[(Ae _ _).2 h]at g7;cases g7),by simp,o,rfl,g2,fun e he=>?_,fun t ht k hk hd=>?_,fun k hk=>?_⟩
    ·rcases g3 e he with h|h
     ·exact .inl h
     ·exact .inr (.inl h)
    ·rcases g4 t ht k hk with h|h
     ·exact absurd hd h
     ·exact⟨h.1,.inl h.2⟩
    ·rcases hk with hk|hk
     ·have:=g5 k hk
      simpa[Af,ho] using this
     ·simp at hk
  | succ j =>
   obtain⟨a1,a2,a3,o,a4,a5,a6,a7,a8⟩:=YH h2 j i (by simpa using hj)
   simp only[List.mem_cons,not_or]at a2
   refine⟨a1,a2.2,by simp[List.take_succ_cons,a2.1,a3],o,a4,a5,fun e he=>?_,fun t ht k hk hd=>?_,fun k hk=>a8 k ?_⟩
   ·rcases a6 e he with h|h|h
    ·exact .inl h
    ·rcases List.mem_cons.1 h with rfl|h
     ·exact .inr (.inr (by simp))
     ·exact .inr (.inl h)
    ·exact .inr (.inr (by simp[h]))
   ·obtain⟨b1,b2⟩:=a7 t ht k hk hd
    refine⟨b1,?_⟩
    rcases b2 with h|h
    ·rcases List.mem_cons.1 h with rfl|h
     ·exact .inr (by simp)
     ·exact .inl h
    ·exact .inr (by simp[h])
   ·rcases hk with hk|hk
    ·exact .inl (by simp[hk])
    ·simp only[List.take_succ_cons,List.mem_cons]at hk
     rcases hk with rfl|hk
     ·exact .inl (by simp)
     ·exact .inr hk
theorem YI {α:Type} {l:List α} {i j:Nat} {x:α} (h:l[i]?=some x) (hij:i<j):x∈l.take j:=by
 rw[List.mem_iff_getElem?]
 exact⟨i,by rw[List.getElem?_take,if_pos hij];exact h⟩
theorem qOk {ops:List Oper} {anc:List (List Nat)} {L Q:List Nat} (h:qB1 ops anc L Q Q []=true):QOk ops anc L Q:=by
 have hs:=YH h
 have hne:∀ {i j x y:Nat},Q[i]?=some x→Q[j]?=some y→i<j→x≠y∧Af ops x≠Af ops y:=by
  intro i j x y hx hy hij
  obtain⟨_,_,a3,_,_,_,_,_,a8⟩:=hs j y hy
  have hm:=YI hx hij
  exact⟨fun e=>a3 (e▸hm),a8 x (.inr hm)⟩
 refine⟨?_,fun j i hj=>?_,fun i hi j hj s h1 h2=>?_⟩
 ·rw[List.nodup_iff_pairwise_ne,List.pairwise_iff_getElem]
  intro i j hi hj hij e
  exact(hne (List.getElem?_eq_getElem hi) (List.getElem?_eq_getElem hj) hij).1 e
 ·obtain⟨a1,_,_,o,a4,a5,a6,a7,_⟩:=hs j i hj
  refine⟨a1,o,a4,a5,fun e he=>?_,fun t ht k hk hd=>?_⟩
  ·rcases a6 e he with h|h|h
   ·exact .inl h
   ·cases h
   ·exact .inr h
  ·obtain⟨b1,b2⟩:=a7 t ht k hk hd
   rcases b2 with h|h
   ·cases h
   ·exact⟨b1,h⟩
 ·obtain⟨a,ha⟩:=List.mem_iff_getElem?.1 hi
  obtain⟨b,hb⟩:=List.mem_iff_getElem?.1 hj
  rcases Nat.lt_trichotomy a b with h|h|h
  ·exact absurd (h1.trans h2.symm) (hne ha hb h).2
  ·subst h;rw[ha]at hb;injection hb
  ·exact absurd (h2.trans h1.symm) (hne hb ha h).2
theorem aZ:∀ {Q:List Nat} {ens:EN},Q.Nodup→∀(j i:Nat) (e:Nat×AV×List (Nat×Obj)),Q[j]?=some i→ens[j]?=some e→Ma Q ens i=⟨true,e.2.1,e.2.2⟩
 | [],ens,_,j,i,e,h,_=>by simp at h
 | x :: Q,[],_,j,i,e,_,h=>by simp at h
 | x :: Q,f :: ens,hn,j,i,e,h1,h2=>by
  cases j with
  | zero =>
   simp only[List.getElem?_cons_zero,Option.some.injEq]at h1 h2
   subst h1;subst h2
   simp[Ma,List.zip_cons_cons,lk]
  | succ j =>
   have h1:Q[j]?=some i:=by simpa using h1
   have hx:i≠x:=fun e=>by
    subst e
    exact(List.nodup_cons.1 hn).1 (List.mem_of_getElem? h1)
   have:=aZ (List.nodup_cons.1 hn).2 j i e h1 (by simpa using h2)
   simp only[Ma,List.zip_cons_cons,lk,if_neg hx]at this ⊢
   exact this
structure Fr (tb:Tb) (ops:List Oper) (anc:List (List Nat)) (L Q:List Nat) (ens:EN) (τ:St):Prop where
 q:QOk ops anc L Q
 len:ens.length=Q.length
 own:Own ops (Ma Q ens) τ Q
 at_:∀(j i:Nat),Q[j]?=some i→∃(o:Oper) (e:Nat×AV×List (Nat×Obj)),ops[i]?=some o∧ens[j]?=some e∧Af ops i=some e.1∧Ma Q ens i=⟨true,e.2.1,e.2.2⟩∧sQ tb ops τ (Ma Q ens) (Q.take j).reverse i o
theorem sS {tb:Tb} {ops:List Oper} {anc:List (List Nat)} {L Q:List Nat} {ens:EN} {τ:St} (hq:QOk ops anc L Q) (h:A28 tb ops Q ens τ):Fr tb ops anc L Q ens τ:=by
 obtain⟨vc,h1,h2,h3⟩:=h
 have hz:=fun(j i:Nat) (e:Nat×AV×List (Nat×Obj))=>aZ (ens:=ens) hq.nodup j i e
 obtain⟨hl,hf⟩:=Ui (en:=Ma Q ens) (pre:=[]) h1 h2 (fun ts=>rfl) hz
 have hat:∀i∈Q,∃(j:Nat) (e:Nat×AV×List (Nat×Obj)),Q[j]?=some i∧ens[j]?=some e∧Ma Q ens i=⟨true,e.2.1,e.2.2⟩:=by
  intro i hi
  obtain⟨j,hj⟩:=List.mem_iff_getElem?.1 hi
  obtain⟨_,e,_,he,_⟩:=hf j i hj
  exact⟨j,e,hj,he,hz j i e hj he⟩
 refine⟨hq,hl,⟨hq.slot,fun i hi n o hn=>?_,fun i hi j hj n o o' h4 h5=>?_⟩,fun j i hj=>?_⟩
 ·obtain⟨j,e,_,he,hz⟩:=hat i hi
  rw[hz]at hn
  exact(O5 h3 j e he n o hn).1
 ·obtain⟨a,e,ha,he,hz1⟩:=hat i hi
  obtain⟨b,e',hb,he',hz2⟩:=hat j hj
  rw[hz1]at h4
  rw[hz2]at h5
  have:=(O5 h3 a e he n o h4).2 b e' o' he' h5
  subst this
  rw[ha]at hb
  injection hb
 ·obtain⟨o,e,h4,h5,h6,h7⟩:=hf j i hj
  exact⟨o,e,h4,h5,h6,hz j i e hj h5,by simpa using h7⟩
theorem oE {ops:List Oper} {en:Nat→En} {τ:St} {Q:List Nat} (h:Own ops en τ Q) {ts pre ex:List Nat} (hp:∀j∈pre,j∈Q) (hex:∀j∈ex,j∈Q) (hA:∀j∈pre,AZ ((Af ops j).getD 0) ts=true→j∈ex) {n:Nat} {o:Obj} :
  lk n (Bh false ts τ.objs (ES ops en pre))=some o→lk n (Aj ops en τ ex).objs=some o:=by
 rw[sP h hex]
 induction pre with
 | nil =>
  simp only[ES,List.map_nil,Bh]
  intro hn
  refine .inr ⟨fun j hj=>?_,hn⟩
  cases h':lk n (en j).obs with
  | none=>rfl
  | some o'=>have:=h.new j (hex j hj) n o' h';rw[this]at hn;cases hn
 | cons i r ih =>
  simp only[ES,List.map_cons,Bh]
  have ih:=ih (fun j hj=>hp j (by simp[hj])) (fun j hj=>hA j (by simp[hj]))
  split
  ·rename_i hm
   intro hn
   rw[Ar]at hn
   cases h':lk n (en i).obs with
   | some o' =>
    rw[h']at hn
    simp only[Option.some_or]at hn
    cases hn
    exact .inl ⟨i,hA i (by simp) (by simpa using hm),h'⟩
   | none =>
    rw[h']at hn
    exact ih (by simpa[ES] using hn)
  ·exact ih
theorem LU {p:Nat×Obj}:∀ {l:List (Nat×Obj)},p∈l→∃o',lk p.1 l=some o'
 | (q1,q2) :: r,h=>by
  simp only[lk]
  by_cases he:p.1=q1
  ·exact⟨q2,by rw[if_pos he]⟩
  ·rw[if_neg he]
   rcases List.mem_cons.1 h with rfl|h
   ·exact absurd rfl he
   ·exact LU h
theorem a9 {c:Cx} (hok:c.Ok) {ops:List Oper} {anc:List (List Nat)} {L Q:List Nat} {ens:EN} {τ:St} (hF:Fr c.tb ops anc L Q ens τ) {ex:List Nat} (hex:∀i∈ex,i∈Q) {j i:Nat} {o:Oper} (hj:Q[j]?=some i) (ho:ops[i]?=some o) (hni:i∉ex)
  (hdep:∀k∈anc.getD i [],k∈Q→k∈ex) (hdo:∀d,o.dst=some d→d<c.nt) {a:Act} {w:World} {next:Act→World→Prop} {Qe:Exit→Act→World→Prop} (hs:c.sat (Aj ops (Ma Q ens) τ ex) a w)
  (hn:∀a' w',c.sat (Aj ops (Ma Q ens) τ (i :: ex)) a' w'→next a' w'):o.wpIn (FR c.r) 0 c.P a w next Qe:=by
 obtain⟨o',e,ho',he,hd,hz,vc,hq,hvc⟩:=hF.at_ j i hj
 rw[ho]at ho';cases ho'
 obtain⟨_,o2,ho2,_,_,hts⟩:=hF.q.pos j i hj
 rw[ho]at ho2;cases ho2
 have hpre:∀k∈(Q.take j).reverse,k∈Q:=fun k hk=>List.mem_of_mem_take (by simpa using hk)
 have hops:Ops ⟨(Aj ops (Ma Q ens) τ (Q.take j).reverse).env,Bh false (F2 o.op) τ.objs (ES ops (Ma Q ens) (Q.take j).reverse)⟩ (Aj ops (Ma Q ens) τ ex) o.op.operands.toList:=by
  intro x hx v hv
  cases x with
  | tmp t =>
   simp only[Ap]at hv ⊢
   have ht:t∈F2 o.op:=List.mem_filterMap.2 ⟨_,hx,rfl⟩
   rw[sO hF.own hpre]at hv
   rw[sO hF.own hex]
   rcases hv with ⟨k,hk,hkd,hkv⟩|⟨hno,hv⟩
   ·exact .inl ⟨k,hdep k (hts t ht k (hpre k hk) hkd).1 (hpre k hk),hkd,hkv⟩
   ·refine .inr ⟨fun k hk hkd=>?_,hv⟩
    exact hno k (by simpa using (hts t ht k (hex k hk) hkd).2) hkd
  | const v'=>exact hv
  | global g=>exact hv
  | func f=>exact hv
 have hobs:XY ⟨(Aj ops (Ma Q ens) τ (Q.take j).reverse).env,Bh false (F2 o.op) τ.objs (ES ops (Ma Q ens) (Q.take j).reverse)⟩ (Aj ops (Ma Q ens) τ ex):=by
  intro n o' hn
  refine oE hF.own hpre hex (fun k hk hm=>?_) hn
  obtain⟨jk,hjk⟩:=List.mem_iff_getElem?.1 (hpre k hk)
  obtain⟨_,ek,_,_,hdk,_⟩:=hF.at_ jk k hjk
  rw[hdk]at hm
  exact hdep k (hts _ ((Ae _ _).1 hm) k (hpre k hk) hdk).1 (hpre k hk)
 have hq':=RD hobs hops hq
 have hiQ:=List.mem_of_getElem? hj
 have hfresh:BT (Ma Q ens i).obs (Aj ops (Ma Q ens) τ ex)=true:=by
  simp only[BT,List.all_eq_true,Option.isNone_iff_eq_none]
  intro p hp
  obtain⟨o',hp'⟩:=LU hp
  cases hl:lk p.1 (Aj ops (Ma Q ens) τ ex).objs with
  | none=>rfl
  | some u =>
   rcases (sP hF.own hex p.1 u).1 hl with ⟨k,hk,hku⟩|⟨_,hu⟩
   ·have:=hF.own.name i hiQ k (hex k hk) p.1 o' u hp' hku
    subst this
    exact absurd hk hni
   ·rw[hF.own.new i hiQ p.1 o' hp']at hu;cases hu
 obtain⟨ρ,hsρ⟩:=hs
 refine dX (x9 hok hsρ) hq' hvc hfresh fun u ρ' w' hqs=>hn _ _ ?_
 have hdd:Af ops i=o.dst:=by simp[Af,ho]
 simp only[Aj,hdd]
 exact⟨ρ',hsρ.add hok.K hok.O hdo hfresh hqs⟩
end
/- A statement whose order Go leaves open, with operations that turn memory in its midst: any order. -/
section
open Go Go.RowKit
theorem KP:∀ {l l':List Nat},l.Nodup→(∀x∈l,x∈l')→l.length≤l'.length
 | [],_,_,_=>by simp
 | x :: l,l',hn,h=>by
  have hx:=h x (by simp)
  have:=KP (l:=l) (l':=l'.erase x) (List.nodup_cons.1 hn).2 (fun y hy=>by
   have:y≠x:=fun e=>(List.nodup_cons.1 hn).1 (e▸hy)
   exact(List.mem_erase_of_ne this).2 (h y (by simp[hy])))
  rw[List.length_erase_of_mem hx]at this
  have:=List.length_pos_of_mem hx
  simp only[List.length_cons]
  omega
theorem Hj (A:List Nat) (l:Nat) (ps:List (List Nat×Nat)) (D:List Nat):qs ((A,l) :: ps) D=A++qs ps D:=by simp[qs]
structure A2Z (ops:List Oper) (anc:List (List Nat)) (p0:Nat) (L:List Nat) (ps:List (List Nat×Nat)) (D:List Nat):Prop where
 all:∀i,i<p0→i∈L∨i∈qs ps D∨i∈ps.map (·.2)
 back:∀i,p0≤i→i<ops.length→∀j,j<i→j∈anc.getD i []
 L:∀i∈L,i<p0
 Q:∀i∈qs ps D,i<p0
 lo:∀p∈ps,p.2<p0
 p0:p0≤ops.length
theorem SB {ops:List Oper} {anc:List (List Nat)} {p0:Nat} {L D:List Nat} (h:Qx ops anc p0 L [] D=true):QOk ops anc L D∧(∀i,i<p0→i∈L∨i∈D)∧L.length+D.length=p0∧p0≤ops.length∧(∀i∈L,i<p0)∧(∀i∈D,i<p0)∧(∀i,p0≤i→i<ops.length→∀j,j<i→j∈anc.getD i []):=by
 simp only[Qx,Bool.and_eq_true,List.all_eq_true,List.mem_range,Bool.or_eq_true,decide_eq_true_eq,Ae]at h
 obtain⟨⟨⟨⟨⟨⟨h1,h2⟩,h3⟩,h4⟩,h5⟩,h6⟩,h7⟩:=h
 refine⟨qOk h1,h2,h3,h4,h5,h6,fun i hi hl j hj=>?_⟩
 rcases h7 i hl with h|h
 ·omega
 ·exact h j hj
theorem IZ {ops:List Oper} {anc:List (List Nat)} {p0:Nat} {L D A:List Nat} {l:Nat} {ps:List (List Nat×Nat)} (h:Qx ops anc p0 L ((A,l) :: ps) D=true):QOk ops anc L (A++qs ps D)∧(∃o,ops[l]?=some o∧o.guard=none∧(∀e∈Da o,e∈L∨e∈A))∧(∀j∈A,j∈anc.getD l [])∧l∉L∧l∉A++qs ps D∧(∀p∈ps,l∈anc.getD p.2 [])∧Qx ops anc p0 (l :: (A++L)) ps D=true:=by
 simp only[Qx,Bool.and_eq_true,List.all_eq_true,Ae]at h
 obtain⟨⟨⟨h1,h2⟩,h3⟩,h4⟩:=h
 cases ho:ops[l]? with
 | none=>rw[ho]at h2;cases h2
 | some o =>
  rw[ho]at h2
  simp only[Bool.and_eq_true,List.all_eq_true,Bool.or_eq_true,Ae,Bool.not_eq_true',Option.isNone_iff_eq_none]at h2
  obtain⟨⟨⟨⟨g1,g2⟩,g3⟩,g4⟩,g5⟩:=h2
  exact⟨qOk h1,⟨o,rfl,g1,g2⟩,g3,fun h=>(by rw[(Ae _ _).2 h]at g4;cases g4),fun h=>(by rw[(Ae _ _).2 h]at g5;cases g5),h3,h4⟩
theorem SC {ops:List Oper} {anc:List (List Nat)} {p0:Nat}:∀ {ps:List (List Nat×Nat)} {L D:List Nat},Qx ops anc p0 L ps D=true→A2Z ops anc p0 L ps D
 | [],L,D,h=>by
  obtain⟨_,h1,h2,h3,h4,h5,h6⟩:=SB h
  refine⟨fun i hi=>?_,h6,h4,by simpa[qs] using h5,by simp,h3⟩
  rcases h1 i hi with h|h
  ·exact .inl h
  ·exact .inr (.inl (by simpa[qs] using h))
 | (A,l) :: ps,L,D,h=>by
  obtain⟨_,_,_,_,_,_,h1⟩:=IZ h
  have ih:=SC h1
  refine⟨fun i hi=>?_,ih.back,fun i hi=>ih.L i (by simp[hi]),fun i hi=>?_,fun p hp=>?_,ih.p0⟩
  ·rcases ih.all i hi with h|h|h
   ·simp only[List.mem_cons,List.mem_append]at h
    rcases h with rfl|h|h
    ·exact .inr (.inr (by simp))
    ·exact .inr (.inl (by rw[Hj];simp[h]))
    ·exact .inl h
   ·exact .inr (.inl (by rw[Hj];simp[h]))
   ·exact .inr (.inr (by simp only[List.map_cons,List.mem_cons];exact .inr h))
  ·rw[Hj,List.mem_append]at hi
   rcases hi with hi|hi
   ·exact ih.L i (by simp[hi])
   ·exact ih.Q i hi
  ·rcases List.mem_cons.1 hp with rfl|hp
   ·exact ih.L l (by simp)
   ·exact ih.lo p hp
theorem WV {ops:List Oper} {en:Nat→En} {τ:St}:∀ {Q:List Nat} {ens:EN} {pre:List Nat},ens.length=Q.length→(∀(j i:Nat) (e:Nat×AV×List (Nat×Obj)),Q[j]?=some i→ens[j]?=some e→Af ops i=some e.1∧en i=⟨true,e.2.1,e.2.2⟩) →
  KO ens (Aj ops en τ pre)=Aj ops en τ (Q.reverse++pre)
 | [],[],pre,_,_=>rfl
 | [],_ :: _,_,h,_=>by simp at h
 | _ :: _,[],_,h,_=>by simp at h
 | i :: Q,(d,v,obs) :: ens,pre,hl,h=>by
  obtain⟨h1,h2⟩:=h 0 i (d,v,obs) rfl rfl
  have:(⟨(d,v) :: (Aj ops en τ pre).env,obs++(Aj ops en τ pre).objs⟩:St)=Aj ops en τ (i :: pre):=by simp[Aj,h1,h2,St.add]
  simp only[KO]
  rw[this,WV (by simpa using hl) (fun j k e h3 h4=>h (j+1) k e (by simpa using h3) (by simpa using h4))]
  simp
section
variable {c:Cx} {ops:Array Oper} {anc:List (List Nat)} {p0:Nat} {Kf:St→Prop} {Qe:Exit→Act→World→Prop}
theorem sT {ps:List (List Nat×Nat)} {L D:List Nat} {ens:EN} {τ:St} (hB:Qx ops.toList anc p0 L ps D=true) (hM:sL c ops.toList Kf ps D ens τ):Fr c.tb ops.toList anc L (qs ps D) ens τ:=by
 cases ps with
 | nil =>
  have:qs [] D=D:=rfl
  rw[this]
  exact sS (SB hB).1 hM.1
 | cons p ps =>
  obtain⟨A,l⟩:=p
  rw[Hj]
  exact sS (IZ hB).1 hM.1
theorem Uk (hanc:Uj ops anc) {ps:List (List Nat×Nat)} {L D:List Nat} {ex:List Nat} {listed:Array Bool} (hB:Qx ops.toList anc p0 L ps D=true) (hq:QOk ops.toList anc L (qs ps D)) (hex:∀i∈ex,i∈qs ps D) (hls:listed.size=ops.size)
    (hl:∀i,i<ops.size→(listed.getD i true=true↔i∈L∨i∈ex)) (hf:¬(ps=[]∧∀i∈qs ps D,i∈ex)):∃i,i∈Region.ready .any ops listed:=by
  have gd:∀e b,e<ops.size→listed.getD e b=listed.getD e true:=fun e b he=>by
    have:e<listed.size:=by omega
    simp[Array.getD,this]
  have mk:∀i o,ops[i]?=some o→i∉L→i∉ex→(∀e∈Da o,e∈L∨e∈ex)→i∈Region.ready .any ops listed:=by
    intro i o ho h1 h2 h3
    have hsz:i<ops.size:=(Array.getElem?_eq_some_iff.1 ho).1
    rw[C0]
    refine⟨?_,o,ho,fun e he=>?_⟩
    · cases hh:listed.getD i true with
      | false=>rfl
      | true => rcases (hl i hsz).1 hh with h | h
                · exact absurd h h1
                · exact absurd h h2
    · have h4:=hanc.lt i o ho e he
      rw[gd e false (by omega)]
      exact(hl e (by omega)).2 (h3 e he)
  by_cases hall:∀i∈qs ps D,i∈ex
  · cases ps with
    | nil=>exact absurd ⟨rfl,hall⟩ hf
    | cons p ps =>
      obtain⟨A,l⟩:=p
      rw[Hj]at hall hex
      obtain⟨_,⟨o,ho,_,hd⟩,_,h1,h2,_,_⟩:=IZ hB
      refine⟨l,mk l o (by simpa using ho) h1 (fun h=>h2 (hex l h)) fun e he=>?_⟩
      rcases hd e he with h|h
      · exact .inl h
      · exact .inr (hall e (by simp[h]))
  · have key:∀(n j:Nat),j≤n→(∃i,(qs ps D)[j]?=some i∧i∉ex)→∃i,i∈Region.ready .any ops listed:=by
      intro n
      induction n with
      | zero =>
        rintro j hj ⟨i,hi,hne⟩
        have:j=0:=by omega
        subst this
        obtain⟨g1,o,g2,_,g3,_⟩:=hq.pos 0 i hi
        refine⟨i,mk i o (by simpa using g2) g1 hne fun e he=>?_⟩
        rcases g3 e he with h|h
        · exact .inl h
        · simp at h
      | succ n ihn =>
        rintro j hj ⟨i,hi,hne⟩
        by_cases hlow:∃j',j'<j∧∃i',(qs ps D)[j']?=some i'∧i'∉ex
        · obtain⟨j',h1,h2⟩:=hlow
          exact ihn j' (by omega) h2
        · obtain⟨g1,o,g2,_,g3,_⟩:=hq.pos j i hi
          refine⟨i,mk i o (by simpa using g2) g1 hne fun e he=>?_⟩
          rcases g3 e he with h|h
          · exact .inl h
          · right
            obtain⟨j',hj'⟩:=List.mem_iff_getElem?.1 h
            rw[List.getElem?_take]at hj'
            split at hj'
            · rename_i hlt
              apply Classical.byContradiction
              intro hx
              exact hlow ⟨j',hlt,e,hj',hx⟩
            · cases hj'
    have:∃i,i∈qs ps D∧i∉ex:=by
      apply Classical.byContradiction
      intro hno
      exact hall fun i hi=>Classical.byContradiction fun hx=>hno ⟨i,hi,hx⟩
    obtain⟨i,hi,hne⟩:=this
    obtain⟨j,hj⟩:=List.mem_iff_getElem?.1 hi
    exact key j j (Nat.le_refl _) ⟨i,hj,hne⟩
theorem Ul (hanc:Uj ops anc) (hT:∀τ,Kf τ→∀a w,c.sat τ a w→wpListIn (FR c.r) 0 c.P ops Qe (ops.toList.drop p0) a w) {m:Nat} {L D:List Nat} {ens:EN} {τ:St} {ex:List Nat} {listed:Array Bool} {a:Act} {w:World}
  (hB:Qx ops.toList anc p0 L [] D=true) (hM:sL c ops.toList Kf [] D ens τ) (hnd:(L++ex).Nodup) (hex:∀i∈ex,i∈D) (hm:m+L.length+ex.length=ops.size) (hls:listed.size=ops.size) (hl:∀i,i<ops.size→(listed.getD i true=true↔i∈L∨i∈ex))
  (hs:c.sat (Aj ops.toList (Ma D ens) τ ex) a w) (hall:∀i∈D,i∈ex):wpAnyIn (FR c.r) 0 c.P .any ops Qe m listed a w:=by
 obtain⟨hq,h1,h2,h3,h4,h5,h6⟩:=SB hB
 have hF:=sS hq hM.1
 have hlen:ex.length=D.length:=Nat.le_antisymm (KP (List.nodup_append.1 hnd).2.1 hex) (KP hq.nodup hall)
 have hm':m=(ops.toList.drop p0).length:=by
  simp only[List.length_drop,Array.length_toList]
  omega
 have hadd:KO ens τ=Aj ops.toList (Ma D ens) τ D.reverse:=by
  have:=WV (ops:=ops.toList) (en:=Ma D ens) (τ:=τ) (pre:=[]) hF.len (fun j i e h7 h8=>by
   obtain⟨o,e',_,h9,h10,h11,_⟩:=hF.at_ j i h7
   rw[h8]at h9;cases h9
   exact⟨h10,h11⟩)
  simpa[Aj] using this
 have hs':c.sat (KO ens τ) a w:=by
  rw[hadd]
  have hr:∀i∈D.reverse,i∈D:=fun i hi=>by simpa using hi
  have hme:∀i,i∈ex↔i∈D.reverse:=fun i=>⟨fun h=>by simpa using hex i h,fun h=>hall i (by simpa using h)⟩
  refine R5 (fun s=>Option.ext fun v=>?_) (fun n=>Option.ext fun o=>?_) hs
  ·rw[sO hF.own hr,sO hF.own hex]
   simp only[hme]
  ·rw[sP hF.own hr,sP hF.own hex]
   simp only[hme]
 have:=O6 (Q:=Qe) (F:=FR c.r) (P:=c.P) hanc (k:=p0) (fun i o ho hi j hj=>h6 i hi (by have:=(Array.getElem?_eq_some_iff.1 ho).1;simpa using this) j hj) (rest:=ops.toList.drop p0) (p:=p0) (listed:=listed) (a:=a) (w:=w) rfl (Nat.le_refl _) (by simpa using h3) hls
  (fun i hi=>by
   rw[hl i hi]
   constructor
   ·rintro (h|h)
    ·exact h4 i h
    ·exact h5 i (hex i h)
   ·intro h
    rcases h1 i h with h|h
    ·exact .inl h
    ·exact .inr (hall i h)) (hT _ hM.2 a w hs')
 rw[hm']
 exact this
theorem yI (hok:c.Ok) (hdst:∀o∈ops.toList,GQ c.nt o=true) (hanc:Uj ops anc) (hT:∀τ,Kf τ→∀a w,c.sat τ a w→wpListIn (FR c.r) 0 c.P ops Qe (ops.toList.drop p0) a w) :
  ∀(m:Nat) (ps:List (List Nat×Nat)) (L D:List Nat) (ens:EN) (τ:St) (ex:List Nat) (listed:Array Bool) (a:Act) (w:World),Qx ops.toList anc p0 L ps D=true→sL c ops.toList Kf ps D ens τ→(L++ex).Nodup→(∀i∈ex,i∈qs ps D) →
   m+L.length+ex.length=ops.size→listed.size=ops.size→(∀i,i<ops.size→(listed.getD i true=true↔i∈L∨i∈ex))→(∀i o,ops[i]?=some o→(i∈L∨i∈ex)→∀e∈Da o,e∈L∨e∈ex) →
   c.sat (Aj ops.toList (Ma (qs ps D) ens) τ ex) a w→wpAnyIn (FR c.r) 0 c.P .any ops Qe m listed a w:=by
 intro m
 induction m with
 | zero =>
  intro ps L D ens τ ex listed a w hB hM hnd hex hm hls hl hcl hs
  have hF:=sT hB hM
  by_cases hf:ps=[]∧∀i∈qs ps D,i∈ex
  ·obtain⟨rfl,hall⟩:=hf
   exact Ul hanc hT hB hM hnd hex hm hls hl hs hall
  ·exfalso
   obtain⟨i,hi⟩:=Uk hanc hB hF.q hex hls hl hf
   rw[C0]at hi
   obtain⟨h1,o,ho,_⟩:=hi
   have hsz:i<ops.size:=(Array.getElem?_eq_some_iff.1 ho).1
   have hne:i∉L++ex:=fun h=>by
    rw[(hl i hsz).2 (List.mem_append.1 h)]at h1;cases h1
   have hcv:=SC hB
   have:=EC ops.size (i :: (L++ex)) (List.nodup_cons.2 ⟨hne,hnd⟩) (fun j hj=>by
    have hp:=hcv.p0
    simp only[Array.length_toList]at hp
    rcases List.mem_cons.1 hj with rfl|hj
    ·exact hsz
    ·rcases List.mem_append.1 hj with hj|hj
     ·have:=hcv.L j hj;omega
     ·have:=hcv.Q j (hex j hj);omega)
   simp only[List.length_cons,List.length_append]at this
   omega
 | succ m ih =>
  intro ps L D ens τ ex listed a w hB hM hnd hex hm hls hl hcl hs
  have hF:=sT hB hM
  have hcv:=SC hB
  have gd:∀e b,e<ops.size→listed.getD e b=listed.getD e true:=fun e b he=>by
   have:e<listed.size:=by omega
   simp[Array.getD,this]
  by_cases hf:ps=[]∧∀i∈qs ps D,i∈ex
  ·obtain⟨rfl,hall⟩:=hf
   exact Ul hanc hT hB hM hnd hex hm hls hl hs hall
  ·refine⟨fun hnil=>?_,fun i hi=>?_⟩
   ·obtain⟨i,hi⟩:=Uk hanc hB hF.q hex hls hl hf
    rw[hnil]at hi
    cases hi
   ·rw[C0]at hi
    obtain⟨h1,o,ho,h2⟩:=hi
    have hsz:i<ops.size:=(Array.getElem?_eq_some_iff.1 ho).1
    have hne:¬(i∈L∨i∈ex):=fun h=>by rw[(hl i hsz).2 h]at h1;cases h1
    have hdir:∀e∈Da o,e∈L∨e∈ex:=fun e he=>by
     have h3:=hanc.lt i o ho e he
     have h4:=h2 e he
     rw[gd e false (by omega)]at h4
     exact(hl e (by omega)).1 h4
    have hancs:∀j∈anc.getD i [],j∈L∨j∈ex:=by
     have hcl':∀i o,ops[i]?=some o→listed.getD i true=true→∀e∈Da o,listed.getD e false=true:=by
      intro i o ho h1 e he
      have hsz:i<ops.size:=(Array.getElem?_eq_some_iff.1 ho).1
      have h3:=hanc.lt i o ho e he
      rw[gd e false (by omega)]
      exact(hl e (by omega)).2 (hcl i o ho ((hl i hsz).1 h1) e he)
     intro j hj
     have h3:=QP hanc hcl' i o ho h2 j hj
     by_cases hjs:j<ops.size
     ·rw[gd j false hjs]at h3
      exact(hl j hjs).1 h3
     ·have:¬j<listed.size:=by omega
      simp[Array.getD,this]at h3
    have hol:ops.toList[i]?=some o:=by simpa using ho
    have hmem:o∈ops.toList:=List.mem_of_getElem? hol
    have hdo:=Ct (hdst o hmem)
    have hlist:∀(S:List Nat),(∀j,j∈S↔j=i∨j∈L∨j∈ex)→∀j,j<ops.size→((listed.setIfInBounds i true).getD j true=true↔j∈S):=by
     intro S hS j hj
     have hjl:j<listed.size:=by omega
     rw[hS]
     by_cases hji:j=i
     ·subst hji
      simp[Array.getD,hjl]
     ·have h3:(listed.setIfInBounds i true).getD j true=listed.getD j true:=getD_set_ne true (fun e=>hji e.symm)
      rw[h3,hl j hj]
      simp[hji]
    have hwant:∀ {g:Option (Nat×Bool)},g=none→o.guard=g→Region.wanted o (yielded ops a.tmps)=true:=by
     intro g hg e
     simp[Region.wanted,e,hg]
    by_cases hiQ:i∈qs ps D
    ·obtain⟨j,hj⟩:=List.mem_iff_getElem?.1 hiQ
     obtain⟨_,o2,ho2,hg,_,_⟩:=hF.q.pos j i hj
     rw[hol]at ho2;cases ho2
     unfold wpOpIn
     rw[ho]
     simp only
     rw[if_pos (hwant rfl hg)]
     refine a9 hok hF hex hj hol (fun h=>hne (.inr h)) (fun k hk hkQ=>?_) hdo hs fun a' w' hs'=>?_
     ·rcases hancs k hk with h|h
      ·obtain⟨jk,hjk⟩:=List.mem_iff_getElem?.1 hkQ
       exact absurd h (hF.q.pos jk k hjk).1
      ·exact h
     ·refine ih ps L D ens τ (i :: ex) _ a' w' hB hM ?_ (fun k hk=>?_) (by simp only[List.length_cons];omega) (by simpa using hls) (fun k hk=>?_) (fun i' o' ho' hi' e he=>?_) hs'
      ·rw[List.nodup_append]at hnd ⊢
       refine⟨hnd.1,List.nodup_cons.2 ⟨fun h=>hne (.inr h),hnd.2.1⟩,fun x hx y hy=>?_⟩
       rcases List.mem_cons.1 hy with rfl|hy
       ·exact fun e=>hne (.inl (e▸hx))
       ·exact hnd.2.2 x hx y hy
      ·rcases List.mem_cons.1 hk with rfl|hk
       ·exact hiQ
       ·exact hex k hk
      ·rw[hlist (i :: (L++ex)) (fun j=>by simp) k hk]
       simp only[List.mem_cons,List.mem_append]
       constructor
       ·rintro (h|h|h)
        ·exact .inr (.inl h)
        ·exact .inl h
        ·exact .inr (.inr h)
       ·rintro (h|h|h)
        ·exact .inr (.inl h)
        ·exact .inl h
        ·exact .inr (.inr h)
      ·have:e∈L∨e∈ex:=by
        rcases hi' with h|h
        ·exact hcl i' o' ho' (.inl h) e he
        ·rcases List.mem_cons.1 h with rfl|h
         ·rw[ho]at ho';cases ho'
          exact hdir e he
         ·exact hcl i' o' ho' (.inr h) e he
       rcases this with h|h
       ·exact .inl h
       ·exact .inr (by simp[h])
    · -- no operation of the front
     have hnotback:¬p0≤i:=by
      intro hge
      have hb:=hcv.back i hge (by simpa using hsz)
      cases ps with
      | nil =>
       refine hf ⟨rfl,fun j hj=>?_⟩
       have h3:=hcv.Q j hj
       rcases hancs j (hb j (by omega)) with h|h
       ·obtain⟨jk,hjk⟩:=List.mem_iff_getElem?.1 hj
        exact absurd h (hF.q.pos jk j hjk).1
       ·exact h
      | cons p ps =>
       obtain⟨A,l⟩:=p
       obtain⟨_,_,_,h5,h6,_,_⟩:=IZ hB
       have h3:=hcv.lo (A,l) (by simp)
       simp only at h3
       rcases hancs l (hb l (by omega)) with h|h
       ·exact h5 h
       ·exact h6 (by rw[←Hj A l];exact hex l h)
     cases ps with
     | nil =>
      rcases hcv.all i (by omega) with h|h|h
      ·exact absurd (.inl h) hne
      ·exact absurd h hiQ
      ·cases h
     | cons p ps =>
      obtain⟨A,l⟩:=p
      obtain⟨_,⟨ol,hol2,hgl,hdl⟩,hAl,h5,h6,h7,hB2⟩:=IZ hB
      have hil:i=l:=by
       rcases hcv.all i (by omega) with h|h|h
       ·exact absurd (.inl h) hne
       ·exact absurd h hiQ
       ·simp only[List.map_cons,List.mem_cons,List.mem_map]at h
        rcases h with h|⟨p,hp,rfl⟩
        ·exact h
        ·rcases hancs l (h7 p hp) with h|h
         ·exact absurd h h5
         ·exact absurd (hex l h) (by rw[Hj];exact h6)
      subst hil
      rw[hol]at hol2;cases hol2
      rw[Hj]at hF hex hs hiQ
      obtain⟨hM1,o',ho',hL⟩:=hM
      rw[hol]at ho';cases ho'
      have hAex:∀j∈A,j∈ex:=fun j hj=>by
       rcases hancs j (hAl j hj) with h|h
       ·obtain⟨jk,hjk⟩:=List.mem_iff_getElem?.1 (show j∈A++qs ps D by simp[hj])
        exact absurd h (hF.q.pos jk j hjk).1
       ·exact h
      have hAn:A.Nodup∧(qs ps D).Nodup∧∀x∈A,∀y∈qs ps D,x≠y:=List.nodup_append.1 hF.q.nodup
      have hadd:KO (ens.take A.length) τ=Aj ops.toList (Ma (A++qs ps D) ens) τ A.reverse:=by
       have:=WV (ops:=ops.toList) (en:=Ma (A++qs ps D) ens) (τ:=τ) (pre:=[]) (Q:=A) (ens:=ens.take A.length) (by have:=hF.len;simp only[List.length_append]at this;simp only[List.length_take];omega) (fun j i e h8 h9=>by
        have hjA:j<A.length:=(List.getElem?_eq_some_iff.1 h8).1
        obtain⟨o,e',_,h10,h11,h12,_⟩:=hF.at_ j i (by rw[List.getElem?_append_left hjA];exact h8)
        rw[List.getElem?_take,if_pos hjA,h10]at h9
        cases h9
        exact⟨h11,h12⟩)
       simpa[Aj] using this
      have hsplit:=oD (A:=A.reverse) hF.own hex (fun j hj=>hAex j (by simpa using hj))
      rw[←hadd]at hsplit
      have mf:∀j,j∈ex.filter (fun j=>!AZ j A.reverse)↔j∈ex∧j∉A:=fun j=>by
       rw[List.mem_filter]
       have:=Ae j A.reverse
       constructor
       ·rintro⟨h8,h9⟩;exact⟨h8,fun h10=>by rw[this.2 (by simpa using h10)]at h9;cases h9⟩
       ·rintro⟨h8,h9⟩
        refine⟨h8,?_⟩
        cases hmm:AZ j A.reverse with
        | false=>rfl
        | true=>exact absurd (by simpa using this.1 hmm) h9
      have hQ':∀j∈ex.filter (fun j=>!AZ j A.reverse),j∈qs ps D:=fun j hj=>by
       have:=hex j ((mf j).1 hj).1
       rcases List.mem_append.1 this with h|h
       ·exact absurd h ((mf j).1 hj).2
       ·exact h
      have hents:∀j∈qs ps D,∃(jk:Nat) (e:Nat×AV×List (Nat×Obj)),(qs ps D)[jk]?=some j∧(ens.drop A.length)[jk]?=some e∧Af ops.toList j=some e.1∧Ma (A++qs ps D) ens j=⟨true,e.2.1,e.2.2⟩:=by
       intro j hj
       obtain⟨jk,hjk⟩:=List.mem_iff_getElem?.1 hj
       obtain⟨o,e,_,h10,h11,h12,_⟩:=hF.at_ (A.length+jk) j (by rw[List.getElem?_append_right (by omega),Nat.add_sub_cancel_left];exact hjk)
       exact⟨jk,e,hjk,by rw[List.getElem?_drop];exact h10,h11,h12⟩
      have hown0:Own ops.toList (Ma (A++qs ps D) ens) ⟨[],[]⟩ (A++qs ps D):=⟨hF.own.slot,fun _ _ _ _ _=>rfl,hF.own.name⟩
      have hexf:∀j∈ex.filter (fun j=>!AZ j A.reverse),j∈A++qs ps D:=fun j hj=>by simp[hQ' j hj]
      unfold wpOpIn
      rw[ho]
      simp only
      rw[if_pos (hwant rfl hgl)]
      refine hL _ _ hsplit ⟨fun s v hv=>?_,fun n o' hn=>?_⟩ a w _ _ hs fun τ' hN a' w' τ'' hext hs''=>?_
      ·rcases (sO hown0 hexf s v).1 hv with ⟨j,hj,hd,rfl⟩|⟨_,hv⟩
       ·obtain⟨jk,e,_,h9,h10,h11⟩:=hents j (hQ' j hj)
        rw[hd]at h10
        cases h10
        rw[h11]
        exact⟨e.2.2,List.mem_of_getElem? h9⟩
       ·cases hv
      ·rcases (sP hown0 hexf n o').1 hn with ⟨j,hj,hd⟩|⟨_,hv⟩
       ·obtain⟨jk,e,_,h9,h10,h11⟩:=hents j (hQ' j hj)
        rw[h11]at hd
        exact⟨e,List.mem_of_getElem? h9,FD hd⟩
       ·cases hv
      ·have hFlen:ex.length=A.length+(ex.filter (fun j=>!AZ j A.reverse)).length:=by
        have hsum:∀l:List Nat,l.length=(l.filter (fun j=>AZ j A.reverse)).length+(l.filter (fun j=>!AZ j A.reverse)).length:=by
         intro l
         induction l with
         | nil=>rfl
         | cons x r ihr =>
          simp only[List.filter_cons,List.length_cons]
          cases AZ x A.reverse<;>simp<;>omega
        rw[hsum ex]
        have hexn:=(List.nodup_append.1 hnd).2.1
        have h8:(ex.filter (fun j=>AZ j A.reverse)).length≤A.length:=KP (hexn.filter _) fun x hx=>by
         have:=(Ae _ _).1 (List.mem_filter.1 hx).2
         simpa using this
        have h9:A.length≤(ex.filter (fun j=>AZ j A.reverse)).length:=KP hAn.1 fun x hx=>List.mem_filter.2 ⟨hAex x hx,(Ae _ _).2 (by simpa using hx)⟩
        omega
       have hLe:∀x,(x∈i :: (A++L)∨x∈ex.filter (fun j=>!AZ j A.reverse))↔x=i∨x∈L∨x∈ex:=by
        intro x
        rw[mf]
        simp only[List.mem_cons,List.mem_append]
        constructor
        ·rintro ((h|h|h)|h)
         ·exact .inl h
         ·exact .inr (.inr (hAex x h))
         ·exact .inr (.inl h)
         ·exact .inr (.inr h.1)
        ·rintro (h|h|h)
         ·exact .inl (.inl h)
         ·exact .inl (.inr (.inr h))
         ·by_cases hx:x∈A
          ·exact .inl (.inr (.inl hx))
          ·exact .inr ⟨h,hx⟩
       refine ih ps (i :: (A++L)) D (ens.drop A.length) τ' (ex.filter fun j=>!AZ j A.reverse) _ a' w' hB2 hN ?_ hQ' (by simp only[List.length_cons,List.length_append];omega) (by simpa using hls) (fun k hk=>?_) (fun i' o' ho' hi' e he=>?_) ?_
       ·obtain⟨n1,n2,n3⟩:=List.nodup_append.1 hnd
        have hAL:∀x∈A,x∉L:=fun x hx hxL=>n3 x hxL x (hAex x hx) rfl
        rw[List.nodup_append]
        refine⟨List.nodup_cons.2 ⟨fun h=>?_,List.nodup_append.2 ⟨hAn.1,n1,fun x hx y hy e=>hAL x hx (e▸hy)⟩⟩,n2.filter _,fun x hx y hy e=>?_⟩
        ·rcases List.mem_append.1 h with h|h
         ·exact hne (.inr (hAex i h))
         ·exact hne (.inl h)
        ·subst e
         obtain⟨q1,q2⟩:=(mf x).1 hy
         rcases List.mem_cons.1 hx with rfl|hx
         ·exact hne (.inr q1)
         ·rcases List.mem_append.1 hx with hx|hx
          ·exact q2 hx
          ·exact n3 x hx x q1 rfl
       ·rw[hLe k,hlist (i :: (L++ex)) (fun j=>by simp) k hk]
        simp
       ·rw[hLe]
        have:e∈L∨e∈ex:=by
         rcases (hLe i').1 hi' with rfl|h
         ·rw[ho]at ho';cases ho'
          exact hdir e he
         ·exact hcl i' o' ho' h e he
        exact .inr this
       ·have hzz:∀j∈ex.filter (fun j=>!AZ j A.reverse),Ma (qs ps D) (ens.drop A.length) j=Ma (A++qs ps D) ens j:=fun j hj=>by
         obtain⟨jk,e,h8,h9,_,h11⟩:=hents j (hQ' j hj)
         rw[h11]
         exact aZ hAn.2.1 jk j e h8 h9
        have hx:=sM (ops:=ops.toList) (en:=Ma (qs ps D) (ens.drop A.length)) (τ:=τ') (ex.filter fun j=>!AZ j A.reverse)
        rw[JD (en:=Ma (A++qs ps D) ens) (σ0:=⟨[],[]⟩) hzz]at hx
        exact R5 (fun s=>by rw[hx.env,hext.env]) (fun n=>by rw[hx.objs,hext.objs]) hs''
end
section
variable {c:Cx} {R:Exit→Act→World→Prop} {k:List EY} {σ:St}
theorem GE (hm:c.P.follows .mixedOrders=true) (hc:c.Ok) {id:Nat} {l:List Oper} (p0:Nat) (ps:List (List Nat×Nat)) (D:List Nat) (hchk:(A29 l (rZ l)&&Qx l (rZ l) p0 [] ps D)=true) {ens:EN}
  (h:sL c l (fun τ=>QM c R k l.toArray (l.drop p0) τ) ps D ens σ):Ev c R (.run (.region id l.toArray true)) k σ:=by
 intro h1 h2 a w hs
 simp only[KF,CZ,List.all_eq_true]at h1
 simp only[Bool.and_eq_true]at hchk
 refine wpIn_region_any hm ?_
 have hk:∀τ,QM c R k l.toArray (l.drop p0) τ→∀a w,c.sat τ a w→wpListIn (FR c.r) 0 c.P l.toArray (d8 c R k) (l.toArray.toList.drop p0) a w:=fun τ hE a w hs=>hE (fun o ho=>h1 o (by simpa using List.mem_of_mem_drop ho)) h2 a w hs
 exact yI (ops:=l.toArray) (anc:=rZ l) hc (by simpa using h1) (A2Y (by simpa using hchk.1)) hk l.toArray.size ps [] D ens σ [] (Array.replicate l.toArray.size false) a { w with drawn:=w.drawn+1 } (by simpa using hchk.2) (by simpa using h) (by simp) (by simp) (by simp) (by simp) (fun i hi=>by simp at hi;simp[Array.getD,hi]) (fun i o _ hi=>by simp at hi) (X5 hs)
end
end
/- Operations that turn memory do so whatever else there is. -/
section
open Go Go.RowKit
section
variable {n:Nat} {ns:List Nat}
theorem Fh {m:Nat} (hn:n∈ns) (h:¬AZ m ns=true):¬m=n:=fun e=>h ((Ae _ _).2 (e▸hn))
mutual
theorem SD (hn:n∈ns) {e:Ty} {xs:List e.den}:∀(x:AV),x.fgt ns=x→x.frz n e xs=x
 | .sr m e' lo hi,h=>by
  simp only[AV.fgt]at h
  split at h
  ·cases h
  ·rename_i hm;simp only[AV.frz,if_neg (Fh hn hm)]
 | .ep m e' i path off,h=>by
  simp only[AV.fgt]at h
  split at h
  ·cases h
  ·rename_i hm;simp only[AV.frz,if_neg (Fh hn hm)]
 | .nin m e' i len,h=>by
  simp only[AV.fgt]at h
  split at h
  ·cases h
  ·rename_i hm;simp only[AV.frz,if_neg (Fh hn hm)]
 | .ag l,h=>by
  simp only[AV.fgt,AV.ag.injEq]at h
  simp only[AV.frz,frzs_of_fgt hn l h]
 | .tup l,h=>by
  simp only[AV.fgt,AV.tup.injEq]at h
  simp only[AV.frz,frzs_of_fgt hn l h]
 | .p _ _,_=>rfl
 | .raw _,_=>rfl
 | .ip _ _,_=>rfl
 | .bp _ _ _,_=>rfl
 | .fn _,_=>rfl
 | .clo _ _,_=>rfl
 | .mp _,_=>rfl
 | .yl _,_=>rfl
 | .top,_=>rfl
theorem frzs_of_fgt (hn:n∈ns) {e:Ty} {xs:List e.den}:∀(l:List AV),AV.fgts ns l=l→AV.frzs n e xs l=l
 | [],_=>rfl
 | x :: r,h=>by
  simp only[AV.fgts,List.cons.injEq]at h
  simp only[AV.frzs,SD hn x h.1,frzs_of_fgt hn r h.2]
end
mutual
theorem SE (hn:n∈ns):∀(x:AV),x.fgt ns=x→x.drp n=x
 | .sr m e' lo hi,h=>by
  simp only[AV.fgt]at h
  split at h
  ·cases h
  ·rename_i hm;simp only[AV.drp,if_neg (Fh hn hm)]
 | .ep m e' i path off,h=>by
  simp only[AV.fgt]at h
  split at h
  ·cases h
  ·rename_i hm;simp only[AV.drp,if_neg (Fh hn hm)]
 | .nin m e' i len,h=>by
  simp only[AV.fgt]at h
  split at h
  ·cases h
  ·rename_i hm;simp only[AV.drp,if_neg (Fh hn hm)]
 | .ag l,h=>by
  simp only[AV.fgt,AV.ag.injEq]at h
  simp only[AV.drp,drps_of_fgt hn l h]
 | .tup l,h=>by
  simp only[AV.fgt,AV.tup.injEq]at h
  simp only[AV.drp,drps_of_fgt hn l h]
 | .p _ _,_=>rfl
 | .raw _,_=>rfl
 | .ip _ _,_=>rfl
 | .bp _ _ _,_=>rfl
 | .fn _,_=>rfl
 | .clo _ _,_=>rfl
 | .mp _,_=>rfl
 | .yl _,_=>rfl
 | .top,_=>rfl
theorem drps_of_fgt (hn:n∈ns):∀(l:List AV),AV.fgts ns l=l→AV.drps n l=l
 | [],_=>rfl
 | x :: r,h=>by
  simp only[AV.fgts,List.cons.injEq]at h
  simp only[AV.drps,SE hn x h.1,drps_of_fgt hn r h.2]
end
end
section
variable {n:Nat} {ns tl:List Nat}
theorem Db (htl:∀n,n∈tl→n∈ns) {m:Nat} (h:¬AZ m ns=true):¬AZ m tl=true:=fun h1=>h ((Ae _ _).2 (htl _ ((Ae _ _).1 h1)))
theorem eW (htl:∀n,n∈tl→n∈ns) {l:List Nat} (h:¬(l.any fun m=>AZ m ns)=true):¬(l.any fun m=>AZ m tl)=true:=fun h1=>by
 obtain⟨m,hm,h2⟩:=List.any_eq_true.1 h1
 exact h (List.any_eq_true.2 ⟨m,hm,(Ae _ _).2 (htl _ ((Ae _ _).1 h2))⟩)
mutual
theorem SF (htl:∀n,n∈tl→n∈ns):∀(x:AV),x.fgt ns=x→x.fgt tl=x
 | .sr m e' lo hi,h=>by
  simp only[AV.fgt]at h
  split at h
  ·cases h
  ·rename_i hm;simp only[AV.fgt,if_neg (Db htl hm)]
 | .ep m e' i path off,h=>by
  simp only[AV.fgt]at h
  split at h
  ·cases h
  ·rename_i hm;simp only[AV.fgt,if_neg (Db htl hm)]
 | .nin m e' i len,h=>by
  simp only[AV.fgt]at h
  split at h
  ·cases h
  ·rename_i hm;simp only[AV.fgt,if_neg (Db htl hm)]
 | .bp m path off,h=>by
  simp only[AV.fgt]at h
  split at h
  ·cases h
  ·rename_i hm;simp only[AV.fgt,if_neg (Db htl hm)]
 | .mp m,h=>by
  simp only[AV.fgt]at h
  split at h
  ·cases h
  ·rename_i hm;simp only[AV.fgt,if_neg (Db htl hm)]
 | .yl m,h=>by
  simp only[AV.fgt]at h
  split at h
  ·cases h
  ·rename_i hm;simp only[AV.fgt,if_neg (Db htl hm)]
 | .clo f cs,h=>by
  simp only[AV.fgt]at h
  split at h
  ·cases h
  ·rename_i hm;simp only[AV.fgt,if_neg (eW htl hm)]
 | .ag l,h=>by
  simp only[AV.fgt,AV.ag.injEq]at h
  simp only[AV.fgt,fgts_of_fgt htl l h]
 | .tup l,h=>by
  simp only[AV.fgt,AV.tup.injEq]at h
  simp only[AV.fgt,fgts_of_fgt htl l h]
 | .p _ _,_=>rfl
 | .raw _,_=>rfl
 | .ip _ _,_=>rfl
 | .fn _,_=>rfl
 | .top,_=>rfl
theorem fgts_of_fgt (htl:∀n,n∈tl→n∈ns):∀(l:List AV),AV.fgts ns l=l→AV.fgts tl l=l
 | [],_=>rfl
 | x :: r,h=>by
  simp only[AV.fgts,List.cons.injEq]at h
  simp only[AV.fgts,SF htl x h.1,fgts_of_fgt htl r h.2]
end
mutual
theorem SG (hn:n∈ns) (htl:∀n,n∈tl→n∈ns):∀(x:AV),x.fgt ns=x→x.trn n tl=x
 | .sr m e' lo hi,h=>by
  simp only[AV.fgt]at h
  split at h
  ·cases h
  ·rename_i hm;simp only[AV.trn,if_neg (Db htl hm)]
 | .ep m e' i path off,h=>by
  simp only[AV.fgt]at h
  split at h
  ·cases h
  ·rename_i hm;simp only[AV.trn,if_neg (Db htl hm)]
 | .nin m e' i len,h=>by
  simp only[AV.fgt]at h
  split at h
  ·cases h
  ·rename_i hm;simp only[AV.trn];rw[if_neg fun h=>h.elim (Fh hn hm) (Db htl hm)]
 | .bp m path off,h=>by
  simp only[AV.fgt]at h
  split at h
  ·cases h
  ·rename_i hm;simp only[AV.trn,if_neg (Db htl hm)]
 | .mp m,h=>by
  simp only[AV.fgt]at h
  split at h
  ·cases h
  ·rename_i hm;simp only[AV.trn,if_neg (Db htl hm)]
 | .yl m,h=>by
  simp only[AV.fgt]at h
  split at h
  ·cases h
  ·rename_i hm;simp only[AV.trn,if_neg (Db htl hm)]
 | .clo f cs,h=>by
  simp only[AV.fgt]at h
  split at h
  ·cases h
  ·rename_i hm;simp only[AV.trn,if_neg (eW htl hm)]
 | .ag l,h=>by
  simp only[AV.fgt,AV.ag.injEq]at h
  simp only[AV.trn,trns_of_fgt hn htl l h]
 | .tup l,h=>by
  simp only[AV.fgt,AV.tup.injEq]at h
  simp only[AV.trn,trns_of_fgt hn htl l h]
 | .p _ _,_=>rfl
 | .raw _,_=>rfl
 | .ip _ _,_=>rfl
 | .fn _,_=>rfl
 | .top,_=>rfl
theorem trns_of_fgt (hn:n∈ns) (htl:∀n,n∈tl→n∈ns):∀(l:List AV),AV.fgts ns l=l→AV.trns n tl l=l
 | [],_=>rfl
 | x :: r,h=>by
  simp only[AV.fgts,List.cons.injEq]at h
  simp only[AV.trns,SG hn htl x h.1,trns_of_fgt hn htl r h.2]
end
end
def JH:AV→Bool
 | .raw _=>true
 | .p _ _=>true
 | _=>false
def KQ:Obj→Bool
 | .arr _ _ _=>true
 | .box _ _ fs=>fs.all JH
 | _=>false
theorem SH {n:Nat} {e:Ty} {xs:List e.den}:∀fs:List AV,fs.all JH=true→AV.frzs n e xs fs=fs
 | [],_=>rfl
 | x :: r,h=>by
  rw[List.all_cons,Bool.and_eq_true]at h
  simp only[AV.frzs,SH r h.2]
  cases x<;>first|rfl|(have:=h.1;simp[JH]at this)
theorem SI {n:Nat}:∀fs:List AV,fs.all JH=true→AV.drps n fs=fs
 | [],_=>rfl
 | x :: r,h=>by
  rw[List.all_cons,Bool.and_eq_true]at h
  simp only[AV.drps,SI r h.2]
  cases x<;>first|rfl|(have:=h.1;simp[JH]at this)
theorem oG {n:Nat} {e:Ty} {xs:List e.den} {o:Obj} (h:KQ o=true):Obj.frz n e xs o=o:=by
 cases o with
 | box et st fs=>simp only[Obj.frz,SH fs h]
 | arr et e' ys=>rfl
 | _=>cases h
theorem oH {n:Nat} {o:Obj} (h:KQ o=true):Obj.drp n o=o:=by
 cases o with
 | box et st fs=>simp only[Obj.drp,SI fs h]
 | arr et e' ys=>rfl
 | _=>cases h
theorem SJ {hs:List Nat}:∀fs:List AV,fs.all JH=true→AV.fgts hs fs=fs
 | [],_=>rfl
 | x :: r,h=>by
  rw[List.all_cons,Bool.and_eq_true]at h
  simp only[AV.fgts,SJ r h.2]
  cases x<;>first|rfl|(have:=h.1;simp[JH]at this)
theorem Um {hs:List Nat} {o:Obj} (h:KQ o=true):Obj.fgt hs o=o:=by
 cases o with
 | box et st fs=>simp only[Obj.fgt,SJ fs h]
 | arr et e' ys=>rfl
 | _=>cases h
theorem SK {n:Nat} {hs:List Nat}:∀fs:List AV,fs.all JH=true→AV.trns n hs fs=fs
 | [],_=>rfl
 | x :: r,h=>by
  rw[List.all_cons,Bool.and_eq_true]at h
  simp only[AV.trns,SK r h.2]
  cases x<;>first|rfl|(have:=h.1;simp[JH]at this)
theorem Un {n:Nat} {hs:List Nat} {o:Obj} (h:KQ o=true):Obj.trn n hs o=o:=by
 cases o with
 | box et st fs=>simp only[Obj.trn,SK fs h]
 | arr et e' ys=>rfl
 | _=>cases h
structure Gz (X σ:St) (ns:List Nat):Prop where
 env:∀s v,lk s X.env=some v→v.fgt ns=v
 arr:∀n o,lk n X.objs=some o→KQ o=true
 new:∀n o,lk n X.objs=some o→lk n σ.objs=none
 nm:∀n o,lk n X.objs=some o→n∉ns
section
variable {σ σ' X:St} {ns:List Nat}
theorem Lx.lkn (hx:Lx σ σ' X) (ha:Gz X σ ns) {n:Nat} (hn:n∈ns):lk n σ'.objs=lk n σ.objs:=by
 rw[hx.objs]
 cases hX:lk n X.objs with
 | none=>rfl
 | some o=>exact absurd hn (ha.nm n o hX)
theorem Lx.obs (hx:Lx σ σ' X) (ha:Gz X σ ns):XY σ σ':=by
 intro n o hn
 rw[hx.objs]
 cases hX:lk n X.objs with
 | none=>exact hn
 | some o'=>rw[ha.new n o' hX]at hn;cases hn
theorem eX {n:Nat} (hx:Lx σ σ' X) (ha:Gz X σ ns) (hn:n∈ns):Lx (frz n σ) (frz n σ') X∧Gz X (frz n σ) ns:=by
 unfold frz
 split
 ·exact⟨hx,ha⟩
 have core:∀(e:Ty) (xs:List e.den),Lx ⟨Cp n e xs σ.env,A3 n e xs (T6 n σ.objs)⟩ ⟨Cp n e xs σ'.env,A3 n e xs (T6 n σ'.objs)⟩ X∧Gz X ⟨Cp n e xs σ.env,A3 n e xs (T6 n σ.objs)⟩ ns:=by
  intro e xs
  refine⟨⟨fun s=>?_,fun m=>?_⟩,ha.env,ha.arr,fun m o hm=>?_,ha.nm⟩
  ·simp only[LG,hx.env]
   cases hX:lk s X.env with
   | none=>rfl
   | some v=>simp[SD hn v (ha.env s v hX)]
  ·simp only[CP,Oo]
   by_cases hm:m=n
   ·subst hm
    cases hX:lk m X.objs with
    | none=>simp
    | some o=>exact absurd hn (ha.nm m o hX)
   ·simp only[if_neg hm,hx.objs]
    cases hX:lk m X.objs with
    | none=>rfl
    | some o=>exact congrArg some (oG (ha.arr m o hX))
  ·simp only[CP,Oo]
   split
   ·rfl
   ·rw[ha.new m o hm];rfl
 rw[hx.lkn ha hn]
 unfold Z3
 split
 ·exact core _ _
 ·rename_i et iet k e xs hl
  exact core (.agg (.prod k (.slice e))) xs
 ·exact⟨hx,ha⟩
theorem SL:∀ {l:List Nat} {σ σ':St},Lx σ σ' X→Gz X σ ns→(∀n∈l,n∈ns)→Lx (CO l σ) (CO l σ') X∧Gz X (CO l σ) ns
 | [],_,_,hx,ha,_=>⟨hx,ha⟩
 | n :: l,σ,σ',hx,ha,h=>by
  obtain⟨h1,h2⟩:=eX hx ha (h n (by simp))
  have:=SL (l:=l) h1 h2 fun m hm=>h m (by simp[hm])
  exact this
/-! ### Operands -/
def bA (σ σ':St) (xs:List Operand):Prop:=∀x∈xs,Ap σ' x=Ap σ x
theorem RG (hx:Lx σ σ' X) {xs:List Operand} (h:∀t∈xs.filterMap Nh,lk t X.env=none):bA σ σ' xs:=by
 intro x hm
 cases x with
 | tmp t =>
  simp only[Ap,hx.env]
  rw[h t (List.mem_filterMap.2 ⟨_,hm,rfl⟩)]
  rfl
 | const v=>rfl
 | global g=>rfl
 | func f=>rfl
theorem KR:∀ {l:List (Nat×Operand)},bA σ σ' (l.map (·.2))→Cq σ' l=Cq σ l
 | [],_=>rfl
 | (i,x) :: r,h=>by
  simp only[Cq]
  rw[h x (by simp),KR (fun y hy=>h y (by simp only[List.map_cons,List.mem_cons];exact .inr hy))]
theorem Ns:∀ {l:List (Nat×Operand)},bA σ σ' (l.map (·.2))→EW σ' l=EW σ l
 | [],_=>rfl
 | (i,x) :: r,h=>by
  simp only[EW]
  rw[h x (by simp),Ns (fun y hy=>h y (by simp only[List.map_cons,List.mem_cons];exact .inr hy))]
theorem bB (hx:Lx σ σ' X) (ha:Gz X σ ns) (n:Nat):CM (lk n σ'.objs)=CM (lk n σ.objs):=by
 rw[hx.objs]
 cases hX:lk n X.objs with
 | none=>rfl
 | some o =>
  rw[ha.new n o hX]
  have:=ha.arr n o hX
  cases o<;>first|rfl|cases this
theorem YJ (hx:Lx σ σ' X) (ha:Gz X σ ns) {op:Op} (h:bA σ σ' op.operands.toList):Bv σ' op=Bv σ op:=by
 cases op<;>simp only[Bv]
 case buildSlice t n parts =>
  exact KR (fun x hx=>h x (by simpa[Op.operands] using hx))
 case build t parts =>
  exact Ns (fun x hx=>h x (by simpa[Op.operands] using hx))
 case store t x y =>
  rw[h x (by simp[Op.operands]),h y (by simp[Op.operands])]
  unfold B4
  split
  ·rw[bB hx ha]
  ·rfl
 case mapUpdate t m x y =>
  rw[h m (by simp[Op.operands]),h x (by simp[Op.operands]),h y (by simp[Op.operands])]
def Ia (σ:St):Option AV→Option AV→List Nat
 | some (.sr n _ _ _),some (.sr m _ _ _)=>if CM (lk n σ.objs)=true then [n,m] else [n]
 | some (.sr n _ _ _),_=>[n]
 | some (.nin n _ _ _),_=>[n]
 | some (.raw _),some (.sr m _ _ _)=>if CM (lk m σ.objs)=true then [m] else []
 | _,_=>[]
def YK (σ:St):Option AV→Option AV→List Nat
 | some (.ep n _ _ _ _),some (.sr m _ _ _)=>if CM (lk n σ.objs)=true then [n,m] else []
 | _,_=>[]
def WW (σ:St):Op→List Nat
 | .call c=>match c.callee,c.args.toList with
  | .builtin .append,[x,y]=>Ia σ (Ap σ x) (Ap σ y)
  | _,_=>[]
 | .store _ x y=>YK σ (Ap σ x) (Ap σ y)
 | _=>[]
theorem sU {n:Nat} {e:Ty} {lo hi:Nat} {v:AV}:n∈Ia σ (some (.sr n e lo hi)) (some v):=by
 cases v<;>first|(simp[Ia];done)|(simp only[Ia];split<;>simp)
theorem eY (hx:Lx σ σ' X) (ha:Gz X σ ns) {tl:List Nat} (htl:∀n,n∈tl→n∈ns) {d nn:Nat} {v:AV} {ob:Obj} (hd:lk d X.env=none) (hnn:lk nn X.objs=none) :
  Lx ⟨(d,v) :: Co tl σ.env,(nn,ob) :: BD tl tl σ.objs⟩ ⟨(d,v) :: Co tl σ'.env,(nn,ob) :: BD tl tl σ'.objs⟩ X:=by
 refine⟨fun s=>?_,fun m=>?_⟩
 ·simp only[lk]
  by_cases hs:s=d
  ·subst hs;rw[if_pos rfl,if_pos rfl,hd];rfl
  ·rw[if_neg hs,if_neg hs,Et,Et,hx.env]
   cases hX:lk s X.env with
   | none=>rfl
   | some w=>simp[SF htl w (ha.env s w hX)]
 ·simp only[lk]
  by_cases hm:m=nn
  ·subst hm;rw[if_pos rfl,if_pos rfl,hnn];rfl
  ·rw[if_neg hm,if_neg hm,Cg,Cg,hx.objs]
   cases hX:lk m X.objs with
   | none=>rfl
   | some w =>
    rw[if_neg fun h=>ha.nm m w hX (htl _ ((Ae _ _).1 h))]
    exact congrArg some (Um (ha.arr m w hX))
theorem eZ (hx:Lx σ σ' X) (ha:Gz X σ ns) {n:Nat} {tl:List Nat} (hn:n∈ns) (htl:∀n,n∈tl→n∈ns) {en:List (Nat×AV)} {new:List (Nat×Obj)} (hd:∀s v,lk s en=some v→lk s X.env=none) (hnn:∀m o,lk m new=some o→lk m X.objs=none) :
  Lx ⟨en++Dg n tl σ.env,new++B9 n tl σ.objs⟩ ⟨en++Dg n tl σ'.env,new++B9 n tl σ'.objs⟩ X:=by
 refine⟨fun s=>?_,fun m=>?_⟩
 ·simp only[Ar]
  cases hs:lk s en with
  | some v=>rw[hd s v hs];rfl
  | none =>
   rw[Eu,Eu,hx.env]
   cases hX:lk s X.env with
   | none=>rfl
   | some w=>simp[SG hn htl w (ha.env s w hX)]
 ·simp only[Ar]
  cases hm:lk m new with
  | some o=>rw[hnn m o hm];rfl
  | none =>
   rw[Cs,Cs,hx.objs]
   cases hX:lk m X.objs with
   | none=>rfl
   | some w =>
    rw[if_neg fun h=>ha.nm m w hX (by
     rcases List.mem_cons.1 ((Ae _ _).1 h) with rfl|h
     ·exact hn
     ·exact htl _ h)]
    exact congrArg some (Un (ha.arr m w hX))
theorem WX {n:Nat} {o o':Obj} (hx:Lx σ σ' X) (ha:Gz X σ ns) (hn:lk n σ.objs=some o) {env env':List (Nat×AV)} (he:∀s,lk s env'=(lk s X.env).or (lk s env)):Lx ⟨env,upd n o' σ.objs⟩ ⟨env',upd n o' σ'.objs⟩ X:=by
 refine⟨he,fun m=>?_⟩
 simp only[Fe]
 have hX:lk n X.objs=none:=by
  cases h:lk n X.objs with
  | none=>rfl
  | some u=>rw[ha.new n u h]at hn;cases hn
 by_cases hm:m=n
 ·subst hm
  rw[if_pos rfl,if_pos rfl,hx.objs,hX];rfl
 ·rw[if_neg hm,if_neg hm,hx.objs]
theorem Lx.some_lk (hx:Lx σ σ' X) (ha:Gz X σ ns) {n:Nat} {o:Obj} (h:lk n σ.objs=some o):lk n σ'.objs=some o:=hx.obs ha n o h
theorem oI {tb:Tb} {op:Op} {d:Option Nat} {vc:Prop} {τ:St} (hx:Lx σ σ' X) (ha:Gz X σ ns) (hops:bA σ σ' op.operands.toList) (happ:∀n∈WW σ op,n∈ns) (hd:∀t,d=some t→lk t X.env=none) (hXt:∀n,(∃u,lk n τ.objs=some u)→lk n X.objs=none) (h:Er tb σ d op=some (vc,τ)) :
  (∃τ',Er tb σ' d op=some (vc,τ')∧Lx τ τ' X)∧∀k,aq tb σ' k op=none:=by
 have hobs:=hx.obs ha
 cases op<;>simp only[Er]at h<;>try(cases h;done)
 case store t x y =>
  refine⟨?_,fun _=>rfl⟩
  simp only[Er]
  have happ:∀n∈YK σ (Ap σ x) (Ap σ y),n∈ns:=happ
  rw[hops x (by simp[Op.operands]),hops y (by simp[Op.operands])]
  cases d with
  | some d=>simp[DL]at h
  | none =>
   simp only[DL]at h ⊢
   generalize Ap σ x=X1 at h happ ⊢
   generalize Ap σ y=Y1 at h happ ⊢
   unfold Gm at h ⊢
   split at h
   ·rename_i ti n path off v hti
    try simp only
    unfold DJ at h ⊢
    split at h
    ·rename_i et st fs hl
     rw[hx.some_lk ha hl]
     try simp only
     unfold EU at h ⊢
     split at h
     ·rename_i u fs' h1 h2
      try rw[h1,h2]
      try simp only
      split at h
      ·rename_i hc
       rw[if_pos hc]
       cases h
       exact⟨_,rfl,WX hx ha hl hx.env⟩
      ·cases h
     ·cases h
    ·cases h
   ·rename_i ti n e i path off v hti
    try simp only
    unfold DK at h ⊢
    split at h
    ·rename_i et e' xs hl
     rw[hx.some_lk ha hl]
     try simp only
     cases hv:MN false σ ti.ty v with
     | none=>rw[hv]at h;unfold Du at h;split at h<;>first|(cases h;done)|(rename_i h2;cases h2)
     | some w =>
      rw[Ea hobs hv]
      rw[hv]at h
      unfold Du at h ⊢
      split at h
      ·rename_i ys w' h1 h2
       cases h2
       try rw[h1]
       try simp only
       unfold FA at h ⊢
       split at h
       ·rename_i z h3
        try rw[h3]
        try simp only
        split at h
        ·rename_i hc
         rw[if_pos hc]
         cases h
         exact⟨_,rfl,WX hx ha hl hx.env⟩
        ·cases h
       ·cases h
      ·cases h
    ·rename_i et iet k e1 xs j hl
     rw[hx.some_lk ha hl]
     try simp only
     split at h
     ·rename_i m E hi
      try simp only
      split at h
      ·rename_i hc
       rw[if_pos hc]
       unfold J8 at h ⊢
       split at h
       ·rename_i hc2
        rw[if_pos hc2]
        unfold J6 at h ⊢
        split at h
        ·rename_i jet e2 ys hm
         rw[hx.some_lk ha hm]
         try simp only
         split at h
         ·rename_i hc3
          rw[if_pos hc3]
          unfold Iz at h ⊢
          split at h
          ·rename_i zs hz
           try rw[hz]
           try simp only
           cases h
           have hnm:∀q,q∈[n,m]→q∈ns:=fun q hq=>happ q (by simp only[YK,hl,CM,if_true];exact hq)
           refine⟨_,rfl,eZ (en:=[]) (new:=[(n,_)]) hx ha (hnm n (by simp)) (fun q hq=>hnm q (by simp at hq;simp[hq])) (fun s v h=>by cases h) (fun q o hq=>hXt q ⟨o,?_⟩)⟩
           simp only[lk]at hq ⊢
           split at hq
           ·rename_i e1;cases hq;rw[if_pos e1]
           ·cases hq
          ·cases h
         ·cases h
        ·cases h
       ·cases h
      ·cases h
     ·cases h
    ·cases h
   ·cases h
 case mapUpdate t m x y =>
  refine⟨?_,fun _=>rfl⟩
  simp only[Er]
  rw[hops m (by simp[Op.operands]),hops x (by simp[Op.operands]),hops y (by simp[Op.operands])]
  cases d with
  | some d=>simp[DL]at h
  | none =>
   simp only[DL]at h ⊢
   generalize Ap σ m=M1 at h ⊢
   generalize Ap σ x=X1 at h ⊢
   generalize Ap σ y=Y1 at h ⊢
   unfold I1 at h ⊢
   split at h
   ·try simp only
    unfold FB at h ⊢
    split at h
    ·rename_i kt vt l hl
     rw[hx.some_lk ha hl]
     try simp only
     split at h
     ·rename_i hc
      rw[if_pos hc]
      unfold Fu at h ⊢
      split at h
      ·rename_i k1 v1 h1 h2
       rw[Ea hobs h1,Ea hobs h2]
       try simp only
       split at h
       ·rename_i hc2
        rw[if_pos hc2]
        cases h
        exact⟨_,rfl,WX hx ha hl hx.env⟩
       ·cases h
      ·cases h
     ·cases h
    ·cases h
   ·cases h
 case call cl =>
  obtain⟨callee,⟨args⟩,⟨argTypes⟩⟩:=cl
  cases callee with
  | value g=>simp[Cf]at h
  | invoke r m=>simp[Cf]at h
  | builtin b =>
   simp only[Cf]at h
   unfold Cy at h
   split at h
   ·rename_i x y t u
    have hx1:Ap σ' x=Ap σ x:=hops x (by simp[Op.operands,Call.operands])
    have hy1:Ap σ' y=Ap σ y:=hops y (by simp[Op.operands,Call.operands])
    have happ:∀n∈Ia σ (Ap σ x) (Ap σ y),n∈ns:=fun n hn=>happ n (by simpa[WW] using hn)
    unfold Ce at h
    split at h
    ·rename_i n e hi v hxv hyv
     rw[hxv,hyv]at happ
     refine⟨?_,fun k=>by simp[aq,CU,Cd,CA,hx1,hxv]⟩
     simp only[Er,Cf,Cy,Ce,hx1,hxv,hy1,hyv]
     split at h
     ·rename_i d' 
      have hd':=hd d' rfl
      have hns:n∈ns:=happ n sU
      try simp only
      split at h
      ·rename_i htu
       rw[if_pos htu]
       unfold Dv at h ⊢
       split at h
       ·rename_i e2 o2 el b2 htb
        try rw[htb]
        try simp only
        split at h
        ·rename_i hee
         rw[if_pos hee]
         unfold CN at h ⊢
         split at h
         ·rename_i ti et e' xs h1 hl
          try rw[h1]
          try rw[hx.some_lk ha hl]
          try simp only
          split at h
          ·rename_i hel
           rw[if_pos hel]
           unfold EV at h ⊢
           split at h
           ·rename_i zs ys h2 h3
            try rw[h2]
            rw[Nf hobs h3]
            try simp only
            cases h
            refine⟨_,rfl,⟨fun s=>?_,fun m=>?_⟩⟩
            ·simp only[lk]
             by_cases hs:s=d'
             ·subst hs;rw[if_pos rfl,if_pos rfl,hd'];rfl
             ·rw[if_neg hs,if_neg hs,IQ,IQ,hx.env]
              cases hX:lk s X.env with
              | none=>rfl
              | some w=>simp[SE hns w (ha.env s w hX)]
            ·simp only[Fe,Bg]
             have hXn:lk n X.objs=none:=by
              cases hX:lk n X.objs with
              | none=>rfl
              | some w=>exact absurd hns (ha.nm n w hX)
             by_cases hm:m=n
             ·subst hm
              rw[if_pos rfl,if_pos rfl,hx.objs,hXn];rfl
             ·rw[if_neg hm,if_neg hm,hx.objs]
              cases hX:lk m X.objs with
              | none=>rfl
              | some w=>exact congrArg some (oH (ha.arr m w hX))
           ·cases h
          ·cases h
         ·rename_i ti et iet k e' xs h1 hl
          try rw[h1]
          try rw[hx.some_lk ha hl]
          try simp only
          split at h
          ·rename_i hc
           rw[if_pos hc]
           unfold Px at h ⊢
           split at h
           ·rename_i m E hi'
            try simp only
            unfold J7 at h ⊢
            split at h
            ·rename_i et2 iet2 k2 e3 ys hm
             rw[hx.some_lk ha hm]
             try simp only
             split at h
             ·rename_i hc2
              rw[if_pos hc2]
              unfold I0 at h ⊢
              split at h
              ·rename_i zs hz
               try rw[hz]
               try simp only
               cases h
               refine⟨_,rfl,eY hx ha (fun q hq=>happ q (by simp only[Ia,hl,CM,if_true];exact hq)) hd' ?_⟩
               cases hX:lk n X.objs with
               | none=>rfl
               | some w=>exact absurd hns (ha.nm n w hX)
              ·cases h
             ·cases h
            ·cases h
           ·cases h
          ·cases h
         ·cases h
        ·cases h
       ·cases h
      ·cases h
     ·cases h
    ·rename_i n e i len v hxv hyv
     rw[hxv,hyv]at happ
     refine⟨?_,fun k=>by simp[aq,CU,Cd,CA,hx1,hxv]⟩
     simp only[Er,Cf,Cy,Ce,hx1,hxv,hy1,hyv]
     split at h
     ·rename_i d' 
      have hd':=hd d' rfl
      have hns:n∈ns:=happ n (by simp[Ia])
      try simp only
      split at h
      ·rename_i htu
       rw[if_pos htu]
       unfold L3 at h ⊢
       split at h
       ·rename_i e2 o2 el b2 htb
        try rw[htb]
        try simp only
        split at h
        ·rename_i hee
         rw[if_pos hee]
         unfold NC at h ⊢
         split at h
         ·rename_i ti et iet k e1 xs h1 hl
          try rw[h1]
          try rw[hx.some_lk ha hl]
          try simp only
          split at h
          ·rename_i hc
           rw[if_pos hc]
           unfold J5 at h ⊢
           split at h
           ·rename_i ys h3
            rw[Nf hobs h3]
            try simp only
            split at h
            ·rename_i hdn
             have hXd:lk d' X.objs=none:=by
              refine hXt d' ?_
              cases h
              exact⟨_,by simp only[lk,if_true];rfl⟩
             have hdn':(lk d' σ'.objs).isNone=true:=by rw[hx.objs,hXd];exact hdn
             rw[if_pos hdn']
             cases h
             refine⟨_,rfl,eZ (en:=[(d',_)]) (new:=[(d',_),(n,_)]) hx ha hns (fun q hq=>by cases hq) (fun s v h=>?_) (fun q o hq=>?_)⟩
             ·simp only[lk]at h
              split at h
              ·rename_i e1;rw[e1];exact hd'
              ·cases h
             ·simp only[lk]at hq
              split at hq
              ·rename_i e1;rw[e1];exact hXd
              ·split at hq
               ·rename_i e1
                rw[e1]
                cases hX:lk n X.objs with
                | none=>rfl
                | some w=>exact absurd hns (ha.nm n w hX)
               ·cases hq
            ·cases h
           ·cases h
          ·cases h
         ·cases h
        ·cases h
       ·cases h
      ·cases h
     ·cases h
    ·rename_i v hxv hyv
     rw[hxv,hyv]at happ
     split at h
     ·rename_i d' 
      have hd':=hd d' rfl
      split at h
      ·rename_i htu
       unfold Vy at h
       split at h
       ·rename_i m E hi' t1 offs el b hti
        unfold NE at h
        split at h
        ·rename_i ti et2 iet k e ys h1 hm
         split at h
         ·rename_i hc
          unfold ND at h
          split at h
          ·rename_i hc2
           have hXd:lk d' X.objs=none:=by
            refine hXt d' ?_
            cases h
            exact⟨_,by simp only[lk,if_true];rfl⟩
           have hdn':(lk d' σ'.objs).isNone=true:=by rw[hx.objs,hXd];exact hc2.1
           have hm':=hx.some_lk ha hm
           refine⟨?_,fun k0=>by simp[aq,CU,Cd,CA,hx1,hxv,hy1,hyv,htu,Dt,Qr,hm',CM];split<;>simp[ET]⟩
           cases h
           simp only[Er,Cf,Cy,Ce,hx1,hxv,hy1,hyv,Vy,NE,ND]
           rw[if_pos htu,hti]
           simp only
           rw[hm',h1]
           simp only
           rw[if_pos hc,if_pos ⟨hdn',hc2.2⟩]
           exact⟨_,rfl,eY hx ha (fun q hq=>happ q (by simp only[Ia,hm,CM,if_true];exact hq)) hd' hXd⟩
          ·cases h
         ·cases h
        ·cases h
       ·cases h
      ·cases h
     ·cases h
    ·cases h
   ·cases h
end
end
/- What turns memory in the midst of a statement: a step, a call. -/
section
open Go Go.RowKit
def sV (o:Obj):Bool:=KQ o
def H6 (o:Oper):EN→Bool
 | []=>true
 | (d,_,_) :: r=>!AZ d (F2 o.op)&&!AZ d o.dst.toList&&H6 o r
def RH (ns:List Nat) (σ:List (Nat×Obj)):List (Nat×Obj)→Bool
 | []=>true
 | (n,o) :: r=>(lk n σ).isNone&&!AZ n ns&&sV o&&RH ns σ r
def Fi (ns:List Nat) (σ:List (Nat×Obj)):EN→Bool
 | []=>true
 | (_,_,obs) :: r=>RH ns σ obs&&Fi ns σ r
def WY (τ:List (Nat×Obj)):List (Nat×Obj)→Bool
 | []=>true
 | (n,_) :: r=>(lk n τ).isNone&&WY τ r
def MA (τ:List (Nat×Obj)):EN→Bool
 | []=>true
 | (_,_,obs) :: r=>WY τ obs&&MA τ r
def GR (ns:List Nat):EN→EN
 | []=>[]
 | (d,v,obs) :: r=>(d,v.fgt ns,obs) :: GR ns r
def tn (σ:St) (o:Op):List Nat:=Bv σ o++WW (CO (Bv σ o) σ) o
theorem Dx {o:Oper}:∀ {ens:EN},H6 o ens=true→∀e∈ens,e.1∉F2 o.op∧o.dst≠some e.1
 | [],_,e,he=>by cases he
 | (d,v,obs) :: r,h,e,he=>by
  simp only[H6,Bool.and_eq_true,Bool.not_eq_true']at h
  rcases List.mem_cons.1 he with rfl|he
  ·refine⟨fun hm=>(by rw[(Ae _ _).2 hm]at h;cases h.1.1),fun hm=>?_⟩
   have:=h.1.2
   rw[hm]at this
   simp[AZ]at this
  ·exact Dx h.2 e he
theorem Nt {ns:List Nat} {σ:List (Nat×Obj)}:∀ {l:List (Nat×Obj)},RH ns σ l=true→∀p∈l,lk p.1 σ=none∧p.1∉ns∧sV p.2=true
 | [],_,e,he=>by cases he
 | (n,o) :: r,h,p,hp=>by
  simp only[RH,Bool.and_eq_true,Bool.not_eq_true',Option.isNone_iff_eq_none]at h
  rcases List.mem_cons.1 hp with rfl|hp
  ·exact⟨h.1.1.1,fun hm=>(by rw[(Ae _ _).2 hm]at h;cases h.1.1.2),h.1.2⟩
  ·exact Nt h.2 p hp
theorem Ey {ns:List Nat} {σ:List (Nat×Obj)}:∀ {ens:EN},Fi ns σ ens=true→∀e∈ens,∀p∈e.2.2,lk p.1 σ=none∧p.1∉ns∧sV p.2=true
 | [],_,e,he=>by cases he
 | (d,v,obs) :: r,h,e,he=>by
  simp only[Fi,Bool.and_eq_true]at h
  rcases List.mem_cons.1 he with rfl|he
  ·exact Nt h.1
  ·exact Ey h.2 e he
theorem QQ {τ:List (Nat×Obj)}:∀ {l:List (Nat×Obj)},WY τ l=true→∀p∈l,lk p.1 τ=none
 | [],_,e,he=>by cases he
 | (n,o) :: r,h,p,hp=>by
  simp only[WY,Bool.and_eq_true,Option.isNone_iff_eq_none]at h
  rcases List.mem_cons.1 hp with rfl|hp
  ·exact h.1
  ·exact QQ h.2 p hp
theorem JJ {τ:List (Nat×Obj)}:∀ {ens:EN},MA τ ens=true→∀e∈ens,∀p∈e.2.2,lk p.1 τ=none
 | [],_,e,he=>by cases he
 | (d,v,obs) :: r,h,e,he=>by
  simp only[MA,Bool.and_eq_true]at h
  rcases List.mem_cons.1 he with rfl|he
  ·exact QQ h.1
  ·exact JJ h.2 e he
theorem Mb {ns:List Nat}:∀ {ens:EN},GR ns ens=ens→∀e∈ens,e.2.1.fgt ns=e.2.1
 | [],_,e,he=>by cases he
 | (d,v,obs) :: r,h,e,he=>by
  simp only[GR,List.cons.injEq,Prod.mk.injEq,and_true,true_and]at h
  rcases List.mem_cons.1 he with rfl|he
  ·exact h.1
  ·exact Mb h.2 e he
section
variable {c:Cx} {o:Oper} {σ:St} {ens:EN} {N:St→Prop}
theorem YL {X:St} {ns:List Nat} (hin:XIn ens X) (hn:Fi ns σ.objs ens=true) (hf:GR ns ens=ens):Gz X σ ns:=by
 refine⟨fun s v hs=>?_,fun n o ho=>?_,fun n o ho=>?_,fun n o ho=>?_⟩
 ·obtain⟨obs,hm⟩:=hin.env s v hs
  exact Mb hf _ hm
 all_goals
  obtain⟨e,he,hp⟩:=hin.objs n o ho
  have:=Ey hn e he _ hp
 ·exact this.2.2
 ·exact this.1
 ·exact this.2.1
theorem Uo (hc:c.Ok) {τ:St} {vc:Prop} (ns:List Nat) (h:FC c.tb o σ=some (vc,τ)) (hns:tn σ o.op=ns) (hsl:H6 o ens=true) (hn:Fi ns σ.objs ens=true) (hfr:MA τ.objs ens=true) (hf:GR ns ens=ens) (hd:GQ c.nt o=true) (hvc:vc) (hN:N τ):Qy c o σ ens N:=by
 subst hns
 intro X σ' hx hin a w next Q hs hk
 have ha:=YL hin hn hf
 have hXs:∀t∈F2 o.op,lk t X.env=none:=fun t ht=>by
  cases hX:lk t X.env with
  | none=>rfl
  | some v=>obtain⟨obs,hm⟩:=hin.env t v hX;exact absurd ht (Dx hsl _ hm).1
 have hXd:∀t,o.dst=some t→lk t X.env=none:=fun t ht=>by
  cases hX:lk t X.env with
  | none=>rfl
  | some v=>obtain⟨obs,hm⟩:=hin.env t v hX;exact absurd ht (Dx hsl _ hm).2
 have hXt:∀n,(∃u,lk n τ.objs=some u)→lk n X.objs=none:=fun n hu=>by
  cases hX:lk n X.objs with
  | none=>rfl
  | some v =>
   obtain⟨e,he,hp⟩:=hin.objs n v hX
   obtain⟨u,hu⟩:=hu
   rw[JJ hfr e he _ hp]at hu;cases hu
 have htk:=YJ hx ha (op:=o.op) (RG hx hXs)
 obtain⟨hx1,ha1⟩:=SL (l:=Bv σ o.op) hx ha (fun m hm=>by simp[tn,hm])
 have key:∃τ',FC c.tb o σ'=some (vc,τ')∧Lx τ τ' X:=by
  have happ:∀n∈WW (CO (Bv σ o.op) σ) o.op,n∈tn σ o.op:=fun m hm=>by simp[tn,hm]
  unfold FC NF at h ⊢
  rw[htk]
  generalize CO (Bv σ o.op) σ=σ1 at h hx1 ha1 happ
  generalize CO (Bv σ o.op) σ'=σ1' at hx1
  have hop1:=RG hx1 hXs
  cases hq:aq c.tb σ1 (o.dst.getD 0) o.op with
  | some r =>
   obtain⟨vc',v,obs⟩:=r
   rw[hq]at h
   have hq':=RD (hx1.obs ha1) (fun x hx v hv=>by rw[hop1 x hx];exact hv) hq
   rw[hq']
   simp only[Jj]at h ⊢
   split at h
   ·rename_i hfs
    cases h
    have hob:∀n,lk n (σ1.add v obs o.dst).objs=(lk n obs).or (lk n σ1.objs):=fun n=>by cases o.dst<;>simp only[St.add,Ar]
    have hob':∀n,lk n (σ1'.add v obs o.dst).objs=(lk n obs).or (lk n σ1'.objs):=fun n=>by cases o.dst<;>simp only[St.add,Ar]
    have hXo:∀n u,lk n obs=some u→lk n X.objs=none:=fun n u hu=>hXt n ⟨u,by rw[hob,hu];rfl⟩
    have hfr':BT obs σ1'=true:=by
     simp only[BT,List.all_eq_true,Option.isNone_iff_eq_none]at hfs ⊢
     intro p hp
     obtain⟨u,hu⟩:=LU hp
     rw[hx1.objs,hXo _ u hu,hfs p hp];rfl
    rw[if_pos hfr']
    refine⟨_,rfl,fun s=>?_,fun n=>?_⟩
    ·cases hdd:o.dst with
     | none=>simp only[St.add];exact hx1.env s
     | some d =>
      simp only[St.add,lk]
      by_cases hsd:s=d
      ·rw[if_pos hsd,if_pos hsd,hsd,hXd d hdd];rfl
      ·rw[if_neg hsd,if_neg hsd];exact hx1.env s
    ·rw[hob,hob',hx1.objs]
     cases hu:lk n obs with
     | none=>rfl
     | some u=>rw[hXo n u hu];rfl
   ·cases h
  | none =>
   rw[hq]at h
   simp only[Jj]at h
   obtain⟨⟨τ',h1,h2⟩,h3⟩:=oI hx1 ha1 hop1 happ hXd hXt h
   rw[h3]
   simp only[Jj]
   exact⟨τ',h1,h2⟩
 obtain⟨τ',h1,h2⟩:=key
 exact NZ hc hs h1 hvc (Ct hd) fun a' w' hs'=>hk τ hN a' w' τ' h2 hs'
/-! ### A call -/
theorem YM {σ σ':St}:∀ {xs:List Operand},bA σ σ' xs→JF σ' xs=JF σ xs
 | [],_=>rfl
 | x :: r,h=>by
  simp only[JF]
  rw[h x (by simp),YM (fun y hy=>h y (by simp[hy]))]
theorem WZ {σ σ':St} (h:XY σ σ') {ren:List (Nat×B7)} {x y:AV} (hm:F3 σ ren x y):F3 σ' ren x y:=by
 cases y<;>first|exact hm|exact Ea h hm
theorem MB {σ σ':St} (h:XY σ σ') {ren:List (Nat×B7)}:∀ {l r:List AV},BW σ ren l r→BW σ' ren l r
 | [],[],_=>trivial
 | [],_ :: _,hm=>hm.elim
 | _ :: _,[],hm=>hm.elim
 | _ :: _,_ :: _,hm=>⟨WZ h hm.1,MB h hm.2⟩
theorem MC {l l':List (Nat×Obj)} (h:∀n o,lk n l=some o→lk n l'=some o) {ren:List (Nat×B7)}:∀ {r:List (Nat×Obj)},Au l ren r→Au l' ren r
 | [],_=>trivial
 | (m,o) :: r,hm=>by
  refine⟨?_,MC h hm.2⟩
  have h1:=hm.1
  cases hf:lk m ren with
  | none=>rw[hf]at h1;exact h1.elim
  | some f =>
   rw[hf]at h1
   cases f with
   | nil=>exact h1
   | nm n =>
    simp only[Fg]at h1 ⊢
    cases hn:lk n l with
    | none=>rw[hn]at h1;simp only[Gr]at h1
    | some x=>rw[h n x hn,←hn];exact h1
theorem sW (m:Nat) {σ1 τ:St} (hL:Qy c o σ ens (fun τ'=>τ'=τ)) (hn:Fi [m] τ.objs ens=true) (hf:GR [m] ens=ens) (hz:frz m τ=σ1) (hN:N σ1):Qy c o σ ens N:=by
 intro X σ' hx hin a w next Q hs hk
 refine hL X σ' hx hin a w next Q hs ?_
 rintro τ0 rfl a' w' τ' hx' hs'
 refine hk σ1 hN a' w' (frz m τ') ?_ ?_
 ·rw[←hz]
  exact(eX hx' (YL hin hn hf) (by simp)).1
 ·obtain⟨ρ,h⟩:=hs'
  exact⟨ρ,d7 h m⟩
theorem oJ (hc:c.Ok) {dst:Option Nat} {g:Operand} {xs:List Operand} {ts:Array TypeId} {ty:TypeId} {pos:String} {after:Array Edge}
  {f:FuncId} {capn:List Nat} (hg:Cj (Ap σ g)=some (f,capn)) {as:List AV} (has:JF σ xs=some as)
  {A:List AV} {objs:List (Nat×Obj)} {stay:List Nat} {post:AV→List (Nat×Obj)→Prop} (hM:FI c.P f A objs stay post)
  (ren:List (Nat×B7)) (hs:List Nat) (h1:Cu ren=true) (h2:DZ objs ren=true) (hpin:(c.ds.pin.all fun p=>!AZ p.1 hs)=true)
  (hsl:H6 ⟨dst,.call ⟨.value g,xs.toArray,ts⟩,ty,pos,after,none⟩ ens=true) (hn:Fi (Av ren) σ.objs ens=true) (hf:GR hs ens=ens) (hd:GQ c.nt ⟨dst,.call ⟨.value g,xs.toArray,ts⟩,ty,pos,after,none⟩=true)
  (hA:BW σ ren (as++capn.map fun n=>AV.bp n [] 0) A) (hO:Au σ.objs ren objs)
  (hk:∀res objs',post res objs'→∃(ren2:List (Nat×B7)) (res2:AV) (objs2:List (Nat×Obj)),Cu ren2=true∧DZ objs2 ren2=true∧Au objs' ren2 objs2∧CB ren2 res res2 ∧
   Nq ren ren2 stay hs=true∧Hz (Av ren) objs2 σ.objs=true∧MA objs2 ens=true∧N (EO σ (Av ren) hs dst res2 objs2)) :
  Qy c ⟨dst,.call ⟨.value g,xs.toArray,ts⟩,ty,pos,after,none⟩ σ ens N:=by
 intro X σ' hx hin a w next Q hsat hnx
 have henv:∀s v,lk s X.env=some v→v.fgt hs=v:=fun s v hs=>by
  obtain⟨obs,hm⟩:=hin.env s v hs
  exact Mb hf _ hm
 have hobs:XY σ σ':=by
  intro n o hno
  rw[hx.objs]
  cases hX:lk n X.objs with
  | none=>exact hno
  | some o' =>
   obtain⟨e,he,hp⟩:=hin.objs n o' hX
   rw[(Ey hn e he _ hp).1]at hno;cases hno
 have hnh:∀n o,lk n X.objs=some o→n∉Av ren:=fun n o ho=>by
  obtain⟨e,he,hp⟩:=hin.objs n o ho
  exact(Ey hn e he _ hp).2.1
 have hXs:∀t∈(g :: xs).filterMap Nh,lk t X.env=none:=fun t ht=>by
  cases hX:lk t X.env with
  | none=>rfl
  | some v =>
   obtain⟨obs,hm⟩:=hin.env t v hX
   refine absurd ?_ (Dx hsl _ hm).1
   simpa[F2,Op.operands,Call.operands] using ht
 have hXd:∀t,dst=some t→lk t X.env=none:=fun t ht=>by
  cases hX:lk t X.env with
  | none=>rfl
  | some v=>obtain⟨obs,hm⟩:=hin.env t v hX;exact absurd ht (Dx hsl _ hm).2
 have hops:=RG hx hXs
 refine WS hc (xs:=xs) (ts:=ts) rfl rfl (by rw[hops g (by simp)];exact hg) (by rw[YM (fun y hy=>hops y (by simp[hy]))];exact has) hM ren h1 h2 (MB hobs hA) (MC hobs hO) hs hpin hsat (Ct hd) fun res objs' hp=>?_
 obtain⟨ren2,res2,objs2,g1,g2,g3,g4,g5,g6,g7,g8⟩:=hk res objs' hp
 have hX2:∀n o,lk n X.objs=some o→lk n objs2=none:=fun n o ho=>by
  obtain⟨e,he,hp⟩:=hin.objs n o ho
  exact JJ g7 e he _ hp
 refine⟨ren2,res2,objs2,g1,g2,g3,g4,g5,?_,fun a' w' hs'=>hnx _ g8 a' w' _ ⟨fun s=>?_,fun n=>?_⟩ hs'⟩
 ·simp only[Hz,List.all_eq_true,Bool.or_eq_true,Option.isNone_iff_eq_none]at g6 ⊢
  intro p hp
  rcases g6 p hp with h|h
  ·exact .inl h
  ·right
   rw[hx.objs,h]
   cases hX:lk p.1 X.objs with
   | none=>rfl
   | some u =>
    obtain⟨u',hu'⟩:=LU hp
    rw[hX2 _ u hX]at hu';cases hu'
 ·have hfe:lk s (Co hs σ'.env)=(lk s X.env).or (lk s (Co hs σ.env)):=by
   rw[Et,Et,hx.env]
   cases hX:lk s X.env with
   | none=>rfl
   | some v=>simp[henv s v hX]
  simp only[EO]
  cases dst with
  | none=>exact hfe
  | some d =>
   simp only[JG,lk]
   by_cases hsd:s=d
   ·rw[if_pos hsd,if_pos hsd,hsd,hXd d rfl];rfl
   ·rw[if_neg hsd,if_neg hsd];exact hfe
 ·simp only[EO,Ar,Cg,hx.objs]
  cases hX:lk n X.objs with
  | none=>simp
  | some u =>
   have h4:KQ u=true:=by
    obtain⟨e,he,hp⟩:=hin.objs n u hX
    exact(Ey hn e he _ hp).2.2
   have h3:¬AZ n (Av ren)=true:=fun h=>hnh n _ hX ((Ae _ _).1 h)
   rw[hX2 n _ hX,if_neg h3]
   exact congrArg some (Um h4)
end
section
variable {c:Cx} {ops:List Oper} {Kf:St→Prop} {τ:St} {ens:EN} {vc:Prop}
theorem sY {D:List Nat} (h:aX c.tb ops τ.objs D [] τ.env=some (vc,ens)) (hvc:vc) (hfr:O3 ens τ.objs=true) (hk:Kf (KO ens τ)):sL c ops Kf [] D ens τ:=⟨⟨vc,h,hvc,hfr⟩,hk⟩
theorem sZ {A D:List Nat} {l:Nat} {ps:List (List Nat×Nat)} {o:Oper} {σ1:St} {ens1:EN} (h:aX c.tb ops τ.objs (A++qs ps D) [] τ.env=some (vc,ens)) (hvc:vc) (hfr:O3 ens τ.objs=true) (ho:ops[l]?=some o) (hσ:KO (ens.take A.length) τ=σ1) (he:ens.drop A.length=ens1)
  (hL:Qy c o σ1 ens1 (fun τ'=>sL c ops Kf ps D ens1 τ')):sL c ops Kf ((A,l) :: ps) D ens τ:=by
 subst hσ he
 exact⟨⟨vc,h,hvc,hfr⟩,o,ho,hL⟩
end
end
/- The equations that simp makes of the definitions, once for all. -/
section
open Go
attribute [local go_sem] Xz AN List.toList_toArray Bd evG evK T7 D8 I2 F1 FG FC NF Jj Bv Cq LA B4 CO frz Z3 Fx Cp A3 E6 Bb AV.frz AV.frzs AV.drp AV.drps AV.names AV.namess aq Fz Ji Iu Qs Hq BN BP IK EL HY EM Ha HZ Hb Ri M9 GD Iv E8 Dl Rj Oi qS IL Hc J2 Eh Ds Qt CA Dt ET Oj Ol J3 Ht Iw Cd CU Er DL Gm DJ EU DK Du FA B4 CM Qr Oh MO Ft Hs Hr J1 L3 NC J5 J8 J6 Iz Px J7 I0 Vy NE ND AV.trn AV.trns Dg B9 Obj.trn Ia YK Cf Cy Ce Dv CN EV Ap lk GW Fy Gj w9 Z2 UA Z5 Pw nL nM xC AV.cells Bo II M8 Iy NB B2 L1 Ty.cell1 HX EK DI FX MN Eg It J0 Pt Fv GC Lv Qq Rh Jy Ir Vu Xc Pu L2 CY IJ RV.flat Ty.flat Ty.size St.add upd T6 BT Value.oneCell' Jv Ty.dflt HW Nc Gt Np List.take_succ_cons List.take_zero List.length_cons X8 X9 Nn IX KN Gg IY rW FH LM LN LO LP Oy Oz LQ Hh Rz Option.map_some Option.map_none Option.bind_some Option.getD_some Option.getD_none Option.isNone_none Option.isNone_some Bool.and_true Bool.true_and Bool.and_false Bool.false_and Bool.not_true Bool.not_false if_true if_false List.length_cons List.length_nil and_true true_and and_self List.all_cons List.all_nil List.append_nil List.nil_append List.cons_append List.getElem?_cons_zero List.getElem?_cons_succ List.getElem?_nil List.map_cons List.map_nil List.set_cons_zero List.set_cons_succ List.isEmpty_nil List.isEmpty_cons decide_true decide_false beq_self_eq_true bne_self_eq_false Nat.zero_add Nat.add_zero Nat.sub_zero Int.toNat_natCast Int.toNat_zero Int.toNat_one List.take_length List.length_append List.length_singleton true_or or_true or_self false_or or_false Ty.agg.injEq Ty.slice.injEq Ty.prod.injEq Ty.int.injEq Option.some.injEq beq_iff_eq KL evMG evMQ r7 Gv KJ Bh IW F2 Nh IU Gu Hi JA Jn MX L8 MY Qw KK Nj Nk IV AZ Af Op.operands Call.operands List.filterMap_cons List.filterMap_nil List.append_eq Bool.cond_false_right Bool.cond_true_left cond_true cond_false implies_true decide_eq_true_eq beq_true beq_false Bool.or_true Bool.or_false Bool.true_or Bool.false_or Option.isSome_some E7 LB EW Gk Vx NA E9 Fd Fc Hd Gl Ix J4 UB Z4 UN inB I1 FB Fu IM Ca YB List.drop_zero DP Gx WT EO JG Co AV.fgt AV.fgts Obj.fgt BD Av AZ Cj JF BW F3 List.any_cons List.any_nil aX YE WU YF KO O3 qs List.flatMap_cons List.flatMap_nil List.cons_append tn WW GR List.take_succ_cons List.drop_succ_cons Cu DZ Au FF I9 CB EZ Dm Hy Hg Fg Gr
end
end Go.Proofs.YtebfihindnhccaaGreat.Fw
