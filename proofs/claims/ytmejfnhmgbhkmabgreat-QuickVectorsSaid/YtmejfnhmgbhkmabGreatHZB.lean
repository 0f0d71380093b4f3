/- The executor's quiet operations are sound, first part. -/
/- Parts of a pure value, and a part set anew. -/
import Derived.Test.YtmejfnhmgbhkmabGreatHZA
import Derived.Laws.IdiomStrings
set_option linter.unusedVariables false
set_option linter.unusedSimpArgs false
namespace Go.Proofs.YtmejfnhmgbhkmabGreat.Fw
section
open Go Go.RowKit
theorem KF {w:World} {O:Nat→Prop}:∀ {t:Ty} {k:Nat} {d:t.den} {pv:PV} {cs:List Value},Fa t k d=some pv→Bj w O t cs d →
  WR t k=some pv.t∧∃o,H4 t k=some o∧o+pv.t.size≤t.size∧Bj w O pv.t ((cs.drop o).take pv.t.size) pv.d
 | .prod a b,0,d,pv,cs,h,hr=>by
  simp only[Fa]at h
  cases h
  obtain⟨c1,c2,rfl,h1,h2⟩:=hr
  refine⟨rfl,0,rfl,by simp[Ty.size],?_⟩
  have hl:=h1.length
  simp only[List.drop_zero,←hl,List.take_left]
  exact h1
 | .prod a b,k+1,d,pv,cs,h,hr=>by
  simp only[Fa]at h
  obtain⟨c1,c2,rfl,h1,h2⟩:=hr
  obtain⟨h3,o,h4,h5,h6⟩:=KF h h2
  refine⟨h3,a.size+o,by simp[H4,h4],by simp[Ty.size];omega,?_⟩
  have hl:=h1.length
  rw[←hl,←List.drop_drop,List.drop_left]
  exact h6
 | .int _,0,d,pv,cs,h,hr=>by
  simp only[Fa]at h;cases h
  refine⟨rfl,0,rfl,by simp,?_⟩
  have hl:=hr.length
  simp only[List.drop_zero,←hl,List.take_length]
  exact hr
 | .bool,0,d,pv,cs,h,hr=>by
  simp only[Fa]at h;cases h
  refine⟨rfl,0,rfl,by simp,?_⟩
  have hl:=hr.length
  simp only[List.drop_zero,←hl,List.take_length]
  exact hr
 | .str,0,d,pv,cs,h,hr=>by
  simp only[Fa]at h;cases h
  refine⟨rfl,0,rfl,by simp,?_⟩
  have hl:=hr.length
  simp only[List.drop_zero,←hl,List.take_length]
  exact hr
 | .slice _,0,d,pv,cs,h,hr=>by
  simp only[Fa]at h;cases h
  refine⟨rfl,0,rfl,by simp,?_⟩
  have hl:=hr.length
  simp only[List.drop_zero,←hl,List.take_length]
  exact hr
 | .ref _,0,d,pv,cs,h,hr=>by
  simp only[Fa]at h;cases h
  refine⟨rfl,0,rfl,by simp,?_⟩
  have hl:=hr.length
  simp only[List.drop_zero,←hl,List.take_length]
  exact hr
 | .ref _,_+1,d,pv,cs,h,hr=>by simp[Fa]at h
 | .agg _,0,d,pv,cs,h,hr=>by
  simp only[Fa]at h;cases h
  refine⟨rfl,0,rfl,by simp,?_⟩
  have hl:=hr.length
  simp only[List.drop_zero,←hl,List.take_length]
  exact hr
 | .int _,_+1,d,pv,cs,h,hr=>by simp[Fa]at h
 | .bool,_+1,d,pv,cs,h,hr=>by simp[Fa]at h
 | .str,_+1,d,pv,cs,h,hr=>by simp[Fa]at h
 | .slice _,_+1,d,pv,cs,h,hr=>by simp[Fa]at h
 | .agg _,_+1,d,pv,cs,h,hr=>by simp[Fa]at h
theorem eY {α:Type} (cs:List α) (o m o' n:Nat) (h:o'+n≤m):(((cs.drop o).take m).drop o').take n=(cs.drop (o+o')).take n:=by
 rw[List.drop_take,List.take_take,List.drop_drop]
 congr 1
 omega
theorem Rr {w:World} {O:Nat→Prop}:∀ {path:List Nat} {t:Ty} {d:t.den} {pv:PV} {cs:List Value} {off:Nat},Qv path t d=some pv→Jz path t=some off→Bj w O t cs d →
  off+pv.t.size≤t.size∧Bj w O pv.t ((cs.drop off).take pv.t.size) pv.d
 | [],t,d,pv,cs,off,h,ho,hr=>by
  simp only[Qv]at h;simp only[Jz]at ho
  cases h;cases ho
  have hl:=hr.length
  simp only[List.drop_zero,←hl,List.take_length]
  exact⟨by simp[hl],hr⟩
 | k :: r,t,d,pv,cs,off,h,ho,hr=>by
  cases t<;>simp only[Qv,Jz]at h ho<;>try(cases h;done)
  rename_i t
  split at h
  ·rename_i p hp
   have hr:Bj w O t cs d:=hr
   obtain⟨h1,o,h2,h3,h4⟩:=KF hp hr
   rw[h1,h2]at ho
   simp only[Option.map_eq_some_iff]at ho
   obtain⟨o',ho',rfl⟩:=ho
   obtain⟨h5,h6⟩:=Rr h ho' h4
   refine⟨by simp only[Ty.size];omega,?_⟩
   rw[eY _ _ _ _ _ h5]at h6
   exact h6
  ·cases h
def Au {α:Type} (cs:List α) (o:Nat) (es:List α):List α:=cs.take o++es++cs.drop (o+es.length)
theorem Eb {α:Type} {cs:List α} {o:Nat} {es:List α} (h:o+es.length≤cs.length):(Au cs o es).length=cs.length:=by
 simp[Au];omega
theorem DH {α:Type} {cs es:List α} (h:es.length=cs.length):Au cs 0 es=es:=by
 simp[Au,h]
theorem NN {α:Type} (a b:List α) (o:Nat) (es:List α):Au (a++b) (a.length+o) es=a++Au b o es:=by
 simp only[Au,List.take_append,List.drop_append,List.append_assoc]
 have h1:List.take (a.length+o) a=a:=List.take_of_length_le (by omega)
 have h2:List.drop (a.length+o+es.length) a=[]:=List.drop_eq_nil_of_le (by omega)
 have h3:a.length+o-a.length=o:=by omega
 have h4:a.length+o+es.length-a.length=o+es.length:=by omega
 rw[h1,h2,h3,h4]
 simp
theorem QF {α:Type} (a b:List α) (es:List α) (h:es.length=a.length):Au (a++b) 0 es=es++b:=by
 simp[Au,h]
theorem X4 {w:World} {O:Nat→Prop}:∀ {t:Ty} {k:Nat} {d d':t.den} {pv:PV} {cs es:List Value} {o:Nat},Lo t k d pv=some d'→H4 t k=some o→Bj w O t cs d→Bj w O pv.t es pv.d →
  Bj w O t (Au cs o es) d'∧WR t k=some pv.t
 | .prod a b,0,d,d',pv,cs,es,o,h,ho,hr,he=>by
  simp only[Lo,Option.map_eq_some_iff]at h
  obtain⟨y,hy,rfl⟩:=h
  have:=A2 hy
  subst this
  simp only[H4]at ho
  cases ho
  obtain⟨c1,c2,rfl,h1,h2⟩:=hr
  rw[QF _ _ _ (by rw[he.length,h1.length])]
  exact⟨⟨es,c2,rfl,he,h2⟩,rfl⟩
 | .prod a b,k+1,d,d',pv,cs,es,o,h,ho,hr,he=>by
  simp only[Lo,Option.map_eq_some_iff]at h
  obtain⟨y,hy,rfl⟩:=h
  simp only[H4,Option.map_eq_some_iff]at ho
  obtain⟨o',ho',rfl⟩:=ho
  obtain⟨c1,c2,rfl,h1,h2⟩:=hr
  obtain⟨h3,h4⟩:=X4 hy ho' h2 he
  rw[←h1.length,NN]
  exact⟨⟨c1,_,rfl,h1,h3⟩,h4⟩
 | .int _,0,d,d',pv,cs,es,o,h,ho,hr,he=>by
  have:=A2 h;subst this
  simp only[H4]at ho;cases ho
  rw[DH (by rw[he.length,hr.length])]
  exact⟨he,rfl⟩
 | .bool,0,d,d',pv,cs,es,o,h,ho,hr,he=>by
  have:=A2 h;subst this
  simp only[H4]at ho;cases ho
  rw[DH (by rw[he.length,hr.length])]
  exact⟨he,rfl⟩
 | .str,0,d,d',pv,cs,es,o,h,ho,hr,he=>by
  have:=A2 h;subst this
  simp only[H4]at ho;cases ho
  rw[DH (by rw[he.length,hr.length])]
  exact⟨he,rfl⟩
 | .slice _,0,d,d',pv,cs,es,o,h,ho,hr,he=>by
  have:=A2 h;subst this
  simp only[H4]at ho;cases ho
  rw[DH (by rw[he.length,hr.length])]
  exact⟨he,rfl⟩
 | .ref _,0,d,d',pv,cs,es,o,h,ho,hr,he=>by
  have:=A2 h;subst this
  simp only[H4]at ho;cases ho
  rw[DH (by rw[he.length,hr.length])]
  exact⟨he,rfl⟩
 | .ref _,_+1,d,d',pv,cs,es,o,h,ho,hr,he=>by simp[Lo]at h
 | .agg _,0,d,d',pv,cs,es,o,h,ho,hr,he=>by
  have:=A2 h;subst this
  simp only[H4]at ho;cases ho
  rw[DH (by rw[he.length,hr.length])]
  exact⟨he,rfl⟩
 | .int _,_+1,d,d',pv,cs,es,o,h,ho,hr,he=>by simp[Lo]at h
 | .bool,_+1,d,d',pv,cs,es,o,h,ho,hr,he=>by simp[Lo]at h
 | .str,_+1,d,d',pv,cs,es,o,h,ho,hr,he=>by simp[Lo]at h
 | .slice _,_+1,d,d',pv,cs,es,o,h,ho,hr,he=>by simp[Lo]at h
 | .agg _,_+1,d,d',pv,cs,es,o,h,ho,hr,he=>by simp[Lo]at h
theorem Lx {α:Type} (cs:List α) (o m o':Nat) (es:List α) (h:o'+es.length≤m) (h2:o+m≤cs.length) :
  Au cs o (Au ((cs.drop o).take m) o' es)=Au cs (o+o') es:=by
 apply List.ext_getElem?
 intro j
 have hl:(Au ((cs.drop o).take m) o' es).length=m:=by rw[Eb]<;>simp<;>omega
 simp only[Au]at hl ⊢
 rw[hl]
 simp only[List.getElem?_append,List.length_append,List.length_take,List.length_drop,List.getElem?_take,List.getElem?_drop]
 have e1:min o cs.length=o:=by omega
 have e2:min m (cs.length-o)=m:=by omega
 have e3:min o' m=o':=by omega
 have e4:min (o+o') cs.length=o+o':=by omega
 rw[e1,e2,e3,e4]
 by_cases c1:j<o
 ·have:j<o+(o'+es.length+(m-(o'+es.length))):=by omega
  simp[c1,this,show j<o+o' by omega,show j<o+o'+es.length by omega]
 ·by_cases c2:j<o+o'
  ·simp[c1,c2,show j-o<o' by omega,show j-o<m by omega,show j<o+(o'+es.length+(m-(o'+es.length))) by omega,show j<o+o'+es.length by omega,show j-o<o'+es.length by omega,show o+(j-o)=j by omega]
  ·by_cases c3:j<o+o'+es.length
   ·simp[c1,c2,c3,show ¬j-o<o' by omega,show j<o+(o'+es.length+(m-(o'+es.length))) by omega,show j-o<o'+es.length by omega,show j-o-o'=j-(o+o') by omega]
   ·by_cases c4:j<o+m
    ·simp[c1,c2,c3,show ¬j-o<o' by omega,show ¬j-o<o'+es.length by omega,show j<o+(o'+es.length+(m-(o'+es.length))) by omega,show o'+es.length+(j-o-(o'+es.length))<m by omega]
     congr 1
     omega
    ·simp[c1,c2,c3,show ¬j<o+(o'+es.length+(m-(o'+es.length))) by omega]
     congr 1
     omega
theorem Rs {w:World} {O:Nat→Prop}:∀ {path:List Nat} {t:Ty} {d d':t.den} {pv:PV} {cs es:List Value} {off:Nat},Rk path t d pv=some d'→Jz path t=some off→Bj w O t cs d→Bj w O pv.t es pv.d →
  Bj w O t (Au cs off es) d'∧off+es.length≤cs.length
 | [],t,d,d',pv,cs,es,off,h,ho,hr,he=>by
  have:=A2 h
  subst this
  simp only[Jz]at ho;cases ho
  rw[DH (by rw[he.length,hr.length])]
  exact⟨he,by simp[he.length,hr.length]⟩
 | k :: r,t,d,d',pv,cs,es,off,h,ho,hr,he=>by
  cases t<;>simp only[Rk,Jz]at h ho<;>try(cases h;done)
  rename_i t
  have hr:Bj w O t cs d:=hr
  split at h
  ·rename_i p hp
   obtain⟨h1,o,h2,h3,h4⟩:=KF hp hr
   rw[h1,h2]at ho
   simp only[Option.map_eq_some_iff]at ho
   obtain⟨o',ho',rfl⟩:=ho
   split at h
   ·rename_i y hy
    obtain⟨h5,h6⟩:=Rs hy ho' h4 he
    have hcl:=hr.length
    have hl:((cs.drop o).take p.t.size).length=p.t.size:=by simp;omega
    rw[hl]at h6
    obtain⟨h7,_⟩:=X4 (pv:=⟨p.t,y⟩) h h2 hr h5
    rw[Lx _ _ _ _ _ h6 (by omega)]at h7
    exact⟨h7,by omega⟩
   ·cases h
  ·cases h
end
/- Loads. -/
section
open Go Go.RowKit
section
variable {V:Vw}
theorem Lv.length {x:AV} {cs:List Value} (h:Lv V x cs):cs.length=x.cells:=by
 cases x
 case p t d=>exact Bj.length (show Bj V.w V.O t cs d from h)
 case ag l=>obtain⟨v,_,_,hf⟩:=h;exact hf.elim
 case tup l=>obtain⟨v,_,_,hf⟩:=h;exact hf.elim
 all_goals(obtain⟨v,rfl,_⟩:=h;rfl)
theorem Lv.one {x:AV} {cs:List Value} (h:Lv V x cs):∀u∈cs,u.oneCell'=true:=by
 cases x
 case p t d=>exact Bj.one (show Bj V.w V.O t cs d from h)
 all_goals(obtain⟨v,rfl,h1,_⟩:=h;intro u hu;simp at hu;subst hu;exact h1)
theorem Cy.one:∀ {l:List AV} {cs:List Value},Cy V l cs→∀u∈cs,u.oneCell'=true
 | [],cs,h=>by have h:cs=[]:=h;subst h;simp
 | x :: r,cs,h=>by
  obtain⟨c1,c2,rfl,h1,h2⟩:=h
  intro u hu
  rcases List.mem_append.1 hu with hu|hu
  ·exact h1.one u hu
  ·exact h2.one u hu
theorem Cy.length:∀ {l:List AV} {cs:List Value},Cy V l cs→cs.length=Bz l l.length
 | [],cs,h=>by have h:cs=[]:=h;subst h;rfl
 | x :: r,cs,h=>by
  obtain⟨c1,c2,rfl,h1,h2⟩:=h
  simp only[List.length_append,List.length_cons,Bz]
  rw[h1.length,h2.length]
theorem Cy.get:∀ {l:List AV} {cs:List Value} {k:Nat} {x:AV},Cy V l cs→l[k]?=some x →
  Bz l k+x.cells≤cs.length∧Lv V x ((cs.drop (Bz l k)).take x.cells)
 | [],cs,k,x,h,hk=>by simp at hk
 | y :: r,cs,0,x,h,hk=>by
  obtain⟨c1,c2,rfl,h1,h2⟩:=h
  simp at hk
  subst hk
  have:=h1.length
  simp only[Bz,List.drop_zero,←this,List.take_left]
  exact⟨by simp,h1⟩
 | y :: r,cs,k+1,x,h,hk=>by
  obtain⟨c1,c2,rfl,h1,h2⟩:=h
  have hk:r[k]?=some x:=by simpa using hk
  obtain⟨h3,h4⟩:=Cy.get h2 hk
  have:=h1.length
  refine⟨by simp only[Bz,List.length_append];omega,?_⟩
  simp only[Bz,←this]
  rw[←List.drop_drop,List.drop_left]
  exact h4
theorem Cy.set:∀ {l:List AV} {cs:List Value} {k:Nat} {x y:AV} {es:List Value},Cy V l cs→l[k]?=some x→Lv V y es→y.cells=x.cells →
  Cy V (l.set k y) (Au cs (Bz l k) es)
 | [],cs,k,x,y,es,h,hk,hy,he=>by simp at hk
 | z :: r,cs,0,x,y,es,h,hk,hy,he=>by
  obtain⟨c1,c2,rfl,h1,h2⟩:=h
  simp at hk
  subst hk
  simp only[Bz,List.set_cons_zero]
  rw[QF _ _ _ (by rw[hy.length,h1.length,he])]
  exact⟨es,c2,rfl,hy,h2⟩
 | z :: r,cs,k+1,x,y,es,h,hk,hy,he=>by
  obtain⟨c1,c2,rfl,h1,h2⟩:=h
  have hk:r[k]?=some x:=by simpa using hk
  have:=h1.length
  simp only[Bz,List.set_cons_succ,←this]
  rw[NN]
  exact⟨c1,_,rfl,h1,Cy.set h2 hk hy he⟩
theorem aY {ty:Ty} {x:AV} {es:List Value} (hx:Lv V x es) (hf:B7 ty x=true):es.length=ty.size∧Br V x (ty.wrap es):=by
 cases x
 case p t d =>
  simp only[B7,decide_eq_true_eq]at hf
  subst hf
  have hx:Bj V.w V.O ty es d:=hx
  exact⟨Bj.length hx,es,hx,rfl⟩
 case ag l=>obtain⟨v,_,_,hf⟩:=hx;exact hf.elim
 case tup l=>obtain⟨v,_,_,hf⟩:=hx;exact hf.elim
 all_goals
  obtain⟨v,rfl,_,h1⟩:=hx
  have h2:ty.cell1=true:=by simp only[B7]at hf;first|exact hf|(simp only[Bool.and_eq_true]at hf;exact hf.2)|exact absurd hf (by decide)
  cases ty<;>first|(cases h2;done)|exact⟨rfl,h1⟩
theorem qN {ty:Ty} {x:AV} {v:Value} (hx:Br V x v) (hf:B7 ty x=true) (hone:ty.cell1=true→v.oneCell'=true):v.cells.size=ty.size∧((∀l,x≠.ag l)→Lv V x v.cells.toList):=by
 cases x
 case p t d =>
  simp only[B7,decide_eq_true_eq]at hf
  subst hf
  obtain⟨cs,hr,rfl⟩:=hx
  have hl:=hr.length
  cases ty
  case agg t=>exact⟨by simpa[Ty.wrap,Value.cells] using hl,fun _=>by simpa[Ty.wrap,Value.cells,Lv] using hr⟩
  case prod a b=>exact⟨by simpa[Ty.wrap,Value.cells] using hl,fun _=>by simpa[Ty.wrap,Value.cells,Lv] using hr⟩
  case slice e =>
   obtain⟨a,c,rfl,h⟩:=hr
   exact⟨rfl,fun _=>⟨a,c,rfl,h⟩⟩
  case int k =>
   obtain⟨rfl,h⟩:=hr
   exact⟨rfl,fun _=>⟨rfl,h⟩⟩
  case bool =>
   have hr:cs=_:=hr
   subst hr
   exact⟨rfl,fun _=>rfl⟩
  case str =>
   obtain⟨rfl,h⟩:=hr
   exact⟨rfl,fun _=>⟨rfl,h⟩⟩
  case ref k =>
   have hr:cs=[Jv k]:=hr
   subst hr
   have hw:(Ty.ref k).wrap [Jv k]=Jv k:=rfl
   rw[hw]
   match k with
   | 0=>exact⟨rfl,fun _=>rfl⟩
   | 1=>exact⟨rfl,fun _=>rfl⟩
   | _+2=>exact⟨rfl,fun _=>rfl⟩
 case ag l =>
  obtain⟨cs,rfl,hcs⟩:=hx
  have hl:=hcs.length
  cases ty<;>simp only[B7]at hf<;>try(cases hf;done)
  rename_i t
  simp only[beq_iff_eq]at hf
  exact⟨by simp[Value.cells,Ty.size,hl,hf],fun h=>absurd rfl (h l)⟩
 case tup l=>simp[B7]at hf
 all_goals
  have h1:ty.cell1=true:=by simp only[B7]at hf;first|exact hf|(simp only[Bool.and_eq_true]at hf;exact hf.2)|exact absurd hf (by decide)
  have ho:v.oneCell'=true:=hone h1
  have hc:v.cells=#[v]:=by cases v<;>first|rfl|simp[Value.oneCell']at ho
  have hs:ty.size=1:=by cases ty<;>simp[Ty.cell1]at h1<;>rfl
  rw[hc]
  exact⟨by simp[hs],fun _=>⟨v,rfl,ho,hx⟩⟩
end
end
/- Operations that only look: each is as the executor says. -/
section
open Go Go.RowKit
section
variable {P:Program} {tb:Tb} {id:TypeId} {ti:TI} {w:World} {O0:Nat→Prop} {σ:St} {ρ:Nat→Value} {vc:Prop} {v:AV} {obs:List (Nat×Obj)}
theorem Ub {w:World} {base:Nat} {et:TypeId} {size:Nat} {g m c n:Nat} {cells:List Value} (h:w.ownsRow base et size (.slice (some ⟨g,0,none⟩) m c) n cells) :
  m=n∧∀(j:Nat) (u:Value),cells[j]?=some u→w.cell? ⟨g,j,none⟩=some u:=by
 constructor
 ·rcases h.2 with ⟨he,_⟩|⟨g',cap,cur,he,_⟩
  ·injection he with h1;cases h1
  ·injection he
 ·intro j u hj
  have:=h.cells (g:=g) rfl j u hj
  rwa [Xz]at this
theorem qO (hT:Dh P tb id ti) (hobj:∀n o,lk n σ.objs=some o→Av (vw w O0 σ ρ) o (ρ n)) {x:AV} {xv:Value}
  (h:IV σ (some ti) (some x)=some (vc,v,obs)) (hx:Br (vw w O0 σ ρ) x xv):obs=[]∧∃u,(Instr.loadAt id xv).run P w=.ok u w∧Br (vw w O0 σ ρ) v u:=by
 unfold IV at h
 split at h
 ·rename_i n path off he1 he2
  cases he1;cases he2
  obtain⟨hL,b,hρ,rfl⟩:=hx
  cases hn:lk n σ.objs with
  | none=>rw[hn]at h;simp[Dr]at h
  | some o =>
   rw[hn]at h
   cases o with
   | arr et e xs=>simp[Dr]at h
   | mapo k v l=>simp[Dr]at h
   | frame tm fs=>simp[Dr]at h
   | loop L=>simp[Dr]at h
   | itr ik iv il ilf icu=>simp[Dr]at h
   | dfr=>simp[Dr]at h
   | nest et iet k e xs hl=>simp[Dr]at h
   | box et st fs =>
    simp only[Dr]at h
    cases hl:IT st fs path with
    | none=>rw[hl]at h;simp[Hd]at h
    | some y =>
     rw[hl]at h
     simp only[Hd]at h
     split at h
     ·rename_i hc
      obtain⟨hfit,hoff⟩:=hc
      cases h
      obtain⟨hst,b',cs,hloc,hheap,hcs⟩:=hobj n _ hn
      have hρ:ρ n=_:=hρ
      rw[hρ]at hloc
      injection hloc with hloc
      injection hloc with hloc
      injection hloc with hloc
      subst hloc
      have hcell:∀(es:List Value) (o:Nat),es=(cs.drop o).take es.length→∀(j:Nat) (u:Value),es[j]?=some u→w.cell? ((⟨b,o,none⟩:Addr).add j)=some u:=by
       intro es o hes j u hj
       rw[IR,cell_of_row w b (o+j) cs.toArray et (0,0) hheap]
       rw[hes,List.getElem?_take,List.getElem?_drop]at hj
       split at hj
       ·simpa using hj
       ·cases hj
      refine⟨rfl,?_⟩
      unfold IT at hl
      split at hl
      · -- the whole
       simp only[NF]at hoff
       cases hoff
       cases st with
       | true =>
        simp only[if_true]at hl
        cases hl
        have hl2:=hcs.length
        cases hty:ti.ty<;>rw[hty]at hfit<;>simp only[B7]at hfit<;>try(cases hfit;done)
        rename_i t
        simp only[beq_iff_eq]at hfit
        have hsz:cs.length=ti.ty.size:=by rw[hty];simp only[Ty.size];omega
        have:=Dz w hT hsz (hcell cs 0 (by simp))
        refine⟨_,this,cs,?_,hcs⟩
        rw[hty]
        rfl
       | false =>
        simp only[Bool.false_eq_true,if_false]at hl
        have hz:Bz fs 0=0:=by cases fs<;>rfl
        obtain⟨h1,h2⟩:=hcs.get hl
        rw[hz]at h2
        obtain⟨h3,h4⟩:=aY h2 hfit
        have:=Dz w hT h3 (hcell _ 0 (by rw[h2.length]))
        exact⟨_,this,h4⟩
      · -- a field
       rename_i k
       cases st with
       | false=>simp at hl
       | true =>
        simp only[if_true]at hl
        obtain⟨h1,h2⟩:=hcs.get hl
        obtain⟨h3,h4⟩:=aY h2 hfit
        have hoff':off=Bz fs k:=by
         simp only[NF,hl]at hoff
         cases v<;>simp only[Jz,Option.map_some,List.isEmpty_nil,if_true]at hoff<;>cases hoff<;>rfl
        subst hoff'
        have:=Dz w hT h3 (hcell _ (Bz fs k) (by rw[h2.length]))
        exact⟨_,this,h4⟩
      ·rename_i k r hr
       cases st with
       | false=>simp at hl
       | true =>
        simp only[if_true]at hl
        split at hl
        ·rename_i t d hk
         simp only[Option.map_eq_some_iff]at hl
         obtain⟨pv,hpv,rfl⟩:=hl
         simp only[NF,hk,Option.map_eq_some_iff]at hoff
         obtain⟨o',ho',rfl⟩:=hoff
         obtain⟨h1,h2⟩:=hcs.get hk
         have h2:Bj w (own O0 σ ρ) t _ d:=h2
         obtain⟨h5,h6⟩:=Rr hpv ho' h2
         simp only[AV.cells]at h1 h6
         rw[eY _ _ _ _ _ h5]at h6
         simp only[B7,decide_eq_true_eq]at hfit
         have hl6:=h6.length
         have:=Dz w hT (by rw[hfit];exact hl6) (hcell _ (Bz fs k+o') (by rw[hl6]))
         rw[hfit]at this
         exact⟨_,this,_,h6,rfl⟩
        ·cases hl
     ·cases h
 ·rename_i n e i path off he1 he2
  cases he1;cases he2
  obtain⟨hL,g,m,c,hρ,hlt,rfl⟩:=hx
  cases hn:lk n σ.objs with
  | none=>rw[hn]at h;simp[Ds]at h
  | some o =>
   rw[hn]at h
   cases o with
   | box et st fs=>simp[Ds]at h
   | mapo k v l=>simp[Ds]at h
   | frame tm fs=>simp[Ds]at h
   | loop L=>simp[Ds]at h
   | itr ik iv il ilf icu=>simp[Ds]at h
   | dfr=>simp[Ds]at h
   | nest et iet k e' xs hl =>
    cases hl with
    | some j=>simp[Ds]at h
    | none =>
     simp only[Ds]at h
     split at h
     ·rename_i hee
      subst hee
      obtain⟨o,ins,cells,hloc,hN⟩:=hobj n _ hn
      have hρ:plc (ρ n)=_:=hρ
      have ho:plc (ρ n)=o:=hloc.plc
      have how:=hN.own
      rw[←ho,hρ]at how
      obtain⟨rfl,hcell⟩:=Ub how
      have hxi:xs[i]?=some (xs.getD i (k.dflt,[])):=by
       rw[List.getElem?_eq_getElem hlt,List.getD_eq_getElem?_getD,List.getElem?_eq_getElem hlt];rfl
      have hli:i<ins.length:=by rw[hN.len];exact hlt
      obtain⟨c1,v1,hc1,hr1,h3⟩:=hN.row i _ ins[i] hxi (List.getElem?_eq_getElem hli)
      rcases h3 with ⟨h3,_⟩|⟨_,hv1,h4⟩
      ·cases h3
      ·subst hv1
       have hl1:c1.length=k.size:=hr1.length
       unfold MO at h
       split at h
       ·split at h
        ·rename_i hcc
         obtain⟨hty,rfl⟩:=hcc
         cases h
         have:=Dz (ad:=⟨g,i*(Ty.agg (.prod k (.slice e'))).size+0,none⟩) w hT (by rw[hty];exact hl1) (fun j u hj=>by
          rw[IR]
          refine hcell _ _ (hc1 j u ?_)
          rw[List.getElem?_append_left (List.getElem?_eq_some_iff.1 hj).1]
          exact hj)
         rw[hty]at this
         exact⟨rfl,_,this,c1,hr1,rfl⟩
        ·cases h
       ·split at h
        ·rename_i hcc
         obtain⟨hty,rfl⟩:=hcc
         cases h
         have:=Dz (ad:=⟨g,i*(Ty.agg (.prod k (.slice e'))).size+k.size,none⟩) (cs:=[ins[i]]) w hT (by rw[hty];rfl) (fun j u hj=>by
          have hj0:j=0:=by have:=(List.getElem?_eq_some_iff.1 hj).1;simpa using this
          subst hj0
          rw[IR]
          refine hcell _ _ (hc1 k.size u ?_)
          rw[List.getElem?_append_right (by omega),hl1,Nat.sub_self]
          exact hj)
         rw[hty]at this
         obtain⟨_,ic,hic,_⟩:=h4
         obtain⟨_,_,_,_,_,_,a',c',hve,_⟩:=Fe hic
         exact⟨rfl,_,this,hL,_,a',c',hloc.resolve_right (fun h=>by rw[h.2.2]at hli;simp at hli),by simp[Ty.wrap,hli],hve⟩
        ·cases h
       ·cases h
     ·cases h
   | arr et e' xs =>
    simp only[Ds]at h
    cases hc:BD (.slice e) ⟨.slice e',xs⟩ with
    | none=>rw[hc]at h;simp[Hf]at h
    | some ys =>
     obtain⟨rfl,h2⟩:=BW hc
     cases h2
     rw[hc]at h
     simp only[Hf]at h
     cases hp:Qv path e' (xs.getD i e'.dflt) with
     | none=>rw[hp]at h;simp[He]at h
     | some pv =>
      rw[hp]at h
      simp only[He]at h
      split at h
      ·rename_i hcc
       obtain⟨hty,hoff⟩:=hcc
       cases h
       obtain⟨hmx,cells,how,hel⟩:=hobj n _ hn
       have hρ:plc (ρ n)=_:=hρ
       have how:w.ownsRow 0 et e'.size (ρ n) xs.length cells:=how
       rw[GY how]at hρ
       rw[hρ]at how
       obtain⟨rfl,hcell⟩:=Ub how
       have hxi:xs[i]?=some (xs.getD i e'.dflt):=by
        rw[List.getElem?_eq_getElem hlt,List.getD_eq_getElem?_getD,List.getElem?_eq_getElem hlt];rfl
       obtain⟨es,hes,hec,her⟩:=hel i _ hxi
       obtain⟨h5,h6⟩:=Rr hp hoff her
       have hl6:=h6.length
       have:=Dz (ad:=⟨g,i*e'.size+off,none⟩) w hT (by rw[hty];exact hl6) (fun j u hj=>by
        rw[IR,Nat.add_assoc]
        rw[List.getElem?_take,List.getElem?_drop]at hj
        split at hj
        ·exact hcell _ _ (hec _ _ hj)
        ·cases hj)
       rw[hty]at this
       exact⟨rfl,_,this,_,h6,rfl⟩
      ·cases h
 ·rename_i u d he1 he2
  cases he1;cases he2
  obtain⟨ad,cs,rfl,hO,hc,hr⟩:=hx
  split at h
  ·rename_i hty
   cases h
   have:=Dz w hT (by rw[hty];exact hr.length) hc
   rw[hty]at this
   exact⟨rfl,_,this,cs,hr,rfl⟩
  ·cases h
 ·cases h
end
end
/- Operations that only look, continued: addresses, arithmetic, slices. -/
section
open Go Go.RowKit
section
variable {P:Program} {tb:Tb} {id:TypeId} {ti:TI} {w:World} {V:Vw} {vc:Prop} {v:AV} {obs:List (Nat×Obj)}
theorem aZ {α:Type} {l:List α} {k:Nat} {x:α} (h:l[k]?=some x):x∈l:=List.mem_of_getElem? h
theorem X5 (hT:Dh P tb id ti) {u:Ty} (ht:ti.ty=.agg u) (hel:ti.el=0) {f k s:Nat} (hf:ti.offs[f]?=some (k,s)) (ad:Addr) (w:World) :
  (Instr.fieldAt id (.pointer (some ad)) f).run P w=.ok (.pointer (some (ad.add k))) w:=by
 obtain⟨⟨⟨hnz,_⟩,_⟩,h2⟩:=hT
 rw[ht]at h2
 simp only at h2
 rcases h2 with ⟨fs,_,hu,ho⟩|⟨n,e,i,hne,_⟩
 ·have h3:(ti.offs.map some)[f]?=some (some (k,s)):=by simp[hf]
  rw[ho]at h3
  simp only[List.getElem?_map,Option.map_eq_some_iff]at h3
  obtain⟨fl,hfl,hfi⟩:=h3
  obtain⟨i,hi,he⟩:=hfi
  cases he
  have hfl':fs[f]?=some fl:=by simpa using hfl
  have hs:i.size≠0:=hnz _ (aZ hf)
  simp[Instr.fieldAt,run_underlying hu,hfl',Instr.sureAddr,fieldPlace,sizeOf,KE w hi,hs]
 ·exact absurd hel hne
theorem X6 (hT:Dh P tb id ti) {u:Ty} (ht:ti.ty=.agg u) (hel:ti.el≠0) {k s:Nat} {z:Int} {kd:IntKind} (hz:0≤z) (hf:ti.offs[z.toNat]?=some (k,s)) (ad:Addr) (w:World) :
  (Instr.indexAt id (.pointer (some ad)) (.int kd z)).run P w=.ok (.pointer (some (ad.add k))) w:=by
 obtain⟨_,h2⟩:=hT
 rw[ht]at h2
 simp only at h2
 rcases h2 with ⟨fs,h0,_⟩|⟨n,e,i,_,hu,hi,ho⟩
 ·exact absurd h0 hel
 ·rw[ho]at hf
  simp only[List.getElem?_map,Option.map_eq_some_iff]at hf
  obtain⟨k',hk',he⟩:=hf
  cases he
  obtain⟨h1,h2⟩:=List.getElem?_eq_some_iff.1 hk'
  simp only[List.length_range]at h1
  simp only[List.getElem_range]at h2
  subst h2
  have hlt:z<(n:Int):=by omega
  simp[Instr.indexAt,asIntOf,run_underlying hu,Instr.sureAddr,sizeOf,KE w hi,hz,hlt]
theorem qP {f:Nat} {o:Option (Nat×Nat)} {x:AV} {xv:Value} {run:Value→Result Value} (hrun:∀k s ad,o=some (k,s)→run (.pointer (some ad))=.ok (.pointer (some (ad.add k))) w)
  (h:NG f o x=some (vc,v,obs)) (hx:Br V x xv):obs=[]∧∃u,run xv=.ok u w∧Br V v u:=by
 unfold NG at h
 split at h
 ·rename_i n path off
  obtain⟨hL,b,hρ,rfl⟩:=hx
  cases o with
  | none=>simp[Rm]at h
  | some p =>
   obtain⟨k,s⟩:=p
   simp only[Rm]at h
   cases h
   exact⟨rfl,_,hrun k s _ rfl,hL,b,hρ,by rw[IR]⟩
 ·rename_i n e i path off
  obtain⟨hL,g,m,c,hρ,hlt,rfl⟩:=hx
  cases o with
  | none=>simp[Rm]at h
  | some p =>
   obtain⟨k,s⟩:=p
   simp only[Rm]at h
   cases h
   exact⟨rfl,_,hrun k s _ rfl,hL,g,m,c,hρ,hlt,by rw[IR,Nat.add_assoc]⟩
 ·rename_i u d
  obtain⟨ad,cs,rfl,hO,hc,hr⟩:=hx
  cases hg:Fa u f d with
  | none=>rw[hg]at h;simp[Hg]at h
  | some pv =>
   rw[hg]at h
   simp only[Hg]at h
   split at h
   ·rename_i ho
    cases h
    have hr:Bj V.w V.O u cs d:=hr
    obtain⟨h1,o',h2,h3,h4⟩:=KF hg hr
    rw[h2]at ho
    cases o with
    | none=>simp at ho
    | some p =>
     obtain⟨k,s⟩:=p
     simp only[Option.map_some,Option.some.injEq]at ho
     subst ho
     refine⟨rfl,_,hrun k s _ rfl,ad.add k,_,rfl,by rw[B0];exact hO,fun j u hj=>?_,h4⟩
     rw[Cn]
     rw[List.getElem?_take,List.getElem?_drop]at hj
     split at hj
     ·exact hc _ _ hj
     ·cases hj
   ·cases h
 ·cases h
theorem wV (hT:Dh P tb id ti) {f:Nat} {x:AV} {xv:Value} (w:World)
  (h:GL f (some ti) (some x)=some (vc,v,obs)) (hx:Br V x xv):obs=[]∧∃u,(Instr.fieldAt id xv f).run P w=.ok u w∧Br V v u:=by
 unfold GL at h
 split at h
 ·rename_i u offs b x' he1 he2
  cases he1;cases he2
  exact qP (run:=fun xv=>(Instr.fieldAt id xv f).run P w) (fun k s ad ho=>X5 hT rfl rfl ho ad w) h hx
 ·cases h
theorem QG {e:TypeId} (hu:P.underlying id=some (.slice e)) {size:Nat} (hs:(sizeOf e).run P w=.ok size w) (a:Addr) (n c:Nat) (k:IntKind) (i:Int) (h0:0≤i) (h1:i<n) :
  (Instr.indexAt id (.slice (some a) n c) (.int k i)).run P w=.ok (.pointer (some (a.add (i.toNat*size)))) w:=by
 simp[Instr.indexAt,asIntOf,run_underlying hu,h0,h1,hs]
theorem A4w {e:Ty} {el:TypeId} (hu:P.underlying id=some (.slice el)) (hs:(sizeOf el).run P V.w=.ok e.size V.w) {l:List e.den} {kd:IntKind} {k:Int} {xv:Value}
  (hx:Bh V.w V.O (.slice e) xv l) (hk0:0≤k) (hk1:k<(l.length:Int)) :
  ∃u,(Instr.indexAt id xv (.int kd k)).run P V.w=.ok u V.w∧Br V (.ip e (l.getD k.toNat e.dflt)) u:=by
 obtain⟨cs,hcs,rfl⟩:=hx
 obtain⟨a,c,rfl,h1,h2,h3⟩:=hcs
 have hlt:k.toNat<l.length:=by omega
 rcases h3 with h3|⟨ad,rfl,hO,hel⟩
 ·subst h3;simp at hlt
 ·refine⟨_,QG hu hs _ _ _ _ _ hk0 hk1,?_⟩
  have hxi:l[k.toNat]?=some (l.getD k.toNat e.dflt):=by
   rw[List.getElem?_eq_getElem hlt,List.getD_eq_getElem?_getD,List.getElem?_eq_getElem hlt];rfl
  obtain⟨es,hes,hc,hr⟩:=hel _ _ hxi
  exact⟨_,es,rfl,by rw[B0];exact hO,fun j u hj=>by rw[Cn];exact hc j u hj,hr⟩
theorem A4x {e:Ty} {el:TypeId} (hu:P.underlying id=some (.slice el)) (hs:(sizeOf el).run P V.w=.ok e.size V.w) {n lo hi:Nat} {kd:IntKind} {k:Int} {xv:Value}
  (hx:Br V (.sr n e lo hi) xv) (hL:∀n,V.L n→∃o,Av V o (V.ρ n)) (hk0:0≤k) (hk1:k<((hi-lo:Nat):Int)) :
  ∃u,(Instr.indexAt id xv (.int kd k)).run P V.w=.ok u V.w∧Br V (.ep n e (lo+k.toNat) [] 0) u:=by
 obtain⟨hLn,a,m,c,hρ,hlo,hhi,a',c',rfl,hc',h0,h1⟩:=hx
 have hlt:lo<hi:=by omega
 have ha':=h1 hlt
 obtain⟨o,ho⟩:=hL n hLn
 obtain⟨g,rfl⟩:∃g,a=some ⟨g,0,none⟩:=by
  obtain⟨_,_,cells,how,_⟩:=Ua ho hρ
  rcases how.2 with ⟨he,hn⟩|⟨g,cap,cur,he,_⟩
  ·injection he;omega
  ·injection he with he;exact⟨g,he⟩
 subst ha'
 refine⟨_,QG hu hs _ _ _ _ _ hk0 hk1,hLn,g,m,c,hρ,by omega,?_⟩
 rw[Cn,Xz,Nat.add_mul]
 rfl
theorem BT {O:Nat→Prop} {w:World} {kd:IntKind} {k:Int} {v:Value} (h:Bh w O (.int kd) v k):v=.int kd k∧Jf kd k:=by
 obtain⟨cs,⟨rfl,h1⟩,rfl⟩:=h
 exact⟨rfl,h1⟩
theorem BF {O:Nat→Prop} {w:World} {kd:IntKind} {k:Int} (h:Jf kd k):Bh w O (.int kd) (.int kd k) k:=⟨_,⟨rfl,h⟩,rfl⟩
theorem Dc {O:Nat→Prop} {w:World} {b:Bool} {v:Value} (h:Bh w O .bool v b):v=.bool b:=by
 obtain⟨cs,h1,rfl⟩:=h
 have h1:cs=_:=h1
 subst h1;rfl
theorem BP {O:Nat→Prop} {w:World} (b:Bool):Bh w O .bool (.bool b) b:=⟨[.bool b],rfl,rfl⟩
theorem F4 {O:Nat→Prop} {w:World} {s:ByteArray} {v:Value} (h:Bh w O .str v s):v=.string s∧s.size≤AO:=by
 obtain⟨cs,⟨rfl,h1⟩,rfl⟩:=h
 exact⟨rfl,h1⟩
theorem Ru {O:Nat→Prop} {w:World} {s:ByteArray} (h:s.size≤AO):Bh w O .str (.string s) s:=⟨_,⟨rfl,h⟩,rfl⟩
theorem Cf {e:Ty} {offs:List (Nat×Nat)} {el:TypeId} {bytes:Nat} (hT:Dh P tb id ⟨.slice e,offs,el,bytes⟩) (hTb:DG P tb) :
  P.underlying id=some (.slice el)∧(∀w,(sizeOf el).run P w=.ok e.size w)∧∃te,lk el tb.ty=some te∧te.ty=e:=by
 obtain⟨_,hu,te,hte,rfl⟩:=hT
 exact⟨hu,fun w=>Ep w (hTb _ _ hte),te,hte,rfl⟩
theorem wW (hT:Dh P tb id ti) (hTb:DG P tb) {x y:AV} {xv yv:Value}
  (h:E9 (some ti) (some x) (some y)=some (vc,v,obs)) (hvc:vc) (hx:Br V x xv) (hy:Br V y yv) (hL:∀n,V.L n→∃o,Av V o (V.ρ n)) :
  obs=[]∧∃u,(Instr.indexAt id xv yv).run P V.w=.ok u V.w∧Br V v u:=by
 unfold E9 at h
 split at h
 ·rename_i e offs el bytes e' l kd k he1 he2 he3
  cases he1;cases he2;cases he3
  split at h
  ·rename_i he
   subst he
   cases h
   obtain⟨hu,hs,_⟩:=Cf hT hTb
   obtain⟨rfl,_⟩:=BT hy
   exact⟨rfl,A4w hu (hs _) hx hvc.1 hvc.2⟩
  ·cases h
 ·rename_i e offs el bytes n e' lo hi kd k he1 he2 he3
  cases he1;cases he2;cases he3
  split at h
  ·rename_i he
   subst he
   cases h
   obtain⟨hu,hs,_⟩:=Cf hT hTb
   obtain⟨rfl,_⟩:=BT hy
   exact⟨rfl,A4x hu (hs _) hx hL hvc.1 hvc.2⟩
  ·cases h
 ·rename_i u offs el b x' y' he1 he2 he3
  cases he1;cases he2;cases he3
  unfold I2 at h
  split at h
  ·rename_i kd k
   split at h
   ·rename_i hk
    obtain⟨rfl,_⟩:=BT hy
    exact qP (run:=fun xv=>(Instr.indexAt id xv (.int kd k)).run P V.w) (fun k' s ad ho=>X6 hT rfl (by simp) hk ho ad V.w) h hx
   ·cases h
  ·cases h
 ·cases h
/-! ### Arithmetic -/
theorem JB {k:IntKind} {n:Int} (h:Jf k n):k.wrap n=n:=by
 obtain⟨h1,h2⟩:=h
 cases k<;>simp[IntKind.min,IntKind.max,IntKind.signed,IntKind.bits]at h1 h2<;>simp[IntKind.wrap,IntKind.signed,IntKind.bits]<;>omega
theorem LB (k:IntKind) (n:Int):Jf k (k.wrap n):=by
 cases k<;>simp only[Jf,IntKind.min,IntKind.max,IntKind.wrap,IntKind.signed,IntKind.bits]<;>simp<;>omega
theorem A1i {op:BinOp} {t:TypeId} {k k':IntKind} {a b:Int} (w:World) (hvc:(wL op k a k' b).1) (ha:Jf k a) :
  ∃u,(binOp op t (.int k a) (.int k' b)).run P w=.ok u w∧Br V (wL op k a k' b).2 u:=by
 unfold wL at hvc ⊢
 split at hvc
 ·have hb:¬b<0:=by have h:0≤b:=hvc;omega
  exact⟨_,by simp[binOp,Op.shift,hb];rfl,BF (LB _ _)⟩
 ·have hb:¬b<0:=by have h:0≤b:=hvc.1;omega
  exact⟨_,by simp[binOp,Op.shift,hb];rfl,BF hvc.2⟩
 ·split at hvc
  ·rename_i hne1 hne2 hk
   subst hk
   cases op<;>simp only[aU]at hvc ⊢
   case add=>exact⟨.int k (a+b),by simp[binOp,Op.intArith,JB hvc],BF hvc⟩
   case sub=>exact⟨.int k (a-b),by simp[binOp,Op.intArith,JB hvc],BF hvc⟩
   case mul=>exact⟨.int k (a*b),by simp[binOp,Op.intArith,JB hvc],BF hvc⟩
   case quo=>exact⟨.int k (a.tdiv b),by simp[binOp,Op.intDiv,hvc.1,JB hvc.2],BF hvc.2⟩
   case rem=>exact⟨.int k (a.tmod b),by simp[binOp,Op.intDiv,hvc.1],BF hvc.2⟩
   case and=>exact⟨.int k (CJ .and k a b),by simp only[binOp,ne_eq,not_true_eq_false,if_false,Op.intBits];rfl,BF (LB _ _)⟩
   case or=>exact⟨.int k (CJ .or k a b),by simp only[binOp,ne_eq,not_true_eq_false,if_false,Op.intBits];rfl,BF (LB _ _)⟩
   case xor=>exact⟨.int k (CJ .xor k a b),by simp only[binOp,ne_eq,not_true_eq_false,if_false,Op.intBits];rfl,BF (LB _ _)⟩
   case andNot=>exact⟨.int k (CJ .andNot k a b),by simp only[binOp,ne_eq,not_true_eq_false,if_false,Op.intBits];rfl,BF (LB _ _)⟩
   case eql=>exact⟨.bool (a==b),by simp[binOp,Op.intCmp],BP _⟩
   case neq=>exact⟨.bool (a != b),by simp[binOp,Op.intCmp],BP _⟩
   case lss=>exact⟨.bool (decide (a<b)),by simp[binOp,Op.intCmp],BP _⟩
   case leq=>exact⟨.bool (decide (a≤b)),by simp[binOp,Op.intCmp],BP _⟩
   case gtr=>exact⟨.bool (decide (b<a)),by simp[binOp,Op.intCmp],BP _⟩
   case geq=>exact⟨.bool (decide (b≤a)),by simp[binOp,Op.intCmp],BP _⟩
  ·exact hvc.elim
theorem wX {op:BinOp} {t:TypeId} {a b:ByteArray} (w:World) (hvc:(UH a b op).1) :
  ∃u,(binOp op t (.string a) (.string b)).run P w=.ok u w∧Br V (UH a b op).2 u:=by
 cases op<;>simp only[UH]at hvc ⊢
 case add =>
  have hm:AO=140737488355328:=rfl
  have hh:¬(((a.size+b.size:Nat):Int) > IntKind.i64.max):=by
   have:IntKind.i64.max=9223372036854775807:=by decide
   omega
  exact⟨.string (a++b),by simp only[binOp,Op.stringOp,if_neg hh];rfl,Ru (by simpa[ByteArray.size_append] using hvc)⟩
 case eql=>exact⟨.bool (Ar a b),by simp only[binOp,Op.stringOp];rfl,BP _⟩
 case neq=>exact⟨.bool (!Ar a b),by simp only[binOp,Op.stringOp];rfl,BP _⟩
 case lss=>exact⟨.bool (GT a b),by simp only[binOp,Op.stringOp];rfl,BP _⟩
 case leq=>exact⟨.bool (GT a b||Ar a b),by simp only[binOp,Op.stringOp];rfl,BP _⟩
 case gtr=>exact⟨.bool (!(GT a b||Ar a b)),by simp only[binOp,Op.stringOp];rfl,BP _⟩
 case geq=>exact⟨.bool (!GT a b),by simp only[binOp,Op.stringOp];rfl,BP _⟩
 all_goals exact hvc.elim
theorem A2a {op:BinOp} {t:TypeId} {ti:Option TI} (hti:QA ti=true→P.underlying t=some .bool) {x y:AV} {xv yv:Value} (w:World)
  (h:Ox op ti (some x) (some y)=some (vc,v,obs)) (hvc:vc) (hx:Br V x xv) (hy:Br V y yv) :
  obs=[]∧(∀xo yo,(eqGuard op t xo yo xv yv).run P w=.ok () w)∧∃u,(binOp op t xv yv).run P w=.ok u w∧Br V v u:=by
 unfold Ox at h
 split at h
 ·rename_i k a k' b he1 he2
  cases he1;cases he2
  cases h
  obtain⟨rfl,ha⟩:=BT hx
  obtain⟨rfl,_⟩:=BT hy
  refine⟨rfl,fun xo yo=>?_,A1i w hvc ha⟩
  cases op<;>simp[eqGuard]
 ·rename_i a b he1 he2
  cases he1;cases he2
  cases h
  obtain⟨rfl,ha⟩:=F4 hx
  obtain⟨rfl,_⟩:=F4 hy
  refine⟨rfl,fun xo yo=>?_,wX w hvc⟩
  cases op<;>simp[eqGuard]
 ·rename_i a b he1 he2
  cases he1;cases he2
  have ha:=Dc hx
  have hb:=Dc hy
  subst ha hb
  split at h
  ·rename_i hb
   have hu:=hti hb
   cases op<;>simp only[aX]at h<;>cases h
   ·exact⟨rfl,fun xo yo=>by simp[eqGuard],.bool (a==b),by simp[binOp,run_equal_bool w t a b hu],BP _⟩
   ·exact⟨rfl,fun xo yo=>by simp[eqGuard],.bool (a != b),by simp[binOp,run_equal_bool w t a b hu,bne],BP _⟩
  ·cases h
 ·cases h
theorem A4y {op:UnOp} {x:AV} {xv:Value} (w:World) (h:qG op (some x)=some (vc,v,obs)) (hvc:vc) (hx:Br V x xv) :
  obs=[]∧∃u,(Op.unary op xv).run P w=.ok u w∧Br V v u:=by
 unfold qG at h
 split at h
 ·rename_i b he
  cases he;cases h
  have:=Dc hx
  subst this
  exact⟨rfl,.bool (!b),by simp[Op.unary],BP _⟩
 ·rename_i k a he
  cases he;cases h
  obtain⟨rfl,ha⟩:=BT hx
  have hvc:Jf k (0-a):=hvc
  exact⟨rfl,_,by simp only[Op.unary,Op.intArith,JB hvc];rfl,BF hvc⟩
 ·cases h
end
end
/- Operations that only look, the last: conversions, lengths, slices of slices, tuples, strings. -/
section
open Go Go.RowKit
section
variable {P:Program} {tb:Tb} {id:TypeId} {ti:TI} {w:World} {V:Vw} {vc:Prop} {v:AV} {obs:List (Nat×Obj)}
theorem a9 (l:List Int):(J4 l).size=l.length:=by
 show (J4 l).data.size=l.length
 unfold J4
 simp
theorem A1j (hTb:DG P tb) (hVw:V.w=w) {s t:TypeId} {si ti:TI} (hs:Dh P tb s si) (ht:Dh P tb t ti) {x:AV} {xv:Value} (h:IW (some si) (some ti) (some x)=some (vc,v,obs)) (hvc:vc) (hx:Br V x xv) :
  obs=[]∧∃u,(convert s t xv).run P w=.ok u w∧Br V v u:=by
 unfold IW at h
 split at h
 ·rename_i k1 o1 e1 b1 k o2 e2 b2 k3 a he1 he2 he3
  cases he1;cases he2;cases he3;cases h
  obtain⟨rfl,ha⟩:=BT hx
  have hvc:Jf k a:=hvc
  have hus:P.underlying s=some (.int k1):=hs.2
  have hut:P.underlying t=some (.int k):=ht.2
  refine⟨rfl,.int k a,?_,BF hvc⟩
  simp[convert,run_underlying hus,run_underlying hut,Conv.intToInt,JB hvc]
 ·rename_i o1 e1 b1 o2 e2 b2 l he1 he2 he3
  cases he1;cases he2;cases he3;cases h
  obtain⟨hus,te,hte,hty⟩:=hs.2
  have hut:P.underlying t=some .string:=ht.2
  have hue:P.underlying e1=some (.int .u8):=by
   have:=(hTb _ _ hte).2
   rw[hty]at this
   exact this
  obtain⟨cs,⟨a,c,rfl,h1,h2,h3⟩,rfl⟩:=hx
  have hsz:(J4 l).size≤AO:=by rw[a9];exact h2
  refine⟨rfl,.string (J4 l),?_,⟨[.string (J4 l)],⟨rfl,hsz⟩,rfl⟩⟩
  have hl0:a=none→l=[]:=fun e=>by
   rcases h3 with h3|⟨ad,h3,_⟩
   ·exact h3
   ·rw[e]at h3;cases h3
  cases a with
  | none =>
   have:=hl0 rfl
   subst this
   show (convert s t (.slice none 0 c)).run P w=_
   have e0:J4 []=ByteArray.empty:=rfl
   rw[e0]
   simp[convert,run_underlying hus,run_underlying hut,run_underlying hue,Conv.bytesToString]
  | some ad =>
   have hb:=run_convert_bytes_back (P:=P) w s t e1 ad c (l.map fun x=>UInt8.ofNat x.toNat) hus hue hut fun j hj'=>by
    have hj:j<List.length l:=by rw[List.length_map]at hj';exact hj'
    rcases h3 with h3|⟨ad2,h3,h4,h5⟩
    ·rw[h3]at hj;cases hj
    ·cases h3
     obtain⟨es,-,hcell,hrep⟩:=h5 j l[j] (List.getElem?_eq_getElem hj)
     obtain⟨rfl,hin⟩:=hrep
     have hc0:=hcell 0 (.int .u8 l[j]) rfl
     rw[hVw]at hc0
     obtain⟨i0,i1⟩:(0:Int)≤(l:List Int)[j]'hj∧(l:List Int)[j]'hj≤255:=by
      simpa[Jf,IntKind.min,IntKind.max,IntKind.signed,IntKind.bits] using hin
     have e:(((List.map (fun x:Int=>UInt8.ofNat x.toNat) l)[j]'hj').toNat:Int)=l[j]:=by
      rw[List.getElem_map,UInt8.toNat_ofNat']
      have h8:((l:List Int)[j]'hj).toNat % 2 ^ 8=((l:List Int)[j]'hj).toNat:=Nat.mod_eq_of_lt ((Int.toNat_lt i0).2 (Int.lt_of_le_of_lt i1 (by decide)))
      exact(congrArg (fun n:Nat=>(n:Int)) h8).trans (Int.toNat_of_nonneg i0)
     rw[e]
     have e2:j*(Ty.int .u8).size+0=j:=by simp[Ty.size]
     rw[e2]at hc0
     exact hc0
   rw[List.length_map]at hb
   exact hb
 ·cases h
theorem A2b (hL:∀n,V.L n→∃o,Av V o (V.ρ n)) {x:AV} {xv:Value} {t ty:TypeId} (hT:Dh P tb t ti) (w:World) (h:Qy (some ti) (some x)=some (vc,v,obs)) (hx:Br V x xv) :
  obs=[]∧∃u,(Builtin.len_ #[t] ty #[xv]).run P w=.ok u w∧Br V v u:=by
 have hin:∀n:Nat,n≤AO→Jf .i64 (n:Int):=fun n hn=>by
  simp[Jf,IntKind.min,IntKind.max,IntKind.signed,IntKind.bits]
  simp[AO]at hn
  omega
 unfold Qy at h
 split at h
 ·rename_i e o el b e2 l he1 he2
  cases he1;cases he2;cases h
  obtain⟨cs,⟨a,c,rfl,h1,h2,_⟩,rfl⟩:=hx
  have hu:=hT.2.1
  exact⟨rfl,.int .i64 (List.length l:Int),by simp[Builtin.len_,run_underlying hu,goInt,Ty.wrap],BF (hin _ h2)⟩
 ·rename_i e o el b n e2 lo hi he1 he2
  cases he1;cases he2;cases h
  obtain⟨hLn,a,m,c,hρ,hlo,hhi,a',c',rfl,hc',h0,h1⟩:=hx
  have hu:=hT.2.1
  obtain⟨oo,ho⟩:=hL n hLn
  obtain⟨_,_,_,_,this⟩:=Ua ho hρ
  exact⟨rfl,.int .i64 ((hi-lo:Nat):Int),by simp[Builtin.len_,run_underlying hu,goInt],BF (hin _ (by omega))⟩
 ·rename_i e o el b n e2 i len he1 he2
  cases he1;cases he2;cases h
  obtain⟨hLn,vs,a,c,hvs,hvi,rfl⟩:=hx
  have hu:=hT.2.1
  obtain⟨oo,ho⟩:=hL n hLn
  have:=wQ ho hvs hvi rfl
  exact⟨rfl,.int .i64 (len:Int),by simp[Builtin.len_,run_underlying hu,goInt],BF (hin _ this)⟩
 ·rename_i e o el b he1 he2
  cases he1;cases he2;cases h
  have hx:xv=_:=hx
  subst hx
  have hu:=hT.2.1
  exact⟨rfl,.int .i64 0,by simp[Builtin.len_,run_underlying hu,goInt],BF (hin 0 (by simp))⟩
 ·rename_i o el b s he1 he2
  cases he1;cases he2;cases h
  obtain⟨rfl,h1⟩:=F4 hx
  have hu:P.underlying t=some .string:=hT.2
  exact⟨rfl,.int .i64 (s.size:Int),by simp[Builtin.len_,run_underlying hu,goInt],BF (hin _ h1)⟩
 ·cases h
theorem mI {i:Nat} {x:AV} {xv:Value} (w:World) (h:Dt i (some x)=some (vc,v,obs)) (hx:Br V x xv) :
  obs=[]∧∃u,(Instr.extract xv i).run P w=.ok u w∧Br V v u:=by
 have get:∀(l:List AV) (vs:List Value) (i:Nat) (y:AV),IY V l vs→l[i]?=some y→∃u,vs[i]?=some u∧Br V y u:=by
  intro l
  induction l with
  | nil=>intro vs i y _ h;simp at h
  | cons z r ih =>
   intro vs i y hv h
   obtain⟨u,vs',rfl,h1,h2⟩:=hv
   cases i with
   | zero =>
    simp at h;subst h
    exact⟨u,rfl,qH h1⟩
   | succ i=>exact ih vs' i y h2 (by simpa using h)
 unfold Dt at h
 split at h
 ·rename_i l he
  cases he
  obtain⟨vs,rfl,hv⟩:=hx
  cases hl:l[i]? with
  | none=>rw[hl]at h;simp[F3]at h
  | some y =>
   rw[hl]at h;simp only[F3]at h;cases h
   obtain⟨u,hu,hr⟩:=get l vs i _ hv hl
   exact⟨rfl,u,by simp[Instr.extract,hu],hr⟩
 ·cases h
theorem A2c {x y:AV} {xv yv:Value} {ts:Array TypeId} {ty:TypeId} (w:World) (h:Oy (some x) (some y)=some (vc,v,obs)) (hx:Br V x xv) (hy:Br V y yv) :
  obs=[]∧∃u,(Builtin.min_ ts ty #[xv,yv]).run P w=.ok u w∧Br V v u:=by
 unfold Oy at h
 split at h
 ·rename_i k a k' b he1 he2
  cases he1;cases he2
  split at h
  ·rename_i hk
   subst hk;cases h
   obtain⟨rfl,ha⟩:=BT hx
   obtain⟨rfl,hb⟩:=BT hy
   have ha:Jf k a:=ha
   have hb:Jf k b:=hb
   refine⟨rfl,.int k (if (b:Int)<a then b else a),by simp[Builtin.min_,Builtin.min2],BF ?_⟩
   split
   ·exact hb
   ·exact ha
  ·cases h
 ·cases h
theorem A1k {x y z:AV} {xv yv zv:Value} {ts:Array TypeId} {ty:TypeId} (w:World) (h:Hi (some x) (some y) (some z)=some (vc,v,obs)) (hx:Br V x xv) (hy:Br V y yv) (hz:Br V z zv) :
  obs=[]∧∃u,(Builtin.min_ ts ty #[xv,yv,zv]).run P w=.ok u w∧Br V v u:=by
 unfold Hi at h
 split at h
 ·rename_i k a k' b k2 c he1 he2 he3
  cases he1;cases he2;cases he3
  split at h
  ·rename_i hk
   obtain⟨hk1,hk2⟩:=hk
   subst hk1;subst hk2;cases h
   obtain⟨rfl,ha⟩:=BT hx
   obtain⟨rfl,hb⟩:=BT hy
   obtain⟨rfl,hc⟩:=BT hz
   have ha:Jf k a:=ha
   have hb:Jf k b:=hb
   have hc:Jf k c:=hc
   refine⟨rfl,.int k (if (c:Int)<(if (b:Int)<a then b else a) then c else (if (b:Int)<a then b else a)),by simp[Builtin.min_,Builtin.min2],BF ?_⟩
   by_cases e1:(b:Int)<a
   ·rw[if_pos e1]
    by_cases e2:(c:Int)<b
    ·rw[if_pos e2];exact hc
    ·rw[if_neg e2];exact hb
   ·rw[if_neg e1]
    by_cases e2:(c:Int)<a
    ·rw[if_pos e2];exact hc
    ·rw[if_neg e2];exact ha
  ·cases h
 ·cases h
theorem A2d {x y:AV} {xv yv:Value} {ts:Array TypeId} {ty:TypeId} (w:World) (h:Oz (some x) (some y)=some (vc,v,obs)) (hx:Br V x xv) (hy:Br V y yv) :
  obs=[]∧∃u,(Builtin.max_ ts ty #[xv,yv]).run P w=.ok u w∧Br V v u:=by
 unfold Oz at h
 split at h
 ·rename_i k a k' b he1 he2
  cases he1;cases he2
  split at h
  ·rename_i hk
   subst hk;cases h
   obtain⟨rfl,ha⟩:=BT hx
   obtain⟨rfl,hb⟩:=BT hy
   have ha:Jf k a:=ha
   have hb:Jf k b:=hb
   refine⟨rfl,.int k (if (a:Int)<b then b else a),by simp[Builtin.max_,Builtin.max2],BF ?_⟩
   split
   ·exact hb
   ·exact ha
  ·cases h
 ·cases h
theorem A1l {t:TypeId} (hu:P.underlying t=some .string) (w:World) {s:ByteArray} {kd:IntKind} {k:Int} (h0:0≤k) (h1:k<(s.size:Int)) :
  (Instr.index t (.string s) (.int kd k)).run P w=.ok (.int .u8 ((s.data.getD k.toNat 0).toNat:Int)) w∧Jf .u8 ((s.data.getD k.toNat 0).toNat:Int):=by
 have hlt:k.toNat<s.size:=by omega
 have hlt':k.toNat<s.data.size:=hlt
 have hg:s[k.toNat]?=some (s.data.getD k.toNat 0):=by
  rw[getElem?_pos s k.toNat hlt]
  simp only[Array.getD,hlt',dite_true]
  rfl
 refine⟨by simp[Instr.index,asIntOf,run_underlying hu,h0,hg],?_⟩
 generalize s.data.getD k.toNat 0=b
 have:=b.toNat_lt
 simp[Jf,IntKind.min,IntKind.max,IntKind.signed,IntKind.bits]
 omega
theorem qQ {t:TypeId} {x y:AV} {xv yv:Value} (hT:Dh P tb t ti) (w:World) (h:Dl (some ti) (some x) (some y)=some (vc,v,obs)) (hvc:vc) (hx:Br V x xv) (hy:Br V y yv) :
  obs=[]∧∃u,(Instr.index t xv yv).run P w=.ok u w∧Br V v u:=by
 unfold Dl at h
 split at h
 ·rename_i o el b s kd k he1 he2 he3
  cases he1;cases he2;cases he3;cases h
  obtain⟨rfl,_⟩:=F4 hx
  obtain⟨rfl,_⟩:=BT hy
  have hu:P.underlying t=some .string:=hT.2
  obtain⟨h1,h2⟩:=A1l (P:=P) hu w (kd:=kd) hvc.1 hvc.2
  exact⟨rfl,_,h1,BF h2⟩
 ·cases h
theorem A2e {x:AV} {xv:Value} (h:Rn (some x)=some (vc,v,obs)) (hx:Br V x xv):obs=[]∧(∃ad,xv=.pointer (some ad))∧Br V v xv:=by
 unfold Rn at h
 split at h
 ·rename_i he;cases he;cases h
  obtain⟨hL,b,hρ,rfl⟩:=hx
  exact⟨rfl,⟨_,rfl⟩,hL,b,hρ,rfl⟩
 ·rename_i he;cases he;cases h
  obtain⟨ad,cs,rfl,r⟩:=hx
  exact⟨rfl,⟨_,rfl⟩,ad,cs,rfl,r⟩
 ·rename_i he;cases he;cases h
  obtain⟨hL,g,m,c,hρ,hlt,rfl⟩:=hx
  exact⟨rfl,⟨_,rfl⟩,hL,g,m,c,hρ,hlt,rfl⟩
 ·cases h
end
end
/- Slices of slices and of strings. -/
section
open Go Go.RowKit
section
variable {P:Program} {tb:Tb} {id:TypeId} {ti:TI} {V:Vw} {vc:Prop} {v:AV} {obs:List (Nat×Obj)}
def Ek (a:Option Addr) (c l sz:Nat):Option Addr:=if c=l then a else a.map (·.add (l*sz))
inductive eZ:Option Value→Nat→Nat→Prop
 | none (d:Nat):eZ none d d
 | some (k:IntKind) (z:Int) (d:Nat) (h:0≤z):eZ (some (.int k z)) d z.toNat
theorem qR {el:TypeId} (hu:P.underlying id=some (.slice el)) {sz:Nat} (w:World) (hs:(sizeOf el).run P w=.ok sz w) {a:Option Addr} {n c l h:Nat} {lo hi:Option Value}
  (hl:eZ lo 0 l) (hh:eZ hi n h) (h1:l≤h) (h2:h≤c) :
  (Instr.sliceAt id (.slice a n c) lo hi none).run P w=.ok (.slice (Ek a c l sz) (h-l) (c-l)) w:=by
 cases hl with
 | none =>
  cases hh with
  | none=>simp[Instr.sliceAt,run_underlying hu,Instr.slice,Instr.sliceBounds,hs,Ek]
  | some k z _ hz =>
   have e:z≤(c:Int):=by omega
   simp[Instr.sliceAt,run_underlying hu,Instr.slice,Instr.sliceBounds,Instr.sliceBound,asIntOf,hs,Ek,hz,e]
 | some k z _ hz =>
  cases hh with
  | none =>
   have e:z≤(n:Int):=by omega
   simp[Instr.sliceAt,run_underlying hu,Instr.slice,Instr.sliceBounds,Instr.sliceBound,asIntOf,hs,Ek,hz,e]
  | some k' z' _ hz' =>
   have e:z'≤(c:Int):=by omega
   have e2:max z' 0=z':=by omega
   have e3:z≤z':=by omega
   simp[Instr.sliceAt,run_underlying hu,Instr.slice,Instr.sliceBounds,Instr.sliceBound,asIntOf,hs,Ek,hz,hz',e,e2,e3]
theorem A1m (hu:P.underlying id=some .string) (w:World) {s:ByteArray} {l h:Nat} {lo hi:Option Value} (hl:eZ lo 0 l) (hh:eZ hi s.size h) (h1:l≤h) (h2:h≤s.size) :
  (Instr.sliceAt id (.string s) lo hi none).run P w=.ok (.string (s.extract l h)) w:=by
 cases hl with
 | none =>
  cases hh with
  | none=>simp[Instr.sliceAt,run_underlying hu,Instr.slice,Instr.sliceBounds]
  | some k z _ hz =>
   have e:z≤(s.size:Int):=by omega
   simp[Instr.sliceAt,run_underlying hu,Instr.slice,Instr.sliceBounds,Instr.sliceBound,asIntOf,hz,e]
 | some k z _ hz =>
  cases hh with
  | none =>
   have e:z≤(s.size:Int):=by omega
   simp[Instr.sliceAt,run_underlying hu,Instr.slice,Instr.sliceBounds,Instr.sliceBound,asIntOf,hz,e]
  | some k' z' _ hz' =>
   have e:z'≤(s.size:Int):=by omega
   have e2:max z' 0=z':=by omega
   have e3:z≤z':=by omega
   simp[Instr.sliceAt,run_underlying hu,Instr.slice,Instr.sliceBounds,Instr.sliceBound,asIntOf,hz,hz',e,e2,e3]
theorem wY {e:Ty} {xs:List e.den} {a:Option Addr} {n c l h:Nat} (hr:Bj V.w V.O (.slice e) [.slice a n c] xs) (h1:l≤h) (h2:h≤xs.length) :
  Bh V.w V.O (.slice e) (.slice (Ek a c l e.size) (h-l) (c-l)) (sub xs l h)∧n=xs.length∧h≤c:=by
 obtain⟨a',c',hv,h3,h4,h5⟩:=hr
 injection hv with hv
 injection hv with e1 e2 e3
 subst e1;subst e2;subst e3
 have hl:=MQ xs (lo:=l) h2
 refine⟨⟨_,⟨Ek a c l e.size,c-l,by rw[hl],by rw[hl];omega,by rw[hl];omega,?_⟩,rfl⟩,rfl,by omega⟩
 by_cases hlt:l<h
 ·right
  rcases h5 with h5|⟨ad,rfl,hO,hel⟩
  ·subst h5;simp at h2;omega
  ·refine⟨ad.add (l*e.size),?_,by rw[B0];exact hO,fun i x hi=>?_⟩
   ·have:¬c=l:=by omega
    simp[Ek,this]
   ·obtain⟨hx,_⟩:=WY xs l h i hi
    obtain⟨es,hes,hc,hr⟩:=hel (l+i) x hx
    refine⟨es,hes,fun j u hj=>?_,hr⟩
    have:=hc j u hj
    rw[Cn]
    rwa [Nat.add_mul,Nat.add_assoc]at this
 ·left
  exact List.eq_nil_of_length_eq_zero (by rw[hl];omega)
theorem qS {loc:Value} {sz b c0 l h:Nat} {a:Option Addr} {n c:Nat} (hv:Cq loc sz b c0 (.slice a n c)) (h1:l≤h) (h2:h≤c0-b) :
  Cq loc sz (b+l) (b+h) (.slice (Ek a c l sz) (h-l) (c-l))∧n=c0-b∧h≤c:=by
 obtain⟨a0,m,cc,hloc,hb,hc0,a',c',hvv,hc',h3,h4⟩:=hv
 injection hvv with e1 e2 e3
 subst e1;subst e2;subst e3
 refine⟨⟨a0,m,cc,hloc,by omega,by omega,Ek a c l sz,c-l,by rw[show b+h-(b+l)=h-l by omega],by omega,fun hz=>?_,fun hlt=>?_⟩,rfl,by omega⟩
 ·have hb0:b=0:=by omega
  have hl0:l=0:=by omega
  subst hb0;subst hl0
  obtain⟨r1,r2⟩:=h3 rfl
  refine⟨?_,by omega⟩
  rw[←r1]
  unfold Ek
  split
  ·rfl
  ·simp only[Nat.zero_mul]
   cases a<;>rfl
 ·have:=h4 (by omega)
  subst this
  have hne:¬c=l:=by omega
  simp only[Ek,if_neg hne,Option.map_map]
  congr 1
  funext ad
  simp only[Function.comp]
  rw[Cn,Nat.add_mul]
theorem Qz (s:ByteArray) (l h:Nat):(s.extract l h).size≤s.size:=by
 simp only[ByteArray.size_extract]
 omega
theorem Rv (hT:Dh P tb id ti) (hTb:DG P tb) {e:Ty} (he:ti.ty=.slice e) {l:List e.den} {xv:Value} {lo hi:Option Value} {a h:Nat}
  (hx:Bh V.w V.O (.slice e) xv l) (hl:eZ lo 0 a) (hh:eZ hi l.length h) (h1:a≤h) (h2:h≤l.length) :
  ∃u,(Instr.sliceAt id xv lo hi none).run P V.w=.ok u V.w∧Br V (.p (.slice e) (sub l a h)) u:=by
 obtain⟨ty,offs,el,bytes⟩:=ti
 simp only at he
 subst he
 obtain⟨hu,hs,_⟩:=Cf hT hTb
 obtain⟨cs,hr,rfl⟩:=hx
 obtain⟨a0,c,rfl,r⟩:=hr
 have hr:Bj V.w V.O (.slice e) [.slice a0 l.length c] l:=⟨a0,c,rfl,r⟩
 obtain⟨h3,_,h4⟩:=wY hr h1 h2
 exact⟨_,qR hu _ (hs _) hl hh h1 h4,h3⟩
theorem Rw (hT:Dh P tb id ti) (hTb:DG P tb) {n b c0:Nat} {e:Ty} (he:ti.ty=.slice e) {xv:Value} {lo hi:Option Value} {a h:Nat}
  (hx:Br V (.sr n e b c0) xv) (hl:eZ lo 0 a) (hh:eZ hi (c0-b) h) (h1:a≤h) (h2:h≤c0-b) :
  ∃u,(Instr.sliceAt id xv lo hi none).run P V.w=.ok u V.w∧Br V (.sr n e (b+a) (b+h)) u:=by
 obtain⟨ty,offs,el,bytes⟩:=ti
 simp only at he
 subst he
 obtain⟨hu,hs,_⟩:=Cf hT hTb
 obtain⟨hLn,hv⟩:=hx
 have hv':=hv
 obtain⟨_,_,_,_,_,_,a',c',rfl,_⟩:=hv'
 obtain⟨h3,h4,h5⟩:=qS hv h1 h2
 exact⟨_,qR hu _ (hs _) hl hh h1 h5,hLn,h3⟩
theorem Rx (hT:Dh P tb id ti) (he:ti.ty=.str) {s:ByteArray} {xv:Value} {lo hi:Option Value} {a h:Nat}
  (hx:Bh V.w V.O .str xv s) (hl:eZ lo 0 a) (hh:eZ hi s.size h) (h1:a≤h) (h2:h≤s.size) :
  ∃u,(Instr.sliceAt id xv lo hi none).run P V.w=.ok u V.w∧Br V (.p .str (s.extract a h)) u:=by
 obtain⟨rfl,hm⟩:=F4 hx
 have hu:=hT.2
 rw[he]at hu
 exact⟨_,A1m hu _ hl hh h1 h2,Ru (Nat.le_trans (Qz s a h) hm)⟩
theorem IA {z:Int} {n:Nat} (_h:0≤z) (h2:z≤(n:Int)):z.toNat≤n:=by omega
theorem Wd {a b:Int} (h:a≤b):a.toNat≤b.toNat:=by omega
def X7:Option AV→Option Value→Prop
 | none,none=>True
 | some x,some v=>Br V x v
 | _,_=>False
theorem wZ (hT:Dh P tb id ti) (hTb:DG P tb) {x:AV} {xv:Value} {lo hi:Option AV} {lov hiv:Option Value}
  (h:Eo (some ti) (some x) (some lo) (some hi)=some (vc,v,obs)) (hvc:vc) (hx:Br V x xv) (hlo:X7 (V:=V) lo lov) (hhi:X7 (V:=V) hi hiv) :
  obs=[]∧∃u,(Instr.sliceAt id xv lov hiv none).run P V.w=.ok u V.w∧Br V v u:=by
 have b0:∀ {o:Option Value} (d:Nat),X7 (V:=V) none o→eZ o d d:=fun {o} d h=>by
  cases o with
  | none=>exact .none d
  | some v=>exact h.elim
 have b1:∀ {o:Option Value} {k:IntKind} {z:Int} (d:Nat),X7 (V:=V) (some (.p (.int k) z)) o→0≤z→eZ o d z.toNat:=fun {o k z} d h hz=>by
  cases o with
  | none=>exact h.elim
  | some v =>
   obtain⟨rfl,_⟩:=BT (h:Bh V.w V.O (.int k) v z)
   exact .some k z d hz
 unfold Eo at h
 split at h
 ·rename_i e offs el bytes e' l a0 h0 he1 he2 he3 he4
  cases he1;cases he2;cases he3;cases he4
  split at h
  ·rename_i hee
   subst hee
   have hx:Bh V.w V.O (.slice e) xv l:=hx
   unfold Gl at h
   split at h<;>first|(cases h;done)|(rename_i g1;cases g1<;>cases h)
   ·exact⟨rfl,Rv hT hTb rfl hx (b0 0 hlo) (b1 _ hhi hvc.1) (Nat.zero_le _) (IA hvc.1 hvc.2)⟩
   ·exact⟨rfl,Rv hT hTb rfl hx (b1 0 hlo hvc.1) (b0 _ hhi) (IA hvc.1 hvc.2) (Nat.le_refl _)⟩
   ·exact⟨rfl,Rv hT hTb rfl hx (b1 0 hlo hvc.1) (b1 _ hhi (Int.le_trans hvc.1 hvc.2.1)) (Wd hvc.2.1) (IA (Int.le_trans hvc.1 hvc.2.1) hvc.2.2)⟩
  ·cases h
 ·rename_i e offs el bytes n e' b c0 a0 h0 he1 he2 he3 he4
  cases he1;cases he2;cases he3;cases he4
  split at h
  ·rename_i hee
   subst hee
   unfold Gl at h
   split at h<;>first|(cases h;done)|(rename_i g1;cases g1<;>cases h)
   ·refine⟨rfl,?_⟩
    have:=Rw (P:=P) hT hTb rfl hx (b0 0 hlo) (b1 _ hhi hvc.1) (Nat.zero_le _) (IA hvc.1 hvc.2)
    simpa using this
   ·refine⟨rfl,?_⟩
    have:=Rw (P:=P) hT hTb rfl hx (b1 0 hlo hvc.1) (b0 _ hhi) (IA hvc.1 hvc.2) (Nat.le_refl _)
    have hle:=IA hvc.1 hvc.2
    obtain⟨_,_,_,_,_,hbc,_⟩:=hx
    rw[show b+(c0-b)=c0 by omega]at this
    exact this
   ·exact⟨rfl,Rw hT hTb rfl hx (b1 0 hlo hvc.1) (b1 _ hhi (Int.le_trans hvc.1 hvc.2.1)) (Wd hvc.2.1) (IA (Int.le_trans hvc.1 hvc.2.1) hvc.2.2)⟩
  ·cases h
 ·rename_i offs el bytes s a0 h0 he1 he2 he3 he4
  cases he1;cases he2;cases he3;cases he4
  have hx:Bh V.w V.O .str xv s:=hx
  unfold Gl at h
  split at h<;>first|(cases h;done)|(rename_i g1;cases g1<;>cases h)
  ·exact⟨rfl,Rx hT rfl hx (b0 0 hlo) (b1 _ hhi hvc.1) (Nat.zero_le _) (IA hvc.1 hvc.2)⟩
  ·exact⟨rfl,Rx hT rfl hx (b1 0 hlo hvc.1) (b0 _ hhi) (IA hvc.1 hvc.2) (Nat.le_refl _)⟩
  ·exact⟨rfl,Rx hT rfl hx (b1 0 hlo hvc.1) (b1 _ hhi (Int.le_trans hvc.1 hvc.2.1)) (Wd hvc.2.1) (IA (Int.le_trans hvc.1 hvc.2.1) hvc.2.2)⟩
 ·cases h
end
end
end Go.Proofs.YtmejfnhmgbhkmabGreat.Fw
