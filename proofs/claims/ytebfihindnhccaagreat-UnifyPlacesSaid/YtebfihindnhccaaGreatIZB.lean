/- The executor's quiet operations are sound, first part. -/
/- Parts of a pure value, and a part set anew. -/
import Derived.Test.YtebfihindnhccaaGreatIZA
set_option linter.unusedVariables false
set_option linter.unusedSimpArgs false
namespace Go.Proofs.YtebfihindnhccaaGreat.Fw
section
open Go Go.RowKit
theorem Nm {w:World} {O:Nat→Prop}:∀ {t:Ty} {k:Nat} {d:t.den} {pv:PV} {cs:List Value},Ga t k d=some pv→Bj w O t cs d →
  Wk t k=some pv.t∧∃o,JJ t k=some o∧o+pv.t.size≤t.size∧Bj w O pv.t ((cs.drop o).take pv.t.size) pv.d
 | .prod a b,0,d,pv,cs,h,hr=>by
  simp only[Ga]at h
  cases h
  obtain⟨c1,c2,rfl,h1,h2⟩:=hr
  refine⟨rfl,0,rfl,by simp[Ty.size],?_⟩
  have hl:=h1.length
  simp only[List.drop_zero,←hl,List.take_left]
  exact h1
 | .prod a b,k+1,d,pv,cs,h,hr=>by
  simp only[Ga]at h
  obtain⟨c1,c2,rfl,h1,h2⟩:=hr
  obtain⟨h3,o,h4,h5,h6⟩:=Nm h h2
  refine⟨h3,a.size+o,by simp[JJ,h4],by simp[Ty.size];omega,?_⟩
  have hl:=h1.length
  rw[←hl,←List.drop_drop,List.drop_left]
  exact h6
 | .int _,0,d,pv,cs,h,hr=>by
  simp only[Ga]at h;cases h
  refine⟨rfl,0,rfl,by simp,?_⟩
  have hl:=hr.length
  simp only[List.drop_zero,←hl,List.take_length]
  exact hr
 | .bool,0,d,pv,cs,h,hr=>by
  simp only[Ga]at h;cases h
  refine⟨rfl,0,rfl,by simp,?_⟩
  have hl:=hr.length
  simp only[List.drop_zero,←hl,List.take_length]
  exact hr
 | .str,0,d,pv,cs,h,hr=>by
  simp only[Ga]at h;cases h
  refine⟨rfl,0,rfl,by simp,?_⟩
  have hl:=hr.length
  simp only[List.drop_zero,←hl,List.take_length]
  exact hr
 | .slice _,0,d,pv,cs,h,hr=>by
  simp only[Ga]at h;cases h
  refine⟨rfl,0,rfl,by simp,?_⟩
  have hl:=hr.length
  simp only[List.drop_zero,←hl,List.take_length]
  exact hr
 | .ref _,0,d,pv,cs,h,hr=>by
  simp only[Ga]at h;cases h
  refine⟨rfl,0,rfl,by simp,?_⟩
  have hl:=hr.length
  simp only[List.drop_zero,←hl,List.take_length]
  exact hr
 | .ref _,_+1,d,pv,cs,h,hr=>by simp[Ga]at h
 | .agg _,0,d,pv,cs,h,hr=>by
  simp only[Ga]at h;cases h
  refine⟨rfl,0,rfl,by simp,?_⟩
  have hl:=hr.length
  simp only[List.drop_zero,←hl,List.take_length]
  exact hr
 | .int _,_+1,d,pv,cs,h,hr=>by simp[Ga]at h
 | .bool,_+1,d,pv,cs,h,hr=>by simp[Ga]at h
 | .str,_+1,d,pv,cs,h,hr=>by simp[Ga]at h
 | .slice _,_+1,d,pv,cs,h,hr=>by simp[Ga]at h
 | .agg _,_+1,d,pv,cs,h,hr=>by simp[Ga]at h
theorem f8 {α:Type} (cs:List α) (o m o' n:Nat) (h:o'+n≤m):(((cs.drop o).take m).drop o').take n=(cs.drop (o+o')).take n:=by
 rw[List.drop_take,List.take_take,List.drop_drop]
 congr 1
 omega
theorem SA {w:World} {O:Nat→Prop}:∀ {path:List Nat} {t:Ty} {d:t.den} {pv:PV} {cs:List Value} {off:Nat},RE path t d=some pv→KO path t=some off→Bj w O t cs d →
  off+pv.t.size≤t.size∧Bj w O pv.t ((cs.drop off).take pv.t.size) pv.d
 | [],t,d,pv,cs,off,h,ho,hr=>by
  simp only[RE]at h;simp only[KO]at ho
  cases h;cases ho
  have hl:=hr.length
  simp only[List.drop_zero,←hl,List.take_length]
  exact⟨by simp[hl],hr⟩
 | k :: r,t,d,pv,cs,off,h,ho,hr=>by
  cases t<;>simp only[RE,KO]at h ho<;>try(cases h;done)
  rename_i t
  split at h
  ·rename_i p hp
   have hr:Bj w O t cs d:=hr
   obtain⟨h1,o,h2,h3,h4⟩:=Nm hp hr
   rw[h1,h2]at ho
   simp only[Option.map_eq_some_iff]at ho
   obtain⟨o',ho',rfl⟩:=ho
   obtain⟨h5,h6⟩:=SA h ho' h4
   refine⟨by simp only[Ty.size];omega,?_⟩
   rw[f8 _ _ _ _ _ h5]at h6
   exact h6
  ·cases h
def Ay {α:Type} (cs:List α) (o:Nat) (es:List α):List α:=cs.take o++es++cs.drop (o+es.length)
theorem Eq {α:Type} {cs:List α} {o:Nat} {es:List α} (h:o+es.length≤cs.length):(Ay cs o es).length=cs.length:=by
 simp[Ay];omega
theorem Da {α:Type} {cs es:List α} (h:es.length=cs.length):Ay cs 0 es=es:=by
 simp[Ay,h]
theorem Nn {α:Type} (a b:List α) (o:Nat) (es:List α):Ay (a++b) (a.length+o) es=a++Ay b o es:=by
 simp only[Ay,List.take_append,List.drop_append,List.append_assoc]
 have h1:List.take (a.length+o) a=a:=List.take_of_length_le (by omega)
 have h2:List.drop (a.length+o+es.length) a=[]:=List.drop_eq_nil_of_le (by omega)
 have h3:a.length+o-a.length=o:=by omega
 have h4:a.length+o+es.length-a.length=o+es.length:=by omega
 rw[h1,h2,h3,h4]
 simp
theorem QU {α:Type} (a b:List α) (es:List α) (h:es.length=a.length):Ay (a++b) 0 es=es++b:=by
 simp[Ay,h]
theorem Yd {w:World} {O:Nat→Prop}:∀ {t:Ty} {k:Nat} {d d':t.den} {pv:PV} {cs es:List Value} {o:Nat},MM t k d pv=some d'→JJ t k=some o→Bj w O t cs d→Bj w O pv.t es pv.d →
  Bj w O t (Ay cs o es) d'∧Wk t k=some pv.t
 | .prod a b,0,d,d',pv,cs,es,o,h,ho,hr,he=>by
  simp only[MM,Option.map_eq_some_iff]at h
  obtain⟨y,hy,rfl⟩:=h
  have:=A6 hy
  subst this
  simp only[JJ]at ho
  cases ho
  obtain⟨c1,c2,rfl,h1,h2⟩:=hr
  rw[QU _ _ _ (by rw[he.length,h1.length])]
  exact⟨⟨es,c2,rfl,he,h2⟩,rfl⟩
 | .prod a b,k+1,d,d',pv,cs,es,o,h,ho,hr,he=>by
  simp only[MM,Option.map_eq_some_iff]at h
  obtain⟨y,hy,rfl⟩:=h
  simp only[JJ,Option.map_eq_some_iff]at ho
  obtain⟨o',ho',rfl⟩:=ho
  obtain⟨c1,c2,rfl,h1,h2⟩:=hr
  obtain⟨h3,h4⟩:=Yd hy ho' h2 he
  rw[←h1.length,Nn]
  exact⟨⟨c1,_,rfl,h1,h3⟩,h4⟩
 | .int _,0,d,d',pv,cs,es,o,h,ho,hr,he=>by
  have:=A6 h;subst this
  simp only[JJ]at ho;cases ho
  rw[Da (by rw[he.length,hr.length])]
  exact⟨he,rfl⟩
 | .bool,0,d,d',pv,cs,es,o,h,ho,hr,he=>by
  have:=A6 h;subst this
  simp only[JJ]at ho;cases ho
  rw[Da (by rw[he.length,hr.length])]
  exact⟨he,rfl⟩
 | .str,0,d,d',pv,cs,es,o,h,ho,hr,he=>by
  have:=A6 h;subst this
  simp only[JJ]at ho;cases ho
  rw[Da (by rw[he.length,hr.length])]
  exact⟨he,rfl⟩
 | .slice _,0,d,d',pv,cs,es,o,h,ho,hr,he=>by
  have:=A6 h;subst this
  simp only[JJ]at ho;cases ho
  rw[Da (by rw[he.length,hr.length])]
  exact⟨he,rfl⟩
 | .ref _,0,d,d',pv,cs,es,o,h,ho,hr,he=>by
  have:=A6 h;subst this
  simp only[JJ]at ho;cases ho
  rw[Da (by rw[he.length,hr.length])]
  exact⟨he,rfl⟩
 | .ref _,_+1,d,d',pv,cs,es,o,h,ho,hr,he=>by simp[MM]at h
 | .agg _,0,d,d',pv,cs,es,o,h,ho,hr,he=>by
  have:=A6 h;subst this
  simp only[JJ]at ho;cases ho
  rw[Da (by rw[he.length,hr.length])]
  exact⟨he,rfl⟩
 | .int _,_+1,d,d',pv,cs,es,o,h,ho,hr,he=>by simp[MM]at h
 | .bool,_+1,d,d',pv,cs,es,o,h,ho,hr,he=>by simp[MM]at h
 | .str,_+1,d,d',pv,cs,es,o,h,ho,hr,he=>by simp[MM]at h
 | .slice _,_+1,d,d',pv,cs,es,o,h,ho,hr,he=>by simp[MM]at h
 | .agg _,_+1,d,d',pv,cs,es,o,h,ho,hr,he=>by simp[MM]at h
theorem MW {α:Type} (cs:List α) (o m o':Nat) (es:List α) (h:o'+es.length≤m) (h2:o+m≤cs.length) :
  Ay cs o (Ay ((cs.drop o).take m) o' es)=Ay cs (o+o') es:=by
 apply List.ext_getElem?
 intro j
 have hl:(Ay ((cs.drop o).take m) o' es).length=m:=by rw[Eq]<;>simp<;>omega
 simp only[Ay]at hl ⊢
 rw[hl]
 simp only[List.getElem?_append,List.length_append,List.length_take,List.length_drop,List.getElem?_take,List.getElem?_drop]
 have e1:min o cs.length=o:=by omega
 have e2:min m (cs.length-o)=m:=by omega
 have e3:min o' m=o':=by omega
 have e4:min (o+o') cs.length=o+o':=by omega
 rw[e1,e2,e3,e4]
 by_cases c1:j<o
 ·have:j<o+(o'+es.length+(m-(o'+es.length))):=by omega
  simp[c1,this,show j<o+o' by omega,show j<o+o'+es.length by omega]
 ·by_cases c2:j<o+o'
  ·simp[c1,c2,show j-o<o' by omega,show j-o<m by omega,show j<o+(o'+es.length+(m-(o'+es.length))) by omega,show j<o+o'+es.length by omega,show j-o<o'+es.length by omega,show o+(j-o)=j by omega]
  ·by_cases c3:j<o+o'+es.length
   ·simp[c1,c2,c3,show ¬j-o<o' by omega,show j<o+(o'+es.length+(m-(o'+es.length))) by omega,show j-o<o'+es.length by omega,show j-o-o'=j-(o+o') by omega]
   ·by_cases c4:j<o+m
    ·simp[c1,c2,c3,show ¬j-o<o' by omega,show ¬j-o<o'+es.length by omega,show j<o+(o'+es.length+(m-(o'+es.length))) by omega,show o'+es.length+(j-o-(o'+es.length))<m by omega]
     congr 1
     omega
    ·simp[c1,c2,c3,show ¬j<o+(o'+es.length+(m-(o'+es.length))) by omega]
     congr 1
     omega
theorem SB {w:World} {O:Nat→Prop}:∀ {path:List Nat} {t:Ty} {d d':t.den} {pv:PV} {cs es:List Value} {off:Nat},R3 path t d pv=some d'→KO path t=some off→Bj w O t cs d→Bj w O pv.t es pv.d →
  Bj w O t (Ay cs off es) d'∧off+es.length≤cs.length
 | [],t,d,d',pv,cs,es,off,h,ho,hr,he=>by
  have:=A6 h
  subst this
  simp only[KO]at ho;cases ho
  rw[Da (by rw[he.length,hr.length])]
  exact⟨he,by simp[he.length,hr.length]⟩
 | k :: r,t,d,d',pv,cs,es,off,h,ho,hr,he=>by
  cases t<;>simp only[R3,KO]at h ho<;>try(cases h;done)
  rename_i t
  have hr:Bj w O t cs d:=hr
  split at h
  ·rename_i p hp
   obtain⟨h1,o,h2,h3,h4⟩:=Nm hp hr
   rw[h1,h2]at ho
   simp only[Option.map_eq_some_iff]at ho
   obtain⟨o',ho',rfl⟩:=ho
   split at h
   ·rename_i y hy
    obtain⟨h5,h6⟩:=SB hy ho' h4 he
    have hcl:=hr.length
    have hl:((cs.drop o).take p.t.size).length=p.t.size:=by simp;omega
    rw[hl]at h6
    obtain⟨h7,_⟩:=Yd (pv:=⟨p.t,y⟩) h h2 hr h5
    rw[MW _ _ _ _ _ h6 (by omega)]at h7
    exact⟨h7,by omega⟩
   ·cases h
  ·cases h
end
/- Loads. -/
section
open Go Go.RowKit
section
variable {V:Vw}
theorem MU.length {x:AV} {cs:List Value} (h:MU V x cs):cs.length=x.cells:=by
 cases x
 case p t d=>exact Bj.length (show Bj V.w V.O t cs d from h)
 case ag l=>obtain⟨v,_,_,hf⟩:=h;exact hf.elim
 case tup l=>obtain⟨v,_,_,hf⟩:=h;exact hf.elim
 all_goals(obtain⟨v,rfl,_⟩:=h;rfl)
theorem MU.one {x:AV} {cs:List Value} (h:MU V x cs):∀u∈cs,u.oneCell'=true:=by
 cases x
 case p t d=>exact Bj.one (show Bj V.w V.O t cs d from h)
 all_goals(obtain⟨v,rfl,h1,_⟩:=h;intro u hu;simp at hu;subst hu;exact h1)
theorem DQ.one:∀ {l:List AV} {cs:List Value},DQ V l cs→∀u∈cs,u.oneCell'=true
 | [],cs,h=>by have h:cs=[]:=h;subst h;simp
 | x :: r,cs,h=>by
  obtain⟨c1,c2,rfl,h1,h2⟩:=h
  intro u hu
  rcases List.mem_append.1 hu with hu|hu
  ·exact h1.one u hu
  ·exact h2.one u hu
theorem DQ.length:∀ {l:List AV} {cs:List Value},DQ V l cs→cs.length=Bx l l.length
 | [],cs,h=>by have h:cs=[]:=h;subst h;rfl
 | x :: r,cs,h=>by
  obtain⟨c1,c2,rfl,h1,h2⟩:=h
  simp only[List.length_append,List.length_cons,Bx]
  rw[h1.length,h2.length]
theorem DQ.get:∀ {l:List AV} {cs:List Value} {k:Nat} {x:AV},DQ V l cs→l[k]?=some x →
  Bx l k+x.cells≤cs.length∧MU V x ((cs.drop (Bx l k)).take x.cells)
 | [],cs,k,x,h,hk=>by simp at hk
 | y :: r,cs,0,x,h,hk=>by
  obtain⟨c1,c2,rfl,h1,h2⟩:=h
  simp at hk
  subst hk
  have:=h1.length
  simp only[Bx,List.drop_zero,←this,List.take_left]
  exact⟨by simp,h1⟩
 | y :: r,cs,k+1,x,h,hk=>by
  obtain⟨c1,c2,rfl,h1,h2⟩:=h
  have hk:r[k]?=some x:=by simpa using hk
  obtain⟨h3,h4⟩:=DQ.get h2 hk
  have:=h1.length
  refine⟨by simp only[Bx,List.length_append];omega,?_⟩
  simp only[Bx,←this]
  rw[←List.drop_drop,List.drop_left]
  exact h4
theorem DQ.set:∀ {l:List AV} {cs:List Value} {k:Nat} {x y:AV} {es:List Value},DQ V l cs→l[k]?=some x→MU V y es→y.cells=x.cells →
  DQ V (l.set k y) (Ay cs (Bx l k) es)
 | [],cs,k,x,y,es,h,hk,hy,he=>by simp at hk
 | z :: r,cs,0,x,y,es,h,hk,hy,he=>by
  obtain⟨c1,c2,rfl,h1,h2⟩:=h
  simp at hk
  subst hk
  simp only[Bx,List.set_cons_zero]
  rw[QU _ _ _ (by rw[hy.length,h1.length,he])]
  exact⟨es,c2,rfl,hy,h2⟩
 | z :: r,cs,k+1,x,y,es,h,hk,hy,he=>by
  obtain⟨c1,c2,rfl,h1,h2⟩:=h
  have hk:r[k]?=some x:=by simpa using hk
  have:=h1.length
  simp only[Bx,List.set_cons_succ,←this]
  rw[Nn]
  exact⟨c1,_,rfl,h1,DQ.set h2 hk hy he⟩
theorem cG {ty:Ty} {x:AV} {es:List Value} (hx:MU V x es) (hf:CF ty x=true):es.length=ty.size∧B5 V x (ty.wrap es):=by
 cases x
 case p t d =>
  simp only[CF,decide_eq_true_eq]at hf
  subst hf
  have hx:Bj V.w V.O ty es d:=hx
  exact⟨Bj.length hx,es,hx,rfl⟩
 case ag l=>obtain⟨v,_,_,hf⟩:=hx;exact hf.elim
 case tup l=>obtain⟨v,_,_,hf⟩:=hx;exact hf.elim
 all_goals
  obtain⟨v,rfl,_,h1⟩:=hx
  have h2:ty.cell1=true:=by simp only[CF]at hf;first|exact hf|(simp only[Bool.and_eq_true]at hf;exact hf.2)|exact absurd hf (by decide)
  cases ty<;>first|(cases h2;done)|exact⟨rfl,h1⟩
theorem tZ {ty:Ty} {x:AV} {v:Value} (hx:B5 V x v) (hf:CF ty x=true) (hone:ty.cell1=true→v.oneCell'=true):v.cells.size=ty.size∧((∀l,x≠.ag l)→MU V x v.cells.toList):=by
 cases x
 case p t d =>
  simp only[CF,decide_eq_true_eq]at hf
  subst hf
  obtain⟨cs,hr,rfl⟩:=hx
  have hl:=hr.length
  cases ty
  case agg t=>exact⟨by simpa[Ty.wrap,Value.cells] using hl,fun _=>by simpa[Ty.wrap,Value.cells,MU] using hr⟩
  case prod a b=>exact⟨by simpa[Ty.wrap,Value.cells] using hl,fun _=>by simpa[Ty.wrap,Value.cells,MU] using hr⟩
  case slice e =>
   obtain⟨a,c,rfl,h⟩:=hr
   exact⟨rfl,fun _=>⟨a,c,rfl,h⟩⟩
  case int k =>
   obtain⟨rfl,h⟩:=hr
   exact⟨rfl,fun _=>⟨rfl,h⟩⟩
  case bool =>
   have hr:cs=_:=hr
   subst hr
   exact⟨rfl,fun _=>rfl⟩
  case str =>
   obtain⟨rfl,h⟩:=hr
   exact⟨rfl,fun _=>⟨rfl,h⟩⟩
  case ref k =>
   have hr:cs=[KJ k]:=hr
   subst hr
   have hw:(Ty.ref k).wrap [KJ k]=KJ k:=rfl
   rw[hw]
   match k with
   | 0=>exact⟨rfl,fun _=>rfl⟩
   | 1=>exact⟨rfl,fun _=>rfl⟩
   | _+2=>exact⟨rfl,fun _=>rfl⟩
 case ag l =>
  obtain⟨cs,rfl,hcs⟩:=hx
  have hl:=hcs.length
  cases ty<;>simp only[CF]at hf<;>try(cases hf;done)
  rename_i t
  simp only[beq_iff_eq]at hf
  exact⟨by simp[Value.cells,Ty.size,hl,hf],fun h=>absurd rfl (h l)⟩
 case tup l=>simp[CF]at hf
 all_goals
  have h1:ty.cell1=true:=by simp only[CF]at hf;first|exact hf|(simp only[Bool.and_eq_true]at hf;exact hf.2)|exact absurd hf (by decide)
  have ho:v.oneCell'=true:=hone h1
  have hc:v.cells=#[v]:=by cases v<;>first|rfl|simp[Value.oneCell']at ho
  have hs:ty.size=1:=by cases ty<;>simp[Ty.cell1]at h1<;>rfl
  rw[hc]
  exact⟨by simp[hs],fun _=>⟨v,rfl,ho,hx⟩⟩
end
end
/- Operations that only look: each is as the executor says. -/
section
open Go Go.RowKit
section
variable {P:Program} {tb:Tb} {id:TypeId} {ti:TI} {w:World} {O0:Nat→Prop} {σ:St} {ρ:Nat→Value} {vc:Prop} {v:AV} {obs:List (Nat×Obj)}
theorem Uy {w:World} {base:Nat} {et:TypeId} {size:Nat} {g m c n:Nat} {cells:List Value} (h:w.ownsRow base et size (.slice (some ⟨g,0,none⟩) m c) n cells) :
  m=n∧∀(j:Nat) (u:Value),cells[j]?=some u→w.cell? ⟨g,j,none⟩=some u:=by
 constructor
 ·rcases h.2 with ⟨he,_⟩|⟨g',cap,cur,he,_⟩
  ·injection he with h1;cases h1
  ·injection he
 ·intro j u hj
  have:=h.cells (g:=g) rfl j u hj
  rwa [YY]at this
theorem t4 (hT:ED P tb id ti) (hobj:∀n o,lk n σ.objs=some o→A4 (vw w O0 σ ρ) o (ρ n)) {x:AV} {xv:Value}
  (h:Ik σ (some ti) (some x)=some (vc,v,obs)) (hx:B5 (vw w O0 σ ρ) x xv):obs=[]∧∃u,(Instr.loadAt id xv).run P w=.ok u w∧B5 (vw w O0 σ ρ) v u:=by
 unfold Ik at h
 split at h
 ·rename_i n path off he1 he2
  cases he1;cases he2
  obtain⟨hL,b,hρ,rfl⟩:=hx
  cases hn:lk n σ.objs with
  | none=>rw[hn]at h;simp[Ef]at h
  | some o =>
   rw[hn]at h
   cases o with
   | arr et e xs=>simp[Ef]at h
   | mapo k v l=>simp[Ef]at h
   | frame tm fs=>simp[Ef]at h
   | loop L=>simp[Ef]at h
   | dfr=>simp[Ef]at h
   | nest et iet k e xs hl=>simp[Ef]at h
   | box et st fs =>
    simp only[Ef]at h
    cases hl:Ii st fs path with
    | none=>rw[hl]at h;simp[Ho]at h
    | some y =>
     rw[hl]at h
     simp only[Ho]at h
     split at h
     ·rename_i hc
      obtain⟨hfit,hoff⟩:=hc
      cases h
      obtain⟨hst,b',cs,hloc,hheap,hcs⟩:=hobj n _ hn
      have hρ:ρ n=_:=hρ
      rw[hρ]at hloc
      injection hloc with hloc
      injection hloc with hloc
      injection hloc with hloc
      subst hloc
      have hcell:∀(es:List Value) (o:Nat),es=(cs.drop o).take es.length→∀(j:Nat) (u:Value),es[j]?=some u→w.cell? ((⟨b,o,none⟩:Addr).add j)=some u:=by
       intro es o hes j u hj
       rw[Ih,cell_of_row w b (o+j) cs.toArray et (0,0) hheap]
       rw[hes,List.getElem?_take,List.getElem?_drop]at hj
       split at hj
       ·simpa using hj
       ·cases hj
      refine⟨rfl,?_⟩
      unfold Ii at hl
      split at hl
      · -- the whole
       simp only[NZ]at hoff
       cases hoff
       cases st with
       | true =>
        simp only[if_true]at hl
        cases hl
        have hl2:=hcs.length
        cases hty:ti.ty<;>rw[hty]at hfit<;>simp only[CF]at hfit<;>try(cases hfit;done)
        rename_i t
        simp only[beq_iff_eq]at hfit
        have hsz:cs.length=ti.ty.size:=by rw[hty];simp only[Ty.size];omega
        have:=EJ w hT hsz (hcell cs 0 (by simp))
        refine⟨_,this,cs,?_,hcs⟩
        rw[hty]
        rfl
       | false =>
        simp only[Bool.false_eq_true,if_false]at hl
        have hz:Bx fs 0=0:=by cases fs<;>rfl
        obtain⟨h1,h2⟩:=hcs.get hl
        rw[hz]at h2
        obtain⟨h3,h4⟩:=cG h2 hfit
        have:=EJ w hT h3 (hcell _ 0 (by rw[h2.length]))
        exact⟨_,this,h4⟩
      · -- a field
       rename_i k
       cases st with
       | false=>simp at hl
       | true =>
        simp only[if_true]at hl
        obtain⟨h1,h2⟩:=hcs.get hl
        obtain⟨h3,h4⟩:=cG h2 hfit
        have hoff':off=Bx fs k:=by
         simp only[NZ,hl]at hoff
         cases v<;>simp only[KO,Option.map_some,List.isEmpty_nil,if_true]at hoff<;>cases hoff<;>rfl
        subst hoff'
        have:=EJ w hT h3 (hcell _ (Bx fs k) (by rw[h2.length]))
        exact⟨_,this,h4⟩
      ·rename_i k r hr
       cases st with
       | false=>simp at hl
       | true =>
        simp only[if_true]at hl
        split at hl
        ·rename_i t d hk
         simp only[Option.map_eq_some_iff]at hl
         obtain⟨pv,hpv,rfl⟩:=hl
         simp only[NZ,hk,Option.map_eq_some_iff]at hoff
         obtain⟨o',ho',rfl⟩:=hoff
         obtain⟨h1,h2⟩:=hcs.get hk
         have h2:Bj w (own O0 σ ρ) t _ d:=h2
         obtain⟨h5,h6⟩:=SA hpv ho' h2
         simp only[AV.cells]at h1 h6
         rw[f8 _ _ _ _ _ h5]at h6
         simp only[CF,decide_eq_true_eq]at hfit
         have hl6:=h6.length
         have:=EJ w hT (by rw[hfit];exact hl6) (hcell _ (Bx fs k+o') (by rw[hl6]))
         rw[hfit]at this
         exact⟨_,this,_,h6,rfl⟩
        ·cases hl
     ·cases h
 ·rename_i n e i path off he1 he2
  cases he1;cases he2
  obtain⟨hL,g,m,c,hρ,hlt,rfl⟩:=hx
  cases hn:lk n σ.objs with
  | none=>rw[hn]at h;simp[Eg]at h
  | some o =>
   rw[hn]at h
   cases o with
   | box et st fs=>simp[Eg]at h
   | mapo k v l=>simp[Eg]at h
   | frame tm fs=>simp[Eg]at h
   | loop L=>simp[Eg]at h
   | dfr=>simp[Eg]at h
   | nest et iet k e' xs hl =>
    cases hl with
    | some j=>simp[Eg]at h
    | none =>
     simp only[Eg]at h
     split at h
     ·rename_i hee
      subst hee
      obtain⟨o,ins,cells,hloc,hN⟩:=hobj n _ hn
      have hρ:plc (ρ n)=_:=hρ
      have ho:plc (ρ n)=o:=hloc.plc
      have how:=hN.own
      rw[←ho,hρ]at how
      obtain⟨rfl,hcell⟩:=Uy how
      have hxi:xs[i]?=some (xs.getD i (k.dflt,[])):=by
       rw[List.getElem?_eq_getElem hlt,List.getD_eq_getElem?_getD,List.getElem?_eq_getElem hlt];rfl
      have hli:i<ins.length:=by rw[hN.len];exact hlt
      obtain⟨c1,v1,hc1,hr1,h3⟩:=hN.row i _ ins[i] hxi (List.getElem?_eq_getElem hli)
      rcases h3 with ⟨h3,_⟩|⟨_,hv1,h4⟩
      ·cases h3
      ·subst hv1
       have hl1:c1.length=k.size:=hr1.length
       unfold Mm at h
       split at h
       ·split at h
        ·rename_i hcc
         obtain⟨hty,rfl⟩:=hcc
         cases h
         have:=EJ (ad:=⟨g,i*(Ty.agg (.prod k (.slice e'))).size+0,none⟩) w hT (by rw[hty];exact hl1) (fun j u hj=>by
          rw[Ih]
          refine hcell _ _ (hc1 j u ?_)
          rw[List.getElem?_append_left (List.getElem?_eq_some_iff.1 hj).1]
          exact hj)
         rw[hty]at this
         exact⟨rfl,_,this,c1,hr1,rfl⟩
        ·cases h
       ·split at h
        ·rename_i hcc
         obtain⟨hty,rfl⟩:=hcc
         cases h
         have:=EJ (ad:=⟨g,i*(Ty.agg (.prod k (.slice e'))).size+k.size,none⟩) (cs:=[ins[i]]) w hT (by rw[hty];rfl) (fun j u hj=>by
          have hj0:j=0:=by have:=(List.getElem?_eq_some_iff.1 hj).1;simpa using this
          subst hj0
          rw[Ih]
          refine hcell _ _ (hc1 k.size u ?_)
          rw[List.getElem?_append_right (by omega),hl1,Nat.sub_self]
          exact hj)
         rw[hty]at this
         obtain⟨_,ic,hic,_⟩:=h4
         obtain⟨_,_,_,_,_,_,a',c',hve,_⟩:=F0 hic
         exact⟨rfl,_,this,hL,_,a',c',hloc.resolve_right (fun h=>by rw[h.2.2]at hli;simp at hli),by simp[Ty.wrap,hli],hve⟩
        ·cases h
       ·cases h
     ·cases h
   | arr et e' xs =>
    simp only[Eg]at h
    cases hc:BL (.slice e) ⟨.slice e',xs⟩ with
    | none=>rw[hc]at h;simp[Hq]at h
    | some ys =>
     obtain⟨rfl,h2⟩:=BW hc
     cases h2
     rw[hc]at h
     simp only[Hq]at h
     cases hp:RE path e' (xs.getD i e'.dflt) with
     | none=>rw[hp]at h;simp[Hp]at h
     | some pv =>
      rw[hp]at h
      simp only[Hp]at h
      split at h
      ·rename_i hcc
       obtain⟨hty,hoff⟩:=hcc
       cases h
       obtain⟨hmx,cells,how,hel⟩:=hobj n _ hn
       have hρ:plc (ρ n)=_:=hρ
       have how:w.ownsRow 0 et e'.size (ρ n) xs.length cells:=how
       rw[Gn how]at hρ
       rw[hρ]at how
       obtain⟨rfl,hcell⟩:=Uy how
       have hxi:xs[i]?=some (xs.getD i e'.dflt):=by
        rw[List.getElem?_eq_getElem hlt,List.getD_eq_getElem?_getD,List.getElem?_eq_getElem hlt];rfl
       obtain⟨es,hes,hec,her⟩:=hel i _ hxi
       obtain⟨h5,h6⟩:=SA hp hoff her
       have hl6:=h6.length
       have:=EJ (ad:=⟨g,i*e'.size+off,none⟩) w hT (by rw[hty];exact hl6) (fun j u hj=>by
        rw[Ih,Nat.add_assoc]
        rw[List.getElem?_take,List.getElem?_drop]at hj
        split at hj
        ·exact hcell _ _ (hec _ _ hj)
        ·cases hj)
       rw[hty]at this
       exact⟨rfl,_,this,_,h6,rfl⟩
      ·cases h
 ·rename_i u d he1 he2
  cases he1;cases he2
  obtain⟨ad,cs,rfl,hO,hc,hr⟩:=hx
  split at h
  ·rename_i hty
   cases h
   have:=EJ w hT (by rw[hty];exact hr.length) hc
   rw[hty]at this
   exact⟨rfl,_,this,cs,hr,rfl⟩
  ·cases h
 ·cases h
end
end
/- Operations that only look, continued: addresses, arithmetic, slices. -/
section
open Go Go.RowKit
section
variable {P:Program} {tb:Tb} {id:TypeId} {ti:TI} {w:World} {V:Vw} {vc:Prop} {v:AV} {obs:List (Nat×Obj)}
theorem cH {α:Type} {l:List α} {k:Nat} {x:α} (h:l[k]?=some x):x∈l:=List.mem_of_getElem? h
theorem Ye (hT:ED P tb id ti) {u:Ty} (ht:ti.ty=.agg u) (hel:ti.el=0) {f k s:Nat} (hf:ti.offs[f]?=some (k,s)) (ad:Addr) (w:World) :
  (Instr.fieldAt id (.pointer (some ad)) f).run P w=.ok (.pointer (some (ad.add k))) w:=by
 obtain⟨⟨⟨hnz,_⟩,_⟩,h2⟩:=hT
 rw[ht]at h2
 simp only at h2
 rcases h2 with ⟨fs,_,hu,ho⟩|⟨n,e,i,hne,_⟩
 ·have h3:(ti.offs.map some)[f]?=some (some (k,s)):=by simp[hf]
  rw[ho]at h3
  simp only[List.getElem?_map,Option.map_eq_some_iff]at h3
  obtain⟨fl,hfl,hfi⟩:=h3
  obtain⟨i,hi,he⟩:=hfi
  cases he
  have hfl':fs[f]?=some fl:=by simpa using hfl
  have hs:i.size≠0:=hnz _ (cH hf)
  simp[Instr.fieldAt,run_underlying hu,hfl',Instr.sureAddr,fieldPlace,sizeOf,Kb w hi,hs]
 ·exact absurd hel hne
theorem Yf (hT:ED P tb id ti) {u:Ty} (ht:ti.ty=.agg u) (hel:ti.el≠0) {k s:Nat} {z:Int} {kd:IntKind} (hz:0≤z) (hf:ti.offs[z.toNat]?=some (k,s)) (ad:Addr) (w:World) :
  (Instr.indexAt id (.pointer (some ad)) (.int kd z)).run P w=.ok (.pointer (some (ad.add k))) w:=by
 obtain⟨_,h2⟩:=hT
 rw[ht]at h2
 simp only at h2
 rcases h2 with ⟨fs,h0,_⟩|⟨n,e,i,_,hu,hi,ho⟩
 ·exact absurd h0 hel
 ·rw[ho]at hf
  simp only[List.getElem?_map,Option.map_eq_some_iff]at hf
  obtain⟨k',hk',he⟩:=hf
  cases he
  obtain⟨h1,h2⟩:=List.getElem?_eq_some_iff.1 hk'
  simp only[List.length_range]at h1
  simp only[List.getElem_range]at h2
  subst h2
  have hlt:z<(n:Int):=by omega
  simp[Instr.indexAt,asIntOf,run_underlying hu,Instr.sureAddr,sizeOf,Kb w hi,hz,hlt]
theorem t5 {f:Nat} {o:Option (Nat×Nat)} {x:AV} {xv:Value} {run:Value→Result Value} (hrun:∀k s ad,o=some (k,s)→run (.pointer (some ad))=.ok (.pointer (some (ad.add k))) w)
  (h:Na f o x=some (vc,v,obs)) (hx:B5 V x xv):obs=[]∧∃u,run xv=.ok u w∧B5 V v u:=by
 unfold Na at h
 split at h
 ·rename_i n path off
  obtain⟨hL,b,hρ,rfl⟩:=hx
  cases o with
  | none=>simp[R5]at h
  | some p =>
   obtain⟨k,s⟩:=p
   simp only[R5]at h
   cases h
   exact⟨rfl,_,hrun k s _ rfl,hL,b,hρ,by rw[Ih]⟩
 ·rename_i n e i path off
  obtain⟨hL,g,m,c,hρ,hlt,rfl⟩:=hx
  cases o with
  | none=>simp[R5]at h
  | some p =>
   obtain⟨k,s⟩:=p
   simp only[R5]at h
   cases h
   exact⟨rfl,_,hrun k s _ rfl,hL,g,m,c,hρ,hlt,by rw[Ih,Nat.add_assoc]⟩
 ·rename_i u d
  obtain⟨ad,cs,rfl,hO,hc,hr⟩:=hx
  cases hg:Ga u f d with
  | none=>rw[hg]at h;simp[Hr]at h
  | some pv =>
   rw[hg]at h
   simp only[Hr]at h
   split at h
   ·rename_i ho
    cases h
    have hr:Bj V.w V.O u cs d:=hr
    obtain⟨h1,o',h2,h3,h4⟩:=Nm hg hr
    rw[h2]at ho
    cases o with
    | none=>simp at ho
    | some p =>
     obtain⟨k,s⟩:=p
     simp only[Option.map_some,Option.some.injEq]at ho
     subst ho
     refine⟨rfl,_,hrun k s _ rfl,ad.add k,_,rfl,by rw[B3];exact hO,fun j u hj=>?_,h4⟩
     rw[C0]
     rw[List.getElem?_take,List.getElem?_drop]at hj
     split at hj
     ·exact hc _ _ hj
     ·cases hj
   ·cases h
 ·cases h
theorem zY (hT:ED P tb id ti) {f:Nat} {x:AV} {xv:Value} (w:World)
  (h:Gb f (some ti) (some x)=some (vc,v,obs)) (hx:B5 V x xv):obs=[]∧∃u,(Instr.fieldAt id xv f).run P w=.ok u w∧B5 V v u:=by
 unfold Gb at h
 split at h
 ·rename_i u offs b x' he1 he2
  cases he1;cases he2
  exact t5 (run:=fun xv=>(Instr.fieldAt id xv f).run P w) (fun k s ad ho=>Ye hT rfl rfl ho ad w) h hx
 ·cases h
theorem QV {e:TypeId} (hu:P.underlying id=some (.slice e)) {size:Nat} (hs:(sizeOf e).run P w=.ok size w) (a:Addr) (n c:Nat) (k:IntKind) (i:Int) (h0:0≤i) (h1:i<n) :
  (Instr.indexAt id (.slice (some a) n c) (.int k i)).run P w=.ok (.pointer (some (a.add (i.toNat*size)))) w:=by
 simp[Instr.indexAt,asIntOf,run_underlying hu,h0,h1,hs]
theorem A7s {e:Ty} {el:TypeId} (hu:P.underlying id=some (.slice el)) (hs:(sizeOf el).run P V.w=.ok e.size V.w) {l:List e.den} {kd:IntKind} {k:Int} {xv:Value}
  (hx:Bk V.w V.O (.slice e) xv l) (hk0:0≤k) (hk1:k<(l.length:Int)) :
  ∃u,(Instr.indexAt id xv (.int kd k)).run P V.w=.ok u V.w∧B5 V (.ip e (l.getD k.toNat e.dflt)) u:=by
 obtain⟨cs,hcs,rfl⟩:=hx
 obtain⟨a,c,rfl,h1,h2,h3⟩:=hcs
 have hlt:k.toNat<l.length:=by omega
 rcases h3 with h3|⟨ad,rfl,hO,hel⟩
 ·subst h3;simp at hlt
 ·refine⟨_,QV hu hs _ _ _ _ _ hk0 hk1,?_⟩
  have hxi:l[k.toNat]?=some (l.getD k.toNat e.dflt):=by
   rw[List.getElem?_eq_getElem hlt,List.getD_eq_getElem?_getD,List.getElem?_eq_getElem hlt];rfl
  obtain⟨es,hes,hc,hr⟩:=hel _ _ hxi
  exact⟨_,es,rfl,by rw[B3];exact hO,fun j u hj=>by rw[C0];exact hc j u hj,hr⟩
theorem A7t {e:Ty} {el:TypeId} (hu:P.underlying id=some (.slice el)) (hs:(sizeOf el).run P V.w=.ok e.size V.w) {n lo hi:Nat} {kd:IntKind} {k:Int} {xv:Value}
  (hx:B5 V (.sr n e lo hi) xv) (hL:∀n,V.L n→∃o,A4 V o (V.ρ n)) (hk0:0≤k) (hk1:k<((hi-lo:Nat):Int)) :
  ∃u,(Instr.indexAt id xv (.int kd k)).run P V.w=.ok u V.w∧B5 V (.ep n e (lo+k.toNat) [] 0) u:=by
 obtain⟨hLn,a,m,c,hρ,hlo,hhi,a',c',rfl,hc',h0,h1⟩:=hx
 have hlt:lo<hi:=by omega
 have ha':=h1 hlt
 obtain⟨o,ho⟩:=hL n hLn
 obtain⟨g,rfl⟩:∃g,a=some ⟨g,0,none⟩:=by
  obtain⟨_,_,cells,how,_⟩:=Ux ho hρ
  rcases how.2 with ⟨he,hn⟩|⟨g,cap,cur,he,_⟩
  ·injection he;omega
  ·injection he with he;exact⟨g,he⟩
 subst ha'
 refine⟨_,QV hu hs _ _ _ _ _ hk0 hk1,hLn,g,m,c,hρ,by omega,?_⟩
 rw[C0,YY,Nat.add_mul]
 rfl
theorem Bu {O:Nat→Prop} {w:World} {kd:IntKind} {k:Int} {v:Value} (h:Bk w O (.int kd) v k):v=.int kd k∧Lc kd k:=by
 obtain⟨cs,⟨rfl,h1⟩,rfl⟩:=h
 exact⟨rfl,h1⟩
theorem BQ {O:Nat→Prop} {w:World} {kd:IntKind} {k:Int} (h:Lc kd k):Bk w O (.int kd) (.int kd k) k:=⟨_,⟨rfl,h⟩,rfl⟩
theorem Dw {O:Nat→Prop} {w:World} {b:Bool} {v:Value} (h:Bk w O .bool v b):v=.bool b:=by
 obtain⟨cs,h1,rfl⟩:=h
 have h1:cs=_:=h1
 subst h1;rfl
theorem Bb {O:Nat→Prop} {w:World} (b:Bool):Bk w O .bool (.bool b) b:=⟨[.bool b],rfl,rfl⟩
theorem GI {O:Nat→Prop} {w:World} {s:ByteArray} {v:Value} (h:Bk w O .str v s):v=.string s∧s.size≤AP:=by
 obtain⟨cs,⟨rfl,h1⟩,rfl⟩:=h
 exact⟨rfl,h1⟩
theorem SC {O:Nat→Prop} {w:World} {s:ByteArray} (h:s.size≤AP):Bk w O .str (.string s) s:=⟨_,⟨rfl,h⟩,rfl⟩
theorem Cm {e:Ty} {offs:List (Nat×Nat)} {el:TypeId} {bytes:Nat} (hT:ED P tb id ⟨.slice e,offs,el,bytes⟩) (hTb:Dp P tb) :
  P.underlying id=some (.slice el)∧(∀w,(sizeOf el).run P w=.ok e.size w)∧∃te,lk el tb.ty=some te∧te.ty=e:=by
 obtain⟨_,hu,te,hte,rfl⟩:=hT
 exact⟨hu,fun w=>HB w (hTb _ _ hte),te,hte,rfl⟩
theorem zZ (hT:ED P tb id ti) (hTb:Dp P tb) {x y:AV} {xv yv:Value}
  (h:FO (some ti) (some x) (some y)=some (vc,v,obs)) (hvc:vc) (hx:B5 V x xv) (hy:B5 V y yv) (hL:∀n,V.L n→∃o,A4 V o (V.ρ n)) :
  obs=[]∧∃u,(Instr.indexAt id xv yv).run P V.w=.ok u V.w∧B5 V v u:=by
 unfold FO at h
 split at h
 ·rename_i e offs el bytes e' l kd k he1 he2 he3
  cases he1;cases he2;cases he3
  split at h
  ·rename_i he
   subst he
   cases h
   obtain⟨hu,hs,_⟩:=Cm hT hTb
   obtain⟨rfl,_⟩:=Bu hy
   exact⟨rfl,A7s hu (hs _) hx hvc.1 hvc.2⟩
  ·cases h
 ·rename_i e offs el bytes n e' lo hi kd k he1 he2 he3
  cases he1;cases he2;cases he3
  split at h
  ·rename_i he
   subst he
   cases h
   obtain⟨hu,hs,_⟩:=Cm hT hTb
   obtain⟨rfl,_⟩:=Bu hy
   exact⟨rfl,A7t hu (hs _) hx hL hvc.1 hvc.2⟩
  ·cases h
 ·rename_i u offs el b x' y' he1 he2 he3
  cases he1;cases he2;cases he3
  unfold JM at h
  split at h
  ·rename_i kd k
   split at h
   ·rename_i hk
    obtain⟨rfl,_⟩:=Bu hy
    exact t5 (run:=fun xv=>(Instr.indexAt id xv (.int kd k)).run P V.w) (fun k' s ad ho=>Yf hT rfl (by simp) hk ho ad V.w) h hx
   ·cases h
  ·cases h
 ·cases h
/-! ### Arithmetic -/
theorem JV {k:IntKind} {n:Int} (h:Lc k n):k.wrap n=n:=by
 obtain⟨h1,h2⟩:=h
 cases k<;>simp[IntKind.min,IntKind.max,IntKind.signed,IntKind.bits]at h1 h2<;>simp[IntKind.wrap,IntKind.signed,IntKind.bits]<;>omega
theorem Li (k:IntKind) (n:Int):Lc k (k.wrap n):=by
 cases k<;>simp only[Lc,IntKind.min,IntKind.max,IntKind.wrap,IntKind.signed,IntKind.bits]<;>simp<;>omega
theorem A39 {op:BinOp} {t:TypeId} {k k':IntKind} {a b:Int} (w:World) (hvc:(zN op k a k' b).1) (ha:Lc k a) :
  ∃u,(binOp op t (.int k a) (.int k' b)).run P w=.ok u w∧B5 V (zN op k a k' b).2 u:=by
 unfold zN at hvc ⊢
 split at hvc
 ·have hb:¬b<0:=by have h:0≤b:=hvc;omega
  exact⟨_,by simp[binOp,Op.shift,hb];rfl,BQ (Li _ _)⟩
 ·have hb:¬b<0:=by have h:0≤b:=hvc.1;omega
  exact⟨_,by simp[binOp,Op.shift,hb];rfl,BQ hvc.2⟩
 ·split at hvc
  ·rename_i hne1 hne2 hk
   subst hk
   cases op<;>simp only[cC]at hvc ⊢
   case add=>exact⟨.int k (a+b),by simp[binOp,Op.intArith,JV hvc],BQ hvc⟩
   case sub=>exact⟨.int k (a-b),by simp[binOp,Op.intArith,JV hvc],BQ hvc⟩
   case mul=>exact⟨.int k (a*b),by simp[binOp,Op.intArith,JV hvc],BQ hvc⟩
   case quo=>exact⟨.int k (a.tdiv b),by simp[binOp,Op.intDiv,hvc.1,JV hvc.2],BQ hvc.2⟩
   case rem=>exact⟨.int k (a.tmod b),by simp[binOp,Op.intDiv,hvc.1],BQ hvc.2⟩
   case and=>exact⟨.int k (CS .and k a b),by simp only[binOp,ne_eq,not_true_eq_false,if_false,Op.intBits];rfl,BQ (Li _ _)⟩
   case or=>exact⟨.int k (CS .or k a b),by simp only[binOp,ne_eq,not_true_eq_false,if_false,Op.intBits];rfl,BQ (Li _ _)⟩
   case xor=>exact⟨.int k (CS .xor k a b),by simp only[binOp,ne_eq,not_true_eq_false,if_false,Op.intBits];rfl,BQ (Li _ _)⟩
   case andNot=>exact⟨.int k (CS .andNot k a b),by simp only[binOp,ne_eq,not_true_eq_false,if_false,Op.intBits];rfl,BQ (Li _ _)⟩
   case eql=>exact⟨.bool (a==b),by simp[binOp,Op.intCmp],Bb _⟩
   case neq=>exact⟨.bool (a != b),by simp[binOp,Op.intCmp],Bb _⟩
   case lss=>exact⟨.bool (decide (a<b)),by simp[binOp,Op.intCmp],Bb _⟩
   case leq=>exact⟨.bool (decide (a≤b)),by simp[binOp,Op.intCmp],Bb _⟩
   case gtr=>exact⟨.bool (decide (b<a)),by simp[binOp,Op.intCmp],Bb _⟩
   case geq=>exact⟨.bool (decide (b≤a)),by simp[binOp,Op.intCmp],Bb _⟩
  ·exact hvc.elim
theorem z4 {op:BinOp} {t:TypeId} {a b:ByteArray} (w:World) (hvc:(Ud a b op).1) :
  ∃u,(binOp op t (.string a) (.string b)).run P w=.ok u w∧B5 V (Ud a b op).2 u:=by
 cases op<;>simp only[Ud]at hvc ⊢
 case add =>
  have hm:AP=140737488355328:=rfl
  have hh:¬(((a.size+b.size:Nat):Int) > IntKind.i64.max):=by
   have:IntKind.i64.max=9223372036854775807:=by decide
   omega
  exact⟨.string (a++b),by simp only[binOp,Op.stringOp,if_neg hh];rfl,SC (by simpa[ByteArray.size_append] using hvc)⟩
 case eql=>exact⟨.bool (Ar a b),by simp only[binOp,Op.stringOp];rfl,Bb _⟩
 case neq=>exact⟨.bool (!Ar a b),by simp only[binOp,Op.stringOp];rfl,Bb _⟩
 case lss=>exact⟨.bool (Gi a b),by simp only[binOp,Op.stringOp];rfl,Bb _⟩
 case leq=>exact⟨.bool (Gi a b||Ar a b),by simp only[binOp,Op.stringOp];rfl,Bb _⟩
 case gtr=>exact⟨.bool (!(Gi a b||Ar a b)),by simp only[binOp,Op.stringOp];rfl,Bb _⟩
 case geq=>exact⟨.bool (!Gi a b),by simp only[binOp,Op.stringOp];rfl,Bb _⟩
 all_goals exact hvc.elim
theorem A49 {op:BinOp} {t:TypeId} {ti:Option TI} (hti:QR ti=true→P.underlying t=some .bool) {x y:AV} {xv yv:Value} (w:World)
  (h:O9 op ti (some x) (some y)=some (vc,v,obs)) (hvc:vc) (hx:B5 V x xv) (hy:B5 V y yv) :
  obs=[]∧(∀xo yo,(eqGuard op t xo yo xv yv).run P w=.ok () w)∧∃u,(binOp op t xv yv).run P w=.ok u w∧B5 V v u:=by
 unfold O9 at h
 split at h
 ·rename_i k a k' b he1 he2
  cases he1;cases he2
  cases h
  obtain⟨rfl,ha⟩:=Bu hx
  obtain⟨rfl,_⟩:=Bu hy
  refine⟨rfl,fun xo yo=>?_,A39 w hvc ha⟩
  cases op<;>simp[eqGuard]
 ·rename_i a b he1 he2
  cases he1;cases he2
  cases h
  obtain⟨rfl,ha⟩:=GI hx
  obtain⟨rfl,_⟩:=GI hy
  refine⟨rfl,fun xo yo=>?_,z4 w hvc⟩
  cases op<;>simp[eqGuard]
 ·rename_i a b he1 he2
  cases he1;cases he2
  have ha:=Dw hx
  have hb:=Dw hy
  subst ha hb
  split at h
  ·rename_i hb
   have hu:=hti hb
   cases op<;>simp only[cF]at h<;>cases h
   ·exact⟨rfl,fun xo yo=>by simp[eqGuard],.bool (a==b),by simp[binOp,run_equal_bool w t a b hu],Bb _⟩
   ·exact⟨rfl,fun xo yo=>by simp[eqGuard],.bool (a != b),by simp[binOp,run_equal_bool w t a b hu,bne],Bb _⟩
  ·cases h
 ·cases h
theorem A7u {op:UnOp} {x:AV} {xv:Value} (w:World) (h:tS op (some x)=some (vc,v,obs)) (hvc:vc) (hx:B5 V x xv) :
  obs=[]∧∃u,(Op.unary op xv).run P w=.ok u w∧B5 V v u:=by
 unfold tS at h
 split at h
 ·rename_i b he
  cases he;cases h
  have:=Dw hx
  subst this
  exact⟨rfl,.bool (!b),by simp[Op.unary],Bb _⟩
 ·rename_i k a he
  cases he;cases h
  obtain⟨rfl,ha⟩:=Bu hx
  have hvc:Lc k (0-a):=hvc
  exact⟨rfl,_,by simp only[Op.unary,Op.intArith,JV hvc];rfl,BQ hvc⟩
 ·cases h
end
end
/- Operations that only look, the last: conversions, lengths, slices of slices, tuples, strings. -/
section
open Go Go.RowKit
section
variable {P:Program} {tb:Tb} {id:TypeId} {ti:TI} {w:World} {V:Vw} {vc:Prop} {v:AV} {obs:List (Nat×Obj)}
theorem A3a {s t:TypeId} {si ti:TI} (hs:ED P tb s si) (ht:ED P tb t ti) {x:AV} {xv:Value} (w:World) (h:Il (some si) (some ti) (some x)=some (vc,v,obs)) (hvc:vc) (hx:B5 V x xv) :
  obs=[]∧∃u,(convert s t xv).run P w=.ok u w∧B5 V v u:=by
 unfold Il at h
 split at h
 ·rename_i k1 o1 e1 b1 k o2 e2 b2 k3 a he1 he2 he3
  cases he1;cases he2;cases he3;cases h
  obtain⟨rfl,ha⟩:=Bu hx
  have hvc:Lc k a:=hvc
  have hus:P.underlying s=some (.int k1):=hs.2
  have hut:P.underlying t=some (.int k):=ht.2
  refine⟨rfl,.int k a,?_,BQ hvc⟩
  simp[convert,run_underlying hus,run_underlying hut,Conv.intToInt,JV hvc]
 ·cases h
theorem A4a (hL:∀n,V.L n→∃o,A4 V o (V.ρ n)) {x:AV} {xv:Value} {t ty:TypeId} (hT:ED P tb t ti) (w:World) (h:RH (some ti) (some x)=some (vc,v,obs)) (hx:B5 V x xv) :
  obs=[]∧∃u,(Builtin.len_ #[t] ty #[xv]).run P w=.ok u w∧B5 V v u:=by
 have hin:∀n:Nat,n≤AP→Lc .i64 (n:Int):=fun n hn=>by
  simp[Lc,IntKind.min,IntKind.max,IntKind.signed,IntKind.bits]
  simp[AP]at hn
  omega
 unfold RH at h
 split at h
 ·rename_i e o el b e2 l he1 he2
  cases he1;cases he2;cases h
  obtain⟨cs,⟨a,c,rfl,h1,h2,_⟩,rfl⟩:=hx
  have hu:=hT.2.1
  exact⟨rfl,.int .i64 (List.length l:Int),by simp[Builtin.len_,run_underlying hu,goInt,Ty.wrap],BQ (hin _ h2)⟩
 ·rename_i e o el b n e2 lo hi he1 he2
  cases he1;cases he2;cases h
  obtain⟨hLn,a,m,c,hρ,hlo,hhi,a',c',rfl,hc',h0,h1⟩:=hx
  have hu:=hT.2.1
  obtain⟨oo,ho⟩:=hL n hLn
  obtain⟨_,_,_,_,this⟩:=Ux ho hρ
  exact⟨rfl,.int .i64 ((hi-lo:Nat):Int),by simp[Builtin.len_,run_underlying hu,goInt],BQ (hin _ (by omega))⟩
 ·rename_i e o el b n e2 i len he1 he2
  cases he1;cases he2;cases h
  obtain⟨hLn,vs,a,c,hvs,hvi,rfl⟩:=hx
  have hu:=hT.2.1
  obtain⟨oo,ho⟩:=hL n hLn
  have:=zS ho hvs hvi rfl
  exact⟨rfl,.int .i64 (len:Int),by simp[Builtin.len_,run_underlying hu,goInt],BQ (hin _ this)⟩
 ·rename_i e o el b he1 he2
  cases he1;cases he2;cases h
  have hx:xv=_:=hx
  subst hx
  have hu:=hT.2.1
  exact⟨rfl,.int .i64 0,by simp[Builtin.len_,run_underlying hu,goInt],BQ (hin 0 (by simp))⟩
 ·rename_i o el b s he1 he2
  cases he1;cases he2;cases h
  obtain⟨rfl,h1⟩:=GI hx
  have hu:P.underlying t=some .string:=hT.2
  exact⟨rfl,.int .i64 (s.size:Int),by simp[Builtin.len_,run_underlying hu,goInt],BQ (hin _ h1)⟩
 ·cases h
theorem pK {i:Nat} {x:AV} {xv:Value} (w:World) (h:EE i (some x)=some (vc,v,obs)) (hx:B5 V x xv) :
  obs=[]∧∃u,(Instr.extract xv i).run P w=.ok u w∧B5 V v u:=by
 have get:∀(l:List AV) (vs:List Value) (i:Nat) (y:AV),Io V l vs→l[i]?=some y→∃u,vs[i]?=some u∧R7 V y u∧B5 V y u:=by
  intro l
  induction l with
  | nil=>intro vs i y _ h;simp at h
  | cons z r ih =>
   intro vs i y hv h
   obtain⟨u,vs',rfl,h1,h2⟩:=hv
   cases i with
   | zero =>
    simp at h;subst h
    refine⟨u,rfl,h1,?_⟩
    cases z<;>first|exact h1|exact h1.elim
   | succ i=>exact ih vs' i y h2 (by simpa using h)
 unfold EE at h
 split at h
 ·rename_i l he
  cases he
  obtain⟨vs,rfl,hv⟩:=hx
  cases hl:l[i]? with
  | none=>rw[hl]at h;simp[GH]at h
  | some y =>
   rw[hl]at h;simp only[GH]at h;cases h
   obtain⟨u,hu,_,hr⟩:=get l vs i _ hv hl
   exact⟨rfl,u,by simp[Instr.extract,hu],hr⟩
 ·cases h
theorem A4b {x y:AV} {xv yv:Value} {ts:Array TypeId} {ty:TypeId} (w:World) (h:PA (some x) (some y)=some (vc,v,obs)) (hx:B5 V x xv) (hy:B5 V y yv) :
  obs=[]∧∃u,(Builtin.min_ ts ty #[xv,yv]).run P w=.ok u w∧B5 V v u:=by
 unfold PA at h
 split at h
 ·rename_i k a k' b he1 he2
  cases he1;cases he2
  split at h
  ·rename_i hk
   subst hk;cases h
   obtain⟨rfl,ha⟩:=Bu hx
   obtain⟨rfl,hb⟩:=Bu hy
   have ha:Lc k a:=ha
   have hb:Lc k b:=hb
   refine⟨rfl,.int k (if (b:Int)<a then b else a),by simp[Builtin.min_,Builtin.min2],BQ ?_⟩
   split
   ·exact hb
   ·exact ha
  ·cases h
 ·cases h
theorem A4c {x y:AV} {xv yv:Value} {ts:Array TypeId} {ty:TypeId} (w:World) (h:PB (some x) (some y)=some (vc,v,obs)) (hx:B5 V x xv) (hy:B5 V y yv) :
  obs=[]∧∃u,(Builtin.max_ ts ty #[xv,yv]).run P w=.ok u w∧B5 V v u:=by
 unfold PB at h
 split at h
 ·rename_i k a k' b he1 he2
  cases he1;cases he2
  split at h
  ·rename_i hk
   subst hk;cases h
   obtain⟨rfl,ha⟩:=Bu hx
   obtain⟨rfl,hb⟩:=Bu hy
   have ha:Lc k a:=ha
   have hb:Lc k b:=hb
   refine⟨rfl,.int k (if (a:Int)<b then b else a),by simp[Builtin.max_,Builtin.max2],BQ ?_⟩
   split
   ·exact hb
   ·exact ha
  ·cases h
 ·cases h
theorem A3b {t:TypeId} (hu:P.underlying t=some .string) (w:World) {s:ByteArray} {kd:IntKind} {k:Int} (h0:0≤k) (h1:k<(s.size:Int)) :
  (Instr.index t (.string s) (.int kd k)).run P w=.ok (.int .u8 ((s.data.getD k.toNat 0).toNat:Int)) w∧Lc .u8 ((s.data.getD k.toNat 0).toNat:Int):=by
 have hlt:k.toNat<s.size:=by omega
 have hlt':k.toNat<s.data.size:=hlt
 have hg:s[k.toNat]?=some (s.data.getD k.toNat 0):=by
  rw[getElem?_pos s k.toNat hlt]
  simp only[Array.getD,hlt',dite_true]
  rfl
 refine⟨by simp[Instr.index,asIntOf,run_underlying hu,h0,hg],?_⟩
 generalize s.data.getD k.toNat 0=b
 have:=b.toNat_lt
 simp[Lc,IntKind.min,IntKind.max,IntKind.signed,IntKind.bits]
 omega
theorem t6 {t:TypeId} {x y:AV} {xv yv:Value} (hT:ED P tb t ti) (w:World) (h:EA (some ti) (some x) (some y)=some (vc,v,obs)) (hvc:vc) (hx:B5 V x xv) (hy:B5 V y yv) :
  obs=[]∧∃u,(Instr.index t xv yv).run P w=.ok u w∧B5 V v u:=by
 unfold EA at h
 split at h
 ·rename_i o el b s kd k he1 he2 he3
  cases he1;cases he2;cases he3;cases h
  obtain⟨rfl,_⟩:=GI hx
  obtain⟨rfl,_⟩:=Bu hy
  have hu:P.underlying t=some .string:=hT.2
  obtain⟨h1,h2⟩:=A3b (P:=P) hu w (kd:=kd) hvc.1 hvc.2
  exact⟨rfl,_,h1,BQ h2⟩
 ·cases h
theorem A4d {x:AV} {xv:Value} (h:R6 (some x)=some (vc,v,obs)) (hx:B5 V x xv):obs=[]∧(∃ad,xv=.pointer (some ad))∧B5 V v xv:=by
 unfold R6 at h
 split at h
 ·rename_i he;cases he;cases h
  obtain⟨hL,b,hρ,rfl⟩:=hx
  exact⟨rfl,⟨_,rfl⟩,hL,b,hρ,rfl⟩
 ·rename_i he;cases he;cases h
  obtain⟨ad,cs,rfl,r⟩:=hx
  exact⟨rfl,⟨_,rfl⟩,ad,cs,rfl,r⟩
 ·rename_i he;cases he;cases h
  obtain⟨hL,g,m,c,hρ,hlt,rfl⟩:=hx
  exact⟨rfl,⟨_,rfl⟩,hL,g,m,c,hρ,hlt,rfl⟩
 ·cases h
end
end
/- Slices of slices and of strings. -/
section
open Go Go.RowKit
section
variable {P:Program} {tb:Tb} {id:TypeId} {ti:TI} {V:Vw} {vc:Prop} {v:AV} {obs:List (Nat×Obj)}
def Eu (a:Option Addr) (c l sz:Nat):Option Addr:=if c=l then a else a.map (·.add (l*sz))
inductive f9:Option Value→Nat→Nat→Prop
 | none (d:Nat):f9 none d d
 | some (k:IntKind) (z:Int) (d:Nat) (h:0≤z):f9 (some (.int k z)) d z.toNat
theorem t7 {el:TypeId} (hu:P.underlying id=some (.slice el)) {sz:Nat} (w:World) (hs:(sizeOf el).run P w=.ok sz w) {a:Option Addr} {n c l h:Nat} {lo hi:Option Value}
  (hl:f9 lo 0 l) (hh:f9 hi n h) (h1:l≤h) (h2:h≤c) :
  (Instr.sliceAt id (.slice a n c) lo hi none).run P w=.ok (.slice (Eu a c l sz) (h-l) (c-l)) w:=by
 cases hl with
 | none =>
  cases hh with
  | none=>simp[Instr.sliceAt,run_underlying hu,Instr.slice,Instr.sliceBounds,hs,Eu]
  | some k z _ hz =>
   have e:z≤(c:Int):=by omega
   simp[Instr.sliceAt,run_underlying hu,Instr.slice,Instr.sliceBounds,Instr.sliceBound,asIntOf,hs,Eu,hz,e]
 | some k z _ hz =>
  cases hh with
  | none =>
   have e:z≤(n:Int):=by omega
   simp[Instr.sliceAt,run_underlying hu,Instr.slice,Instr.sliceBounds,Instr.sliceBound,asIntOf,hs,Eu,hz,e]
  | some k' z' _ hz' =>
   have e:z'≤(c:Int):=by omega
   have e2:max z' 0=z':=by omega
   have e3:z≤z':=by omega
   simp[Instr.sliceAt,run_underlying hu,Instr.slice,Instr.sliceBounds,Instr.sliceBound,asIntOf,hs,Eu,hz,hz',e,e2,e3]
theorem A3c (hu:P.underlying id=some .string) (w:World) {s:ByteArray} {l h:Nat} {lo hi:Option Value} (hl:f9 lo 0 l) (hh:f9 hi s.size h) (h1:l≤h) (h2:h≤s.size) :
  (Instr.sliceAt id (.string s) lo hi none).run P w=.ok (.string (s.extract l h)) w:=by
 cases hl with
 | none =>
  cases hh with
  | none=>simp[Instr.sliceAt,run_underlying hu,Instr.slice,Instr.sliceBounds]
  | some k z _ hz =>
   have e:z≤(s.size:Int):=by omega
   simp[Instr.sliceAt,run_underlying hu,Instr.slice,Instr.sliceBounds,Instr.sliceBound,asIntOf,hz,e]
 | some k z _ hz =>
  cases hh with
  | none =>
   have e:z≤(s.size:Int):=by omega
   simp[Instr.sliceAt,run_underlying hu,Instr.slice,Instr.sliceBounds,Instr.sliceBound,asIntOf,hz,e]
  | some k' z' _ hz' =>
   have e:z'≤(s.size:Int):=by omega
   have e2:max z' 0=z':=by omega
   have e3:z≤z':=by omega
   simp[Instr.sliceAt,run_underlying hu,Instr.slice,Instr.sliceBounds,Instr.sliceBound,asIntOf,hz,hz',e,e2,e3]
theorem z5 {e:Ty} {xs:List e.den} {a:Option Addr} {n c l h:Nat} (hr:Bj V.w V.O (.slice e) [.slice a n c] xs) (h1:l≤h) (h2:h≤xs.length) :
  Bk V.w V.O (.slice e) (.slice (Eu a c l e.size) (h-l) (c-l)) (sub xs l h)∧n=xs.length∧h≤c:=by
 obtain⟨a',c',hv,h3,h4,h5⟩:=hr
 injection hv with hv
 injection hv with e1 e2 e3
 subst e1;subst e2;subst e3
 have hl:=Mo xs (lo:=l) h2
 refine⟨⟨_,⟨Eu a c l e.size,c-l,by rw[hl],by rw[hl];omega,by rw[hl];omega,?_⟩,rfl⟩,rfl,by omega⟩
 by_cases hlt:l<h
 ·right
  rcases h5 with h5|⟨ad,rfl,hO,hel⟩
  ·subst h5;simp at h2;omega
  ·refine⟨ad.add (l*e.size),?_,by rw[B3];exact hO,fun i x hi=>?_⟩
   ·have:¬c=l:=by omega
    simp[Eu,this]
   ·obtain⟨hx,_⟩:=Wq xs l h i hi
    obtain⟨es,hes,hc,hr⟩:=hel (l+i) x hx
    refine⟨es,hes,fun j u hj=>?_,hr⟩
    have:=hc j u hj
    rw[C0]
    rwa [Nat.add_mul,Nat.add_assoc]at this
 ·left
  exact List.eq_nil_of_length_eq_zero (by rw[hl];omega)
theorem t8 {loc:Value} {sz b c0 l h:Nat} {a:Option Addr} {n c:Nat} (hv:DC loc sz b c0 (.slice a n c)) (h1:l≤h) (h2:h≤c0-b) :
  DC loc sz (b+l) (b+h) (.slice (Eu a c l sz) (h-l) (c-l))∧n=c0-b∧h≤c:=by
 obtain⟨a0,m,cc,hloc,hb,hc0,a',c',hvv,hc',h3,h4⟩:=hv
 injection hvv with e1 e2 e3
 subst e1;subst e2;subst e3
 refine⟨⟨a0,m,cc,hloc,by omega,by omega,Eu a c l sz,c-l,by rw[show b+h-(b+l)=h-l by omega],by omega,fun hz=>?_,fun hlt=>?_⟩,rfl,by omega⟩
 ·have hb0:b=0:=by omega
  have hl0:l=0:=by omega
  subst hb0;subst hl0
  obtain⟨r1,r2⟩:=h3 rfl
  refine⟨?_,by omega⟩
  rw[←r1]
  unfold Eu
  split
  ·rfl
  ·simp only[Nat.zero_mul]
   cases a<;>rfl
 ·have:=h4 (by omega)
  subst this
  have hne:¬c=l:=by omega
  simp only[Eu,if_neg hne,Option.map_map]
  congr 1
  funext ad
  simp only[Function.comp]
  rw[C0,Nat.add_mul]
theorem RI (s:ByteArray) (l h:Nat):(s.extract l h).size≤s.size:=by
 simp only[ByteArray.size_extract]
 omega
theorem SD (hT:ED P tb id ti) (hTb:Dp P tb) {e:Ty} (he:ti.ty=.slice e) {l:List e.den} {xv:Value} {lo hi:Option Value} {a h:Nat}
  (hx:Bk V.w V.O (.slice e) xv l) (hl:f9 lo 0 a) (hh:f9 hi l.length h) (h1:a≤h) (h2:h≤l.length) :
  ∃u,(Instr.sliceAt id xv lo hi none).run P V.w=.ok u V.w∧B5 V (.p (.slice e) (sub l a h)) u:=by
 obtain⟨ty,offs,el,bytes⟩:=ti
 simp only at he
 subst he
 obtain⟨hu,hs,_⟩:=Cm hT hTb
 obtain⟨cs,hr,rfl⟩:=hx
 obtain⟨a0,c,rfl,r⟩:=hr
 have hr:Bj V.w V.O (.slice e) [.slice a0 l.length c] l:=⟨a0,c,rfl,r⟩
 obtain⟨h3,_,h4⟩:=z5 hr h1 h2
 exact⟨_,t7 hu _ (hs _) hl hh h1 h4,h3⟩
theorem SE (hT:ED P tb id ti) (hTb:Dp P tb) {n b c0:Nat} {e:Ty} (he:ti.ty=.slice e) {xv:Value} {lo hi:Option Value} {a h:Nat}
  (hx:B5 V (.sr n e b c0) xv) (hl:f9 lo 0 a) (hh:f9 hi (c0-b) h) (h1:a≤h) (h2:h≤c0-b) :
  ∃u,(Instr.sliceAt id xv lo hi none).run P V.w=.ok u V.w∧B5 V (.sr n e (b+a) (b+h)) u:=by
 obtain⟨ty,offs,el,bytes⟩:=ti
 simp only at he
 subst he
 obtain⟨hu,hs,_⟩:=Cm hT hTb
 obtain⟨hLn,hv⟩:=hx
 have hv':=hv
 obtain⟨_,_,_,_,_,_,a',c',rfl,_⟩:=hv'
 obtain⟨h3,h4,h5⟩:=t8 hv h1 h2
 exact⟨_,t7 hu _ (hs _) hl hh h1 h5,hLn,h3⟩
theorem SF (hT:ED P tb id ti) (he:ti.ty=.str) {s:ByteArray} {xv:Value} {lo hi:Option Value} {a h:Nat}
  (hx:Bk V.w V.O .str xv s) (hl:f9 lo 0 a) (hh:f9 hi s.size h) (h1:a≤h) (h2:h≤s.size) :
  ∃u,(Instr.sliceAt id xv lo hi none).run P V.w=.ok u V.w∧B5 V (.p .str (s.extract a h)) u:=by
 obtain⟨rfl,hm⟩:=GI hx
 have hu:=hT.2
 rw[he]at hu
 exact⟨_,A3c hu _ hl hh h1 h2,SC (Nat.le_trans (RI s a h) hm)⟩
theorem IK {z:Int} {n:Nat} (_h:0≤z) (h2:z≤(n:Int)):z.toNat≤n:=by omega
theorem Wv {a b:Int} (h:a≤b):a.toNat≤b.toNat:=by omega
def Yg:Option AV→Option Value→Prop
 | none,none=>True
 | some x,some v=>B5 V x v
 | _,_=>False
theorem z6 (hT:ED P tb id ti) (hTb:Dp P tb) {x:AV} {xv:Value} {lo hi:Option AV} {lov hiv:Option Value}
  (h:Ey (some ti) (some x) (some lo) (some hi)=some (vc,v,obs)) (hvc:vc) (hx:B5 V x xv) (hlo:Yg (V:=V) lo lov) (hhi:Yg (V:=V) hi hiv) :
  obs=[]∧∃u,(Instr.sliceAt id xv lov hiv none).run P V.w=.ok u V.w∧B5 V v u:=by
 have b0:∀ {o:Option Value} (d:Nat),Yg (V:=V) none o→f9 o d d:=fun {o} d h=>by
  cases o with
  | none=>exact .none d
  | some v=>exact h.elim
 have b1:∀ {o:Option Value} {k:IntKind} {z:Int} (d:Nat),Yg (V:=V) (some (.p (.int k) z)) o→0≤z→f9 o d z.toNat:=fun {o k z} d h hz=>by
  cases o with
  | none=>exact h.elim
  | some v =>
   obtain⟨rfl,_⟩:=Bu (h:Bk V.w V.O (.int k) v z)
   exact .some k z d hz
 unfold Ey at h
 split at h
 ·rename_i e offs el bytes e' l a0 h0 he1 he2 he3 he4
  cases he1;cases he2;cases he3;cases he4
  split at h
  ·rename_i hee
   subst hee
   have hx:Bk V.w V.O (.slice e) xv l:=hx
   unfold G0 at h
   split at h<;>first|(cases h;done)|(rename_i g1;cases g1<;>cases h)
   ·exact⟨rfl,SD hT hTb rfl hx (b0 0 hlo) (b1 _ hhi hvc.1) (Nat.zero_le _) (IK hvc.1 hvc.2)⟩
   ·exact⟨rfl,SD hT hTb rfl hx (b1 0 hlo hvc.1) (b0 _ hhi) (IK hvc.1 hvc.2) (Nat.le_refl _)⟩
   ·exact⟨rfl,SD hT hTb rfl hx (b1 0 hlo hvc.1) (b1 _ hhi (Int.le_trans hvc.1 hvc.2.1)) (Wv hvc.2.1) (IK (Int.le_trans hvc.1 hvc.2.1) hvc.2.2)⟩
  ·cases h
 ·rename_i e offs el bytes n e' b c0 a0 h0 he1 he2 he3 he4
  cases he1;cases he2;cases he3;cases he4
  split at h
  ·rename_i hee
   subst hee
   unfold G0 at h
   split at h<;>first|(cases h;done)|(rename_i g1;cases g1<;>cases h)
   ·refine⟨rfl,?_⟩
    have:=SE (P:=P) hT hTb rfl hx (b0 0 hlo) (b1 _ hhi hvc.1) (Nat.zero_le _) (IK hvc.1 hvc.2)
    simpa using this
   ·refine⟨rfl,?_⟩
    have:=SE (P:=P) hT hTb rfl hx (b1 0 hlo hvc.1) (b0 _ hhi) (IK hvc.1 hvc.2) (Nat.le_refl _)
    have hle:=IK hvc.1 hvc.2
    obtain⟨_,_,_,_,_,hbc,_⟩:=hx
    rw[show b+(c0-b)=c0 by omega]at this
    exact this
   ·exact⟨rfl,SE hT hTb rfl hx (b1 0 hlo hvc.1) (b1 _ hhi (Int.le_trans hvc.1 hvc.2.1)) (Wv hvc.2.1) (IK (Int.le_trans hvc.1 hvc.2.1) hvc.2.2)⟩
  ·cases h
 ·rename_i offs el bytes s a0 h0 he1 he2 he3 he4
  cases he1;cases he2;cases he3;cases he4
  have hx:Bk V.w V.O .str xv s:=hx
  unfold G0 at h
  split at h<;>first|(cases h;done)|(rename_i g1;cases g1<;>cases h)
  ·exact⟨rfl,SF hT rfl hx (b0 0 hlo) (b1 _ hhi hvc.1) (Nat.zero_le _) (IK hvc.1 hvc.2)⟩
  ·exact⟨rfl,SF hT rfl hx (b1 0 hlo hvc.1) (b0 _ hhi) (IK hvc.1 hvc.2) (Nat.le_refl _)⟩
  ·exact⟨rfl,SF hT rfl hx (b1 0 hlo hvc.1) (b1 _ hhi (Int.le_trans hvc.1 hvc.2.1)) (Wv hvc.2.1) (IK (Int.le_trans hvc.1 hvc.2.1) hvc.2.2)⟩
 ·cases h
end
end
end Go.Proofs.YtebfihindnhccaaGreat.Fw
