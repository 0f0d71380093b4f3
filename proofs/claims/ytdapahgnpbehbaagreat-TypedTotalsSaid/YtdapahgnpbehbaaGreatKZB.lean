/- The executor's quiet operations are sound, first part. -/
import Derived.Test.YtdapahgnpbehbaaGreatKZA
import Derived.Laws.IdiomStrings
set_option linter.unusedVariables false
set_option linter.unusedSimpArgs false
namespace Go.Proofs.YtdapahgnpbehbaaGreat.Fw
section
open Go Go.RowKit
theorem OX {w:World} {O:Nat→Prop}:∀ {t:Ty} {k:Nat} {d:t.den} {pv:PV} {cs:List Value},Gh t k d=some pv→Br w O t cs d →
  VX t k=some pv.t∧∃o,Jh t k=some o∧o+pv.t.size≤t.size∧Br w O pv.t ((cs.drop o).take pv.t.size) pv.d
 | .prod a b,0,d,pv,cs,h,hr=>by
  simp only[Gh]at h;cases h;obtain⟨c1,c2,rfl,h1,e⟩:=hr;refine⟨rfl,0,rfl,by simp[Ty.size],?_⟩;have c:=h1.length;simp only[AAj,←c,List.take_left];exact h1
 | .prod a b,k+1,d,pv,cs,h,hr=>by
  simp only[Gh]at h;obtain⟨c1,c2,rfl,h1,e⟩:=hr;obtain⟨f,o,g,j,i⟩:=OX h e;refine⟨f,a.size+o,by simp[Jh,g],by simp[Ty.size];omega,?_⟩;have c:=h1.length;rw[←c,←ABJ,List.drop_left];exact i
 | .int _,0,d,pv,cs,h,hr=>by
  simp only[Gh]at h;cases h;refine⟨rfl,0,rfl,by simp,?_⟩;have c:=hr.length;simp only[AAj,←c,f5];exact hr
 | .bool,0,d,pv,cs,h,hr=>by
  simp only[Gh]at h;cases h;refine⟨rfl,0,rfl,by simp,?_⟩;have c:=hr.length;simp only[AAj,←c,f5];exact hr
 | .str,0,d,pv,cs,h,hr=>by
  simp only[Gh]at h;cases h;refine⟨rfl,0,rfl,by simp,?_⟩;have c:=hr.length;simp only[AAj,←c,f5];exact hr
 | .slice _,0,d,pv,cs,h,hr=>by
  simp only[Gh]at h;cases h;refine⟨rfl,0,rfl,by simp,?_⟩;have c:=hr.length;simp only[AAj,←c,f5];exact hr
 | .ref _,0,d,pv,cs,h,hr=>by
  simp only[Gh]at h;cases h;refine⟨rfl,0,rfl,by simp,?_⟩;have c:=hr.length;simp only[AAj,←c,f5];exact hr
 | .ref _,_+1,d,pv,cs,h,hr=>by simp[Gh]at h
 | .agg _,0,d,pv,cs,h,hr=>by
  simp only[Gh]at h;cases h;refine⟨rfl,0,rfl,by simp,?_⟩;have c:=hr.length;simp only[AAj,←c,f5];exact hr
 | .int _,_+1,d,pv,cs,h,hr=>by simp[Gh]at h
 | .bool,_+1,d,pv,cs,h,hr=>by simp[Gh]at h
 | .str,_+1,d,pv,cs,h,hr=>by simp[Gh]at h
 | .slice _,_+1,d,pv,cs,h,hr=>by simp[Gh]at h
 | .agg _,_+1,d,pv,cs,h,hr=>by simp[Gh]at h
theorem mN {α:Type} (cs:List α) (o m a n:Nat) (h:a+n≤m):(((cs.drop o).take m).drop a).take n=(cs.drop (o+a)).take n:=by
 rw[List.drop_take,ABq,ABJ]
 congr 1
 omega
theorem S0 {w:World} {O:Nat→Prop}:∀ {e:List Nat} {t:Ty} {d:t.den} {pv:PV} {cs:List Value} {off:Nat},QD e t d=some pv→LX e t=some off→Br w O t cs d →
  off+pv.t.size≤t.size∧Br w O pv.t ((cs.drop off).take pv.t.size) pv.d
 | [],t,d,pv,cs,off,h,a,hr=>by
  simp only[QD]at h;simp only[LX]at a;cases h;cases a;have c:=hr.length;simp only[AAj,←c,f5];exact⟨by simp[c],hr⟩
 | k :: r,t,d,pv,cs,off,h,a,hr=>by
  cases t<;>simp only[QD,LX]at h a<;>try(cases h;done)
  rename_i t;split at h
  ·rename_i p hp;have hr:Br w O t cs d:=hr;obtain⟨h1,o,f,l,g⟩:=OX hp hr;rw[h1,f]at a;simp only[Is]at a;obtain⟨m,j,rfl⟩:=a;obtain⟨i,b⟩:=S0 h j g;refine⟨by simp only[Ty.size];omega,?_⟩;rw[mN _ _ _ _ _ i]at b;exact b
  ·cases h
def Az {α:Type} (cs:List α) (o:Nat) (a:List α):List α:=cs.take o++a++cs.drop (o+a.length)
theorem E3 {α:Type} {cs:List α} {o:Nat} {a:List α} (h:o+a.length≤cs.length):(Az cs o a).length=cs.length:=by
 simp[Az];omega
theorem Dm {α:Type} {cs a:List α} (h:a.length=cs.length):Az cs 0 a=a:=by
 simp[Az,h]
theorem OY {α:Type} (a b:List α) (o:Nat) (c:List α):Az (a++b) (a.length+o) c=a++Az b o c:=by
 simp only[Az,List.take_append,ACE,AAt];have h1:List.take (a.length+o) a=a:=As (by omega);have d:List.drop (a.length+o+c.length) a=[]:=IF (by omega);have e:a.length+o-a.length=o:=by omega
 have f:a.length+o+c.length-a.length=o+c.length:=by omega
 rw[h1,d,e,f];simp
theorem RJ {α:Type} (a b:List α) (c:List α) (h:c.length=a.length):Az (a++b) 0 c=c++b:=by
 simp[Az,h]
theorem ZF {w:World} {O:Nat→Prop}:∀ {t:Ty} {k:Nat} {d g:t.den} {pv:PV} {cs f:List Value} {o:Nat},Ld t k d pv=some g→Jh t k=some o→Br w O t cs d→Br w O pv.t f pv.d →
  Br w O t (Az cs o f) g∧VX t k=some pv.t
 | .prod a b,0,d,g,pv,cs,f,o,h,c,hr,e=>by
  simp only[Ld,Is]at h;obtain⟨y,j,rfl⟩:=h;have:=BB j;subst this;simp only[Jh]at c;cases c;obtain⟨c1,c2,rfl,h1,i⟩:=hr;rw[RJ _ _ _ (by rw[e.length,h1.length])];exact⟨⟨f,c2,rfl,e,i⟩,rfl⟩
 | .prod a b,k+1,d,g,pv,cs,f,o,h,c,hr,e=>by
  simp only[Ld,Is]at h;obtain⟨y,j,rfl⟩:=h;simp only[Jh,Is]at c;obtain⟨p,n,rfl⟩:=c;obtain⟨c1,c2,rfl,h1,i⟩:=hr;obtain⟨l,m⟩:=ZF j n i e;rw[←h1.length,OY];exact⟨⟨c1,_,rfl,h1,l⟩,m⟩
 | .int _,0,d,g,pv,cs,f,o,h,c,hr,e=>by
  have:=BB h;subst this;simp only[Jh]at c;cases c;rw[Dm (by rw[e.length,hr.length])];exact⟨e,rfl⟩
 | .bool,0,d,g,pv,cs,f,o,h,c,hr,e=>by
  have:=BB h;subst this;simp only[Jh]at c;cases c;rw[Dm (by rw[e.length,hr.length])];exact⟨e,rfl⟩
 | .str,0,d,g,pv,cs,f,o,h,c,hr,e=>by
  have:=BB h;subst this;simp only[Jh]at c;cases c;rw[Dm (by rw[e.length,hr.length])];exact⟨e,rfl⟩
 | .slice _,0,d,g,pv,cs,f,o,h,c,hr,e=>by
  have:=BB h;subst this;simp only[Jh]at c;cases c;rw[Dm (by rw[e.length,hr.length])];exact⟨e,rfl⟩
 | .ref _,0,d,g,pv,cs,f,o,h,c,hr,e=>by
  have:=BB h;subst this;simp only[Jh]at c;cases c;rw[Dm (by rw[e.length,hr.length])];exact⟨e,rfl⟩
 | .ref _,_+1,d,g,pv,cs,f,o,h,c,hr,e=>by simp[Ld]at h
 | .agg _,0,d,g,pv,cs,f,o,h,c,hr,e=>by
  have:=BB h;subst this;simp only[Jh]at c;cases c;rw[Dm (by rw[e.length,hr.length])];exact⟨e,rfl⟩
 | .int _,_+1,d,g,pv,cs,f,o,h,c,hr,e=>by simp[Ld]at h
 | .bool,_+1,d,g,pv,cs,f,o,h,c,hr,e=>by simp[Ld]at h
 | .str,_+1,d,g,pv,cs,f,o,h,c,hr,e=>by simp[Ld]at h
 | .slice _,_+1,d,g,pv,cs,f,o,h,c,hr,e=>by simp[Ld]at h
 | .agg _,_+1,d,g,pv,cs,f,o,h,c,hr,e=>by simp[Ld]at h
theorem NJ {α:Type} (cs:List α) (o m a:Nat) (b:List α) (h:a+b.length≤m) (l:o+m≤cs.length) :
  Az cs o (Az ((cs.drop o).take m) a b)=Az cs (o+a) b:=by
 apply ABU;intro j;have d:(Az ((cs.drop o).take m) a b).length=m:=by rw[E3]<;>simp<;>omega
 simp only[Az]at d ⊢;rw[d];simp only[AAk,OR,SH,AAV,AA0,AAi];have e:min o cs.length=o:=by omega
 have f:min m (cs.length-o)=m:=by omega
 have g:min a m=a:=by omega
 have i:min (o+a) cs.length=o+a:=by omega
 rw[e,f,g,i];by_cases c1:j<o
 ·have:j<o+(a+b.length+(m-(a+b.length))):=by omega
  simp[c1,this,show j<o+a by omega,show j<o+a+b.length by omega]
 ·by_cases c2:j<o+a
  ·simp[c1,c2,show j-o<a by omega,show j-o<m by omega,show j<o+(a+b.length+(m-(a+b.length))) by omega,show j<o+a+b.length by omega,show j-o<a+b.length by omega,show o+(j-o)=j by omega]
  ·by_cases c:j<o+a+b.length
   ·simp[c1,c2,c,show ¬j-o<a by omega,show j<o+(a+b.length+(m-(a+b.length))) by omega,show j-o<a+b.length by omega,show j-o-a=j-(o+a) by omega]
   ·by_cases k:j<o+m
    ·simp[c1,c2,c,show ¬j-o<a by omega,show ¬j-o<a+b.length by omega,show j<o+(a+b.length+(m-(a+b.length))) by omega,show a+b.length+(j-o-(a+b.length))<m by omega]
     congr 1
     omega
    ·simp[c1,c2,c,show ¬j<o+(a+b.length+(m-(a+b.length))) by omega]
     congr 1
     omega
theorem S1 {w:World} {O:Nat→Prop}:∀ {j:List Nat} {t:Ty} {d e:t.den} {pv:PV} {cs b:List Value} {off:Nat},R6 j t d pv=some e→LX j t=some off→Br w O t cs d→Br w O pv.t b pv.d →
  Br w O t (Az cs off b) e∧off+b.length≤cs.length
 | [],t,d,e,pv,cs,b,off,h,a,hr,c=>by
  have:=BB h;subst this;simp only[LX]at a;cases a;rw[Dm (by rw[c.length,hr.length])];exact⟨c,by simp[c.length,hr.length]⟩
 | k :: r,t,d,e,pv,cs,b,off,h,a,hr,c=>by
  cases t<;>simp only[R6,LX]at h a<;>try(cases h;done)
  rename_i t;have hr:Br w O t cs d:=hr;split at h
  ·rename_i p hp;obtain⟨h1,o,f,u,l⟩:=OX hp hr;rw[h1,f]at a;simp only[Is]at a;obtain⟨x,q,rfl⟩:=a;split at h
   ·rename_i y s;obtain⟨m,g⟩:=S1 s q l c;have v:=hr.length;have n:((cs.drop o).take p.t.size).length=p.t.size:=by simp;omega
    rw[n]at g;obtain⟨i,_⟩:=ZF (pv:=⟨p.t,y⟩) h f hr m;rw[NJ _ _ _ _ _ g (by omega)]at i;exact⟨i,by omega⟩
   ·cases h
  ·cases h
end
section
open Go Go.RowKit
section
variable {V:Vw}
theorem M2.length {x:AV} {cs:List Value} (h:M2 V x cs):cs.length=x.cells:=by
 cases x;case p t d=>exact Br.length (show Br V.w V.O t cs d from h)
 case ag l=>obtain⟨v,_,_,hf⟩:=h;exact hf.elim
 case tup l=>obtain⟨v,_,_,hf⟩:=h;exact hf.elim
 all_goals(obtain⟨v,rfl,_⟩:=h;rfl)
theorem M2.one {x:AV} {cs:List Value} (h:M2 V x cs):∀u∈cs,u.oneCell'=true:=by
 cases x;case p t d=>exact Br.one (show Br V.w V.O t cs d from h)
 all_goals(obtain⟨v,rfl,h1,_⟩:=h;intro u hu;simp at hu;subst hu;exact h1)
theorem DQ.one:∀ {l:List AV} {cs:List Value},DQ V l cs→∀u∈cs,u.oneCell'=true
 | [],cs,h=>by have h:cs=[]:=h;subst h;simp
 | x :: r,cs,h=>by
  obtain⟨c1,c2,rfl,h1,a⟩:=h;intro u hu;rcases ON.1 hu with hu|hu
  ·exact h1.one u hu
  ·exact a.one u hu
theorem DQ.length:∀ {l:List AV} {cs:List Value},DQ V l cs→cs.length=B9 l l.length
 | [],cs,h=>by have h:cs=[]:=h;subst h;rfl
 | x :: r,cs,h=>by
  obtain⟨c1,c2,rfl,h1,a⟩:=h;simp only[OR,No,B9];rw[h1.length,a.length]
theorem DQ.get:∀ {l:List AV} {cs:List Value} {k:Nat} {x:AV},DQ V l cs→l[k]?=some x →
  B9 l k+x.cells≤cs.length∧M2 V x ((cs.drop (B9 l k)).take x.cells)
 | [],cs,k,x,h,hk=>by simp at hk
 | y :: r,cs,0,x,h,hk=>by
  obtain⟨c1,c2,rfl,h1,a⟩:=h;simp at hk;subst hk;have:=h1.length;simp only[B9,AAj,←this,List.take_left];exact⟨by simp,h1⟩
 | y :: r,cs,k+1,x,h,hk=>by
  obtain⟨c1,c2,rfl,h1,a⟩:=h;have hk:r[k]?=some x:=by simpa using hk
  obtain⟨c,b⟩:=DQ.get a hk;have:=h1.length;refine⟨by simp only[B9,OR];omega,?_⟩;simp only[B9,←this];rw[←ABJ,List.drop_left];exact b
theorem DQ.set:∀ {l:List AV} {cs:List Value} {k:Nat} {x y:AV} {a:List Value},DQ V l cs→l[k]?=some x→M2 V y a→y.cells=x.cells →
  DQ V (l.set k y) (Az cs (B9 l k) a)
 | [],cs,k,x,y,a,h,hk,b,c=>by simp at hk
 | z :: r,cs,0,x,y,a,h,hk,b,c=>by
  obtain⟨c1,c2,rfl,h1,d⟩:=h;simp at hk;subst hk;simp only[B9,ACk];rw[RJ _ _ _ (by rw[b.length,h1.length,c])];exact⟨a,c2,rfl,b,d⟩
 | z :: r,cs,k+1,x,y,a,h,hk,b,c=>by
  obtain⟨c1,c2,rfl,h1,d⟩:=h;have hk:r[k]?=some x:=by simpa using hk
  have:=h1.length;simp only[B9,ABN,←this];rw[OY];exact⟨c1,_,rfl,h1,DQ.set d hk b c⟩
theorem iL {ty:Ty} {x:AV} {b:List Value} (a:M2 V x b) (hf:CL ty x=true):b.length=ty.size∧B2 V x (ty.wrap b):=by
 cases x;case p t d =>
  simp only[CL,By]at hf;subst hf;have a:Br V.w V.O ty b d:=a;exact⟨Br.length a,b,a,rfl⟩
 case ag l=>obtain⟨v,_,_,hf⟩:=a;exact hf.elim
 case tup l=>obtain⟨v,_,_,hf⟩:=a;exact hf.elim
 all_goals
  obtain⟨v,rfl,_,h1⟩:=a;have c:ty.cell1=true:=by simp only[CL]at hf;first|exact hf|(simp only[An]at hf;exact hf.2)|exact absurd hf (by decide)
  cases ty<;>first|(cases c;done)|exact⟨rfl,h1⟩
theorem uD {ty:Ty} {x:AV} {v:Value} (g:B2 V x v) (hf:CL ty x=true) (n:ty.cell1=true→v.oneCell'=true):v.cells.size=ty.size∧((∀l,x≠.ag l)→M2 V x v.cells.toList):=by
 cases x;case p t d =>
  simp only[CL,By]at hf;subst hf;obtain⟨cs,hr,rfl⟩:=g;have f:=hr.length;cases ty;case agg t=>exact⟨by simpa[Ty.wrap,Value.cells] using f,fun _=>by simpa[Ty.wrap,Value.cells,M2] using hr⟩
  case prod a b=>exact⟨by simpa[Ty.wrap,Value.cells] using f,fun _=>by simpa[Ty.wrap,Value.cells,M2] using hr⟩
  case slice e =>
   obtain⟨a,c,rfl,h⟩:=hr;exact⟨rfl,fun _=>⟨a,c,rfl,h⟩⟩
  case int k =>
   obtain⟨rfl,h⟩:=hr;exact⟨rfl,fun _=>⟨rfl,h⟩⟩
  case bool =>
   have hr:cs=_:=hr;subst hr;exact⟨rfl,fun _=>rfl⟩
  case str =>
   obtain⟨rfl,h⟩:=hr;exact⟨rfl,fun _=>⟨rfl,h⟩⟩
  case ref k =>
   have hr:cs=[KH k]:=hr;subst hr;have o:(Ty.ref k).wrap [KH k]=KH k:=rfl;rw[o];match k with
   | 0=>exact⟨rfl,fun _=>rfl⟩
   | 1=>exact⟨rfl,fun _=>rfl⟩
   | _+2=>exact⟨rfl,fun _=>rfl⟩
 case ag l =>
  obtain⟨cs,rfl,m⟩:=g;have f:=m.length;cases ty<;>simp only[CL]at hf<;>try(cases hf;done)
  rename_i t;simp only[AA1]at hf;exact⟨by simp[Value.cells,Ty.size,f,hf],fun h=>absurd rfl (h l)⟩
 case tup l=>simp[CL]at hf
 all_goals
  have h1:ty.cell1=true:=by simp only[CL]at hf;first|exact hf|(simp only[An]at hf;exact hf.2)|exact absurd hf (by decide)
  have i:v.oneCell'=true:=n h1;have j:v.cells=#[v]:=by cases v<;>first|rfl|simp[Value.oneCell']at i
  have hs:ty.size=1:=by cases ty<;>simp[Ty.cell1]at h1<;>rfl
  rw[j];exact⟨by simp[hs],fun _=>⟨v,rfl,i,g⟩⟩
end
end
section
open Go Go.RowKit
section
variable {P:Program} {tb:Tb} {id:TypeId} {ti:TI} {w:World} {O0:Nat→Prop} {σ:St} {ρ:Nat→Value} {vc:Prop} {v:AV} {obs:List (Nat×Obj)}
theorem Vv {w:World} {base:Nat} {et:TypeId} {size:Nat} {g m c n:Nat} {cells:List Value} (h:w.ownsRow base et size (.slice (some ⟨g,0,none⟩) m c) n cells) :
  m=n∧∀(j:Nat) (u:Value),cells[j]?=some u→w.cell? ⟨g,j,none⟩=some u:=by
 constructor
 ·rcases h.2 with ⟨a,_⟩|⟨e,cap,d,a,_⟩
  ·injection a with h1;cases h1
  ·injection a
 ·intro j u b;have:=h.cells (g:=g) rfl j u b
  rwa [Y7]at this
theorem uE (hT:D0 P tb id ti) (V:∀n o,lk n σ.objs=some o→A1 (vw w O0 σ ρ) o (ρ n)) {x:AV} {xv:Value}
  (h:Im σ (some ti) (some x)=some (vc,v,obs)) (W:B2 (vw w O0 σ ρ) x xv):obs=[]∧∃u,(Instr.loadAt id xv).run P w=.ok u w∧B2 (vw w O0 σ ρ) v u:=by
 unfold Im at h;split at h
 ·rename_i n Y off N O;cases N;cases O;obtain⟨aa,b,z,rfl⟩:=W;cases hn:lk n σ.objs with
  | none=>rw[hn]at h;simp[EJ]at h
  | some o =>
   rw[hn]at h;cases o with
   | arr et e xs=>simp[EJ]at h
   | mapo k v l=>simp[EJ]at h
   | frame bg fs=>simp[EJ]at h
   | loop L=>simp[EJ]at h
   | itr bb be bc bd az=>simp[EJ]at h
   | dfr=>simp[EJ]at h
   | nest et ba k e xs a=>simp[EJ]at h
   | box et R fs =>
    simp only[EJ]at h;cases a:Ik R fs Y with
    | none=>rw[a]at h;simp[HS]at h
    | some y =>
     rw[a]at h;simp only[HS]at h;split at h
     ·rename_i H;obtain⟨C,D⟩:=H;cases h;obtain⟨bk,b',cs,s,ao,M⟩:=V n _ hn;have z:ρ n=_:=z;rw[z]at s;injection s with s
      injection s with s
      injection s with s
      subst s;have B:∀(I:List Value) (o:Nat),I=(cs.drop o).take I.length→∀(j:Nat) (u:Value),I[j]?=some u→w.cell? ((⟨b,o,none⟩:Addr).add j)=some u:=by
       intro I o ae j u f;rw[Jg,cell_of_row w b (o+j) cs.toArray et (0,0) ao];rw[ae,AA0,AAi]at f;split at f
       ·simpa using f
       ·cases f
      refine⟨rfl,?_⟩;unfold Ik at a;split at a
      · -- the whole
       simp only[NW]at D;cases D;cases R with
       | true =>
        simp only[AAC]at a;cases a;have bi:=M.length;cases p:ti.ty<;>rw[p]at C<;>simp only[CL]at C<;>try(cases C;done)
        rename_i t;simp only[AA1]at C;have aw:cs.length=ti.ty.size:=by rw[p];simp only[Ty.size];omega
        have:=Ec w hT aw (B cs 0 (by simp));refine⟨_,this,cs,?_,M⟩;rw[p];rfl
       | false =>
        simp only[AAJ,AAU]at a;have ay:B9 fs 0=0:=by cases fs<;>rfl
        obtain⟨h1,q⟩:=M.get a;rw[ay]at q;obtain⟨F,J⟩:=iL q C;have:=Ec w hT F (B _ 0 (by rw[q.length]));exact⟨_,this,J⟩
      · -- a field
       rename_i k;cases R with
       | false=>simp at a
       | true =>
        simp only[AAC]at a;obtain⟨h1,q⟩:=M.get a;obtain⟨F,J⟩:=iL q C;have au:off=B9 fs k:=by
         simp only[NW,a]at D;cases v<;>simp only[LX,AAY,List.isEmpty_nil,AAC]at D<;>cases D<;>rfl
        subst au;have:=Ec w hT F (B _ (B9 fs k) (by rw[q.length]));exact⟨_,this,J⟩
      ·rename_i k r hr;cases R with
       | false=>simp at a
       | true =>
        simp only[AAC]at a;split at a
        ·rename_i t d hk;simp only[Is]at a;obtain⟨pv,av,rfl⟩:=a;simp only[NW,hk,Is]at D;obtain⟨bf,ar,rfl⟩:=D;obtain⟨h1,q⟩:=M.get hk;have q:Br w (own O0 σ ρ) t _ d:=q;obtain⟨Z,G⟩:=S0 av ar q;simp only[AV.cells]at h1 G;rw[mN _ _ _ _ _ Z]at G;simp only[CL,By]at C;have S:=G.length;have:=Ec w hT (by rw[C];exact S) (B _ (B9 fs k+bf) (by rw[S]));rw[C]at this;exact⟨_,this,_,G,rfl⟩
        ·cases a
     ·cases h
 ·rename_i n e i Y off N O;cases N;cases O;obtain⟨aa,g,m,c,z,Q,rfl⟩:=W;cases hn:lk n σ.objs with
  | none=>rw[hn]at h;simp[EK]at h
  | some o =>
   rw[hn]at h;cases o with
   | box et R fs=>simp[EK]at h
   | mapo k v l=>simp[EK]at h
   | frame bg fs=>simp[EK]at h
   | loop L=>simp[EK]at h
   | itr bb be bc bd az=>simp[EK]at h
   | dfr=>simp[EK]at h
   | nest et ba k A xs a =>
    cases a with
    | some j=>simp[EK]at h
    | none =>
     simp only[EK]at h;split at h
     ·rename_i al;subst al;obtain⟨o,ins,cells,s,U⟩:=V n _ hn;have z:plc (ρ n)=_:=z;have aq:plc (ρ n)=o:=s.plc;have E:=U.own;rw[←aq,z]at E;obtain⟨rfl,B⟩:=Vv E;have X:xs[i]?=some (xs.getD i (k.dflt,[])):=by
       rw[AT Q,AS,AT Q];rfl
      have T:i<ins.length:=by rw[U.len];exact Q
      obtain⟨c1,v1,ab,ag,F⟩:=U.row i _ ins[i] X (AT T);rcases F with ⟨F,_⟩|⟨_,ah,J⟩
      ·cases F
      ·have af:c1.length=k.size:=ag.length;unfold Lg at h;split at h
       ·split at h
        ·rename_i K;obtain⟨p,rfl⟩:=K;cases h;have:=Ec (ad:=⟨g,i*(Ty.agg (.prod k (.slice A))).size+0,none⟩) w hT (by rw[p];exact af) (fun j u f=>by
          rw[Jg];refine B _ _ (ab j u ?_);rw[oS (QB.1 f).1];exact f)
         rw[p]at this;exact⟨rfl,_,this,c1,ag,rfl⟩
        ·cases h
       ·split at h
        ·rename_i K;obtain⟨p,rfl⟩:=K;cases h;have:=Ec (ad:=⟨g,i*(Ty.agg (.prod k (.slice A))).size+k.size,none⟩) (cs:=[v1]) w hT (by rw[p];rfl) (fun j u f=>by
          have ap:j=0:=by have:=(QB.1 f).1;simpa using this
          subst ap;rw[Jg];refine B _ _ (ab k.size u ?_);rw[AA3 (by omega),af,AB4];exact f)
         rw[p]at this;obtain⟨ai,aj,ax⟩:=t7 ah J;exact⟨rfl,_,this,aa,_,ai,aj,ins[i],s.resolve_right (fun h=>by rw[h.2.2]at T;simp at T),by simp[T],ah,ax⟩
        ·cases h
       ·cases h
     ·cases h
   | arr et A xs =>
    simp only[EK]at h;cases H:BO (.slice e) ⟨.slice A,xs⟩ with
    | none=>rw[H]at h;simp[HV]at h
    | some ys =>
     obtain⟨rfl,q⟩:=Bm H;cases q;rw[H]at h;simp only[HV]at h;cases hp:QD Y A (xs.getD i A.dflt) with
     | none=>rw[hp]at h;simp[HT]at h
     | some pv =>
      rw[hp]at h;simp only[HT]at h;split at h
      ·rename_i K;obtain⟨p,D⟩:=K;cases h;obtain⟨bj,cells,E,am⟩:=V n _ hn;have z:plc (ρ n)=_:=z;have E:w.ownsRow 0 et A.size (ρ n) xs.length cells:=E;rw[HX E]at z;rw[z]at E;obtain⟨rfl,B⟩:=Vv E;have X:xs[i]?=some (xs.getD i A.dflt):=by
        rw[AT Q,AS,AT Q];rfl
       obtain⟨I,ae,ak,an⟩:=am i _ X;obtain⟨Z,G⟩:=S0 hp D an;have S:=G.length;have:=Ec (ad:=⟨g,i*A.size+off,none⟩) w hT (by rw[p];exact S) (fun j u f=>by
        rw[Jg,ABF];rw[AA0,AAi]at f;split at f
        ·exact B _ _ (ak _ _ f)
        ·cases f)
       rw[p]at this;exact⟨rfl,_,this,_,G,rfl⟩
      ·cases h
 ·rename_i u d N O;cases N;cases O;obtain⟨ad,cs,rfl,bh,H,hr⟩:=W;split at h
  ·rename_i p;cases h;have:=Ec w hT (by rw[p];exact hr.length) H;rw[p]at this;exact⟨rfl,_,this,cs,hr,rfl⟩
  ·cases h
 ·cases h
end
end
section
open Go Go.RowKit
section
variable {P:Program} {tb:Tb} {id:TypeId} {ti:TI} {w:World} {V:Vw} {vc:Prop} {v:AV} {obs:List (Nat×Obj)}
theorem iM {α:Type} {l:List α} {k:Nat} {x:α} (h:l[k]?=some x):x∈l:=AAe h
theorem ZG (hT:D0 P tb id ti) {u:Ty} (p:ti.ty=.agg u) (d:ti.el=0) {f k s:Nat} (hf:ti.offs[f]?=some (k,s)) (ad:Addr) (w:World) :
  (Instr.fieldAt id (.pointer (some ad)) f).run P w=.ok (.pointer (some (ad.add k))) w:=by
 obtain⟨⟨⟨m,_⟩,_⟩,a⟩:=hT;rw[p]at a;simp only at a;rcases a with ⟨fs,_,hu,o⟩|⟨n,e,i,l,_⟩
 ·have b:(ti.offs.map some)[f]?=some (some (k,s)):=by simp[hf]
  rw[o]at b;simp only[AAy,Is]at b;obtain⟨fl,h,g⟩:=b;obtain⟨i,hi,c⟩:=g;cases c;have j:fs[f]?=some fl:=by simpa using h
  have hs:i.size≠0:=m _ (iM hf);simp[Instr.fieldAt,aS hu,j,Instr.sureAddr,fieldPlace,sizeOf,Lk w hi,hs]
 ·exact absurd d l
theorem ZH (hT:D0 P tb id ti) {u:Ty} (h:ti.ty=.agg u) (c:ti.el≠0) {k s:Nat} {z:Int} {kd:IntKind} (j:0≤z) (hf:ti.offs[z.toNat]?=some (k,s)) (ad:Addr) (w:World) :
  (Instr.indexAt id (.pointer (some ad)) (.int kd z)).run P w=.ok (.pointer (some (ad.add k))) w:=by
 obtain⟨_,a⟩:=hT;rw[h]at a;simp only at a;rcases a with ⟨fs,h0,_⟩|⟨n,e,i,_,hu,hi,g⟩
 ·exact absurd h0 c
 ·rw[g]at hf;simp only[AAy,Is]at hf;obtain⟨l,d,b⟩:=hf;cases b;obtain⟨h1,a⟩:=QB.1 d;simp only[ABT]at h1;simp only[ABo]at a;subst a;have f:z<(n:Int):=by omega
  simp[Instr.indexAt,asIntOf,aS hu,Instr.sureAddr,sizeOf,Lk w hi,j,f]
theorem uF {f:Nat} {o:Option (Nat×Nat)} {x:AV} {xv:Value} {run:Value→Result Value} (t:∀k s ad,o=some (k,s)→run (.pointer (some ad))=.ok (.pointer (some (ad.add k))) w)
  (h:NB f o x=some (vc,v,obs)) (y:B2 V x xv):obs=[]∧∃u,run xv=.ok u w∧B2 V v u:=by
 unfold NB at h;split at h
 ·rename_i n F off;obtain⟨q,b,z,rfl⟩:=y;cases o with
  | none=>simp[R8]at h
  | some p =>
   obtain⟨k,s⟩:=p;simp only[R8]at h;cases h;exact⟨rfl,_,t k s _ rfl,q,b,z,by rw[Jg]⟩
 ·rename_i n e i F off;obtain⟨q,g,m,c,z,E,rfl⟩:=y;cases o with
  | none=>simp[R8]at h
  | some p =>
   obtain⟨k,s⟩:=p;simp only[R8]at h;cases h;exact⟨rfl,_,t k s _ rfl,q,g,m,c,z,E,by rw[Jg,ABF]⟩
 ·rename_i u d;obtain⟨ad,cs,rfl,C,D,hr⟩:=y;cases r:Gh u f d with
  | none=>rw[r]at h;simp[HW]at h
  | some pv =>
   rw[r]at h;simp only[HW]at h;split at h
   ·rename_i l;cases h;have hr:Br V.w V.O u cs d:=hr;obtain⟨h1,H,A,G,B⟩:=OX r hr;rw[A]at l;cases o with
    | none=>simp at l
    | some p =>
     obtain⟨k,s⟩:=p;simp only[AAY,AAq]at l;subst l;refine⟨rfl,_,t k s _ rfl,ad.add k,_,rfl,by rw[CG];exact C,fun j u a=>?_,B⟩;rw[DP];rw[AA0,AAi]at a;split at a
     ·exact D _ _ a
     ·cases a
   ·cases h
 ·cases h
theorem A1c (hT:D0 P tb id ti) {f:Nat} {x:AV} {xv:Value} (w:World)
  (h:GG f (some ti) (some x)=some (vc,v,obs)) (e:B2 V x xv):obs=[]∧∃u,(Instr.fieldAt id xv f).run P w=.ok u w∧B2 V v u:=by
 unfold GG at h;split at h
 ·rename_i u offs b g a c;cases a;cases c;exact uF (run:=fun xv=>(Instr.fieldAt id xv f).run P w) (fun k s ad d=>ZG hT rfl rfl d ad w) h e
 ·cases h
theorem RK {e:TypeId} (hu:P.underlying id=some (.slice e)) {size:Nat} (hs:(sizeOf e).run P w=.ok size w) (a:Addr) (n c:Nat) (k:IntKind) (i:Int) (h0:0≤i) (h1:i<n) :
  (Instr.indexAt id (.slice (some a) n c) (.int k i)).run P w=.ok (.pointer (some (a.add (i.toNat*size)))) w:=by
 simp[Instr.indexAt,asIntOf,aS hu,h0,h1,hs]
theorem A6T {e:Ty} {el:TypeId} (hu:P.underlying id=some (.slice el)) (hs:(sizeOf el).run P V.w=.ok e.size V.w) {l:List e.den} {kd:IntKind} {k:Int} {xv:Value}
  (q:BW V.w V.O (.slice e) xv l) (o:0≤k) (p:k<(l.length:Int)) :
  ∃u,(Instr.indexAt id xv (.int kd k)).run P V.w=.ok u V.w∧B2 V (.ip e (l.getD k.toNat e.dflt)) u:=by
 obtain⟨cs,i,rfl⟩:=q;obtain⟨a,c,rfl,h1,s,b⟩:=i;have d:k.toNat<l.length:=by omega
 rcases b with b|⟨ad,rfl,g,m⟩
 ·subst b;simp at d
 ·refine⟨_,RK hu hs _ _ _ _ _ o p,?_⟩;have r:l[k.toNat]?=some (l.getD k.toNat e.dflt):=by
   rw[AT d,AS,AT d];rfl
  obtain⟨f,t,h,hr⟩:=m _ _ r;exact⟨_,f,rfl,by rw[CG];exact g,fun j u n=>by rw[DP];exact h j u n,hr⟩
theorem A6U {e:Ty} {el:TypeId} (hu:P.underlying id=some (.slice el)) (hs:(sizeOf el).run P V.w=.ok e.size V.w) {n lo hi:Nat} {kd:IntKind} {k:Int} {xv:Value}
  (s:B2 V (.sr n e lo hi) xv) (h:∀n,V.L n→∃o,A1 V o (V.ρ n)) (j:0≤k) (l:k<((hi-lo:Nat):Int)) :
  ∃u,(Instr.indexAt id xv (.int kd k)).run P V.w=.ok u V.w∧B2 V (.ep n e (lo+k.toNat) [] 0) u:=by
 obtain⟨d,a,m,c,f,A,z,t,v,rfl,y,h0,h1⟩:=s;have p:lo<hi:=by omega
 have i:=h1 p;obtain⟨o,q⟩:=h n d;obtain⟨g,rfl⟩:∃g,a=some ⟨g,0,none⟩:=by
  obtain⟨_,_,cells,r,_⟩:=Vu q f;rcases r.2 with ⟨b,hn⟩|⟨g,cap,x,b,_⟩
  ·injection b;omega
  ·injection b with b;exact⟨g,b⟩
 subst i;refine⟨_,RK hu hs _ _ _ _ _ j l,d,g,m,c,f,by omega,?_⟩;rw[DP,Y7,ABK];rfl
theorem BR {O:Nat→Prop} {w:World} {kd:IntKind} {k:Int} {v:Value} (h:BW w O (.int kd) v k):v=.int kd k∧K9 kd k:=by
 obtain⟨cs,⟨rfl,h1⟩,rfl⟩:=h;exact⟨rfl,h1⟩
theorem BM {O:Nat→Prop} {w:World} {kd:IntKind} {k:Int} (h:K9 kd k):BW w O (.int kd) (.int kd k) k:=⟨_,⟨rfl,h⟩,rfl⟩
theorem EC {O:Nat→Prop} {w:World} {b:Bool} {v:Value} (h:BW w O .bool v b):v=.bool b:=by
 obtain⟨cs,h1,rfl⟩:=h;have h1:cs=_:=h1;subst h1;rfl
theorem Bg {O:Nat→Prop} {w:World} (b:Bool):BW w O .bool (.bool b) b:=⟨[.bool b],rfl,rfl⟩
theorem Gi {O:Nat→Prop} {w:World} {s:ByteArray} {v:Value} (h:BW w O .str v s):v=.string s∧s.size≤AO:=by
 obtain⟨cs,⟨rfl,h1⟩,rfl⟩:=h;exact⟨rfl,h1⟩
theorem S2 {O:Nat→Prop} {w:World} {s:ByteArray} (h:s.size≤AO):BW w O .str (.string s) s:=⟨_,⟨rfl,h⟩,rfl⟩
theorem CD {e:Ty} {offs:List (Nat×Nat)} {el:TypeId} {bytes:Nat} (hT:D0 P tb id ⟨.slice e,offs,el,bytes⟩) (b:DB P tb) :
  P.underlying id=some (.slice el)∧(∀w,(sizeOf el).run P w=.ok e.size w)∧∃te,lk el tb.ty=some te∧te.ty=e:=by
 obtain⟨_,hu,te,a,rfl⟩:=hT;exact⟨hu,fun w=>H0 w (b _ _ a),te,a,rfl⟩
theorem A1d (hT:D0 P tb id ti) (m:DB P tb) {x y:AV} {xv p:Value}
  (h:FE (some ti) (some x) (some y)=some (vc,v,obs)) (f:vc) (i:B2 V x xv) (j:B2 V y p) (r:∀n,V.L n→∃o,A1 V o (V.ρ n)) :
  obs=[]∧∃u,(Instr.indexAt id xv p).run P V.w=.ok u V.w∧B2 V v u:=by
 unfold FE at h;split at h
 ·rename_i e offs el bytes q l kd k a c d;cases a;cases c;cases d;split at h
  ·rename_i g;subst g;cases h;obtain⟨hu,hs,_⟩:=CD hT m;obtain⟨rfl,_⟩:=BR j;exact⟨rfl,A6T hu (hs _) i f.1 f.2⟩
  ·cases h
 ·rename_i e offs el bytes n q lo hi kd k a c d;cases a;cases c;cases d;split at h
  ·rename_i g;subst g;cases h;obtain⟨hu,hs,_⟩:=CD hT m;obtain⟨rfl,_⟩:=BR j;exact⟨rfl,A6U hu (hs _) i r f.1 f.2⟩
  ·cases h
 ·rename_i u offs el b A B a c d;cases a;cases c;cases d;unfold Io at h;split at h
  ·rename_i kd k;split at h
   ·rename_i hk;obtain⟨rfl,_⟩:=BR j;exact uF (run:=fun xv=>(Instr.indexAt id xv (.int kd k)).run P V.w) (fun z s ad t=>ZH hT rfl (by simp) hk t ad V.w) h i
   ·cases h
  ·cases h
 ·cases h
theorem KT {k:IntKind} {n:Int} (h:K9 k n):k.wrap n=n:=by
 obtain⟨h1,a⟩:=h;cases k<;>simp[IntKind.min,IntKind.max,IntKind.signed,IntKind.bits]at h1 a<;>simp[IntKind.wrap,IntKind.signed,IntKind.bits]<;>omega
theorem MV (k:IntKind) (n:Int):K9 k (k.wrap n):=by
 cases k<;>simp only[K9,IntKind.min,IntKind.max,IntKind.wrap,IntKind.signed,IntKind.bits]<;>simp<;>omega
theorem A3c {op:BinOp} {t:TypeId} {k e:IntKind} {a b:Int} (w:World) (c:(tZ op k a e b).1) (ha:K9 k a) :
  ∃u,(binOp op t (.int k a) (.int e b)).run P w=.ok u w∧B2 V (tZ op k a e b).2 u:=by
 unfold tZ at c ⊢;split at c
 ·have d:¬b<0:=by have h:0≤b:=c;omega
  exact⟨_,by simp[binOp,Op.shift,d];rfl,BM (MV _ _)⟩
 ·have d:¬b<0:=by have h:0≤b:=c.1;omega
  exact⟨_,by simp[binOp,Op.shift,d];rfl,BM c.2⟩
 ·split at c
  ·rename_i f g hk;subst hk;cases op<;>simp only[Y8]at c ⊢;case add=>exact⟨.int k (a+b),by simp[binOp,Op.intArith,KT c],BM c⟩
   case sub=>exact⟨.int k (a-b),by simp[binOp,Op.intArith,KT c],BM c⟩
   case mul=>exact⟨.int k (a*b),by simp[binOp,Op.intArith,KT c],BM c⟩
   case quo=>exact⟨.int k (a.tdiv b),by simp[binOp,Op.intDiv,c.1,KT c.2],BM c.2⟩
   case rem=>exact⟨.int k (a.tmod b),by simp[binOp,Op.intDiv,c.1],BM c.2⟩
   case and=>exact⟨.int k (B6 .and k a b),by simp only[binOp,ne_eq,ABR,AAU,Op.intBits];rfl,BM (MV _ _)⟩
   case or=>exact⟨.int k (B6 .or k a b),by simp only[binOp,ne_eq,ABR,AAU,Op.intBits];rfl,BM (MV _ _)⟩
   case xor=>exact⟨.int k (B6 .xor k a b),by simp only[binOp,ne_eq,ABR,AAU,Op.intBits];rfl,BM (MV _ _)⟩
   case andNot=>exact⟨.int k (B6 .andNot k a b),by simp only[binOp,ne_eq,ABR,AAU,Op.intBits];rfl,BM (MV _ _)⟩
   case eql=>exact⟨.bool (a==b),by simp[binOp,Op.intCmp],Bg _⟩
   case neq=>exact⟨.bool (a != b),by simp[binOp,Op.intCmp],Bg _⟩
   case lss=>exact⟨.bool (decide (a<b)),by simp[binOp,Op.intCmp],Bg _⟩
   case leq=>exact⟨.bool (decide (a≤b)),by simp[binOp,Op.intCmp],Bg _⟩
   case gtr=>exact⟨.bool (decide (b<a)),by simp[binOp,Op.intCmp],Bg _⟩
   case geq=>exact⟨.bool (decide (b≤a)),by simp[binOp,Op.intCmp],Bg _⟩
  ·exact c.elim
theorem A1e {op:BinOp} {t:TypeId} {a b:ByteArray} (w:World) (c:(Su a b op).1) :
  ∃u,(binOp op t (.string a) (.string b)).run P w=.ok u w∧B2 V (Su a b op).2 u:=by
 cases op<;>simp only[Su]at c ⊢;case add =>
  have d:AO=140737488355328:=rfl;have hh:¬(((a.size+b.size:Nat):Int) > IntKind.i64.max):=by
   have:IntKind.i64.max=9223372036854775807:=by decide
   omega
  exact⟨.string (a++b),by simp only[binOp,Op.stringOp,At hh];rfl,S2 (by simpa[ABp] using c)⟩
 case eql=>exact⟨.bool (Aa a b),by simp only[binOp,Op.stringOp];rfl,Bg _⟩
 case neq=>exact⟨.bool (!Aa a b),by simp only[binOp,Op.stringOp];rfl,Bg _⟩
 case lss=>exact⟨.bool (HJ a b),by simp only[binOp,Op.stringOp];rfl,Bg _⟩
 case leq=>exact⟨.bool (HJ a b||Aa a b),by simp only[binOp,Op.stringOp];rfl,Bg _⟩
 case gtr=>exact⟨.bool (!(HJ a b||Aa a b)),by simp only[binOp,Op.stringOp];rfl,Bg _⟩
 case geq=>exact⟨.bool (!HJ a b),by simp only[binOp,Op.stringOp];rfl,Bg _⟩
 all_goals exact c.elim
theorem A4j {op:BinOp} {t:TypeId} {ti:Option TI} (n:OP ti=true→P.underlying t=some .bool) {x y:AV} {xv l:Value} (w:World)
  (h:OQ op ti (some x) (some y)=some (vc,v,obs)) (m:vc) (i:B2 V x xv) (j:B2 V y l) :
  obs=[]∧(∀e f,(eqGuard op t e f xv l).run P w=.ok () w)∧∃u,(binOp op t xv l).run P w=.ok u w∧B2 V v u:=by
 unfold OQ at h;split at h
 ·rename_i k a o b c d;cases c;cases d;cases h;obtain⟨rfl,ha⟩:=BR i;obtain⟨rfl,_⟩:=BR j;refine⟨rfl,fun e f=>?_,A3c w m ha⟩;cases op<;>simp[eqGuard]
 ·rename_i a b c d;cases c;cases d;cases h;obtain⟨rfl,ha⟩:=Gi i;obtain⟨rfl,_⟩:=Gi j;refine⟨rfl,fun e f=>?_,A1e w m⟩;cases op<;>simp[eqGuard]
 ·rename_i a b c d;cases c;cases d;have ha:=EC i;have g:=EC j;subst ha g;split at h
  ·rename_i g;have hu:=n g;cases op<;>simp only[ZB]at h<;>cases h
   ·exact⟨rfl,fun e f=>by simp[eqGuard],.bool (a==b),by simp[binOp,run_equal_bool w t a b hu],Bg _⟩
   ·exact⟨rfl,fun e f=>by simp[eqGuard],.bool (a != b),by simp[binOp,run_equal_bool w t a b hu,bne],Bg _⟩
  ·cases h
 ·cases h
theorem A6V {op:UnOp} {x:AV} {xv:Value} (w:World) (h:tQ op (some x)=some (vc,v,obs)) (c:vc) (e:B2 V x xv) :
  obs=[]∧∃u,(Op.unary op xv).run P w=.ok u w∧B2 V v u:=by
 unfold tQ at h;split at h
 ·rename_i b d;cases d;cases h;have:=EC e;subst this;exact⟨rfl,.bool (!b),by simp[Op.unary],Bg _⟩
 ·rename_i k a d;cases d;cases h;obtain⟨rfl,ha⟩:=BR e;have c:K9 k (0-a):=c;exact⟨rfl,_,by simp only[Op.unary,Op.intArith,KT c];rfl,BM c⟩
 ·cases h
end
end
section
open Go Go.RowKit
section
variable {P:Program} {tb:Tb} {id:TypeId} {ti:TI} {w:World} {V:Vw} {vc:Prop} {v:AV} {obs:List (Nat×Obj)}
theorem iO (l:List Int):(RH l).size=l.length:=by
 show (RH l).data.size=l.length;unfold RH;simp
theorem A3d (K:DB P tb) (L:V.w=w) {s t:TypeId} {F ti:TI} (hs:D0 P tb s F) (B:D0 P tb t ti) {x:AV} {xv:Value} (h:Ip (some F) (some ti) (some x)=some (vc,v,obs)) (i:vc) (D:B2 V x xv) :
  obs=[]∧∃u,(convert s t xv).run P w=.ok u w∧B2 V v u:=by
 unfold Ip at h;split at h
 ·rename_i W X m b1 k Y o b2 ae a q r y;cases q;cases r;cases y;cases h;obtain⟨rfl,ha⟩:=BR D;have i:K9 k a:=i;have f:P.underlying s=some (.int W):=hs.2;have g:P.underlying t=some (.int k):=B.2;refine⟨rfl,.int k a,?_,BM i⟩;simp[convert,aS f,aS g,Conv.intToInt,KT i]
 ·rename_i X m b1 Y o b2 l q r y;cases q;cases r;cases y;cases h;obtain⟨f,te,S,T⟩:=hs.2;have g:P.underlying t=some .string:=B.2;have C:P.underlying m=some (.int .u8):=by
   have:=(K _ _ S).2;rw[T]at this;exact this
  obtain⟨cs,⟨a,c,rfl,h1,H,b⟩,rfl⟩:=D;have R:(RH l).size≤AO:=by rw[iO];exact H
  refine⟨rfl,.string (RH l),?_,⟨[.string (RH l)],⟨rfl,R⟩,rfl⟩⟩;have O:a=none→l=[]:=fun e=>by
   rcases b with b|⟨ad,b,_⟩
   ·exact b
   ·rw[e]at b;cases b
  cases a with
  | none =>
   have:=O rfl;subst this;show (convert s t (.slice none 0 c)).run P w=_;have G:RH []=ByteArray.empty:=rfl;rw[G];simp[convert,aS f,aS g,aS C,Conv.bytesToString]
  | some ad =>
   have A:=run_convert_bytes_back (P:=P) w s t m ad c (l.map fun x=>UInt8.ofNat x.toNat) f C g fun j z=>by
    have d:j<List.length l:=by rw[nO]at z;exact z
    rcases b with b|⟨Z,b,ab,I⟩
    ·rw[b]at d;cases d
    ·cases b;obtain⟨aa,-,M,Q⟩:=I j l[j] (AT d);obtain⟨rfl,N⟩:=Q;have p:=M 0 (.int .u8 l[j]) rfl;rw[L]at p;obtain⟨E,U⟩:(0:Int)≤(l:List Int)[j]'d∧(l:List Int)[j]'d≤255:=by
      simpa[K9,IntKind.min,IntKind.max,IntKind.signed,IntKind.bits] using N
     have e:(((List.map (fun x:Int=>UInt8.ofNat x.toNat) l)[j]'z).toNat:Int)=l[j]:=by
      rw[ABk,UInt8.toNat_ofNat'];have J:((l:List Int)[j]'d).toNat % 2 ^ 8=((l:List Int)[j]'d).toNat:=Nat.mod_eq_of_lt ((AC3 E).2 (ACo U (by decide)));exact(AAX (fun n:Nat=>(n:Int)) J).trans (AAW E)
     rw[e];have o:j*(Ty.int .u8).size+0=j:=by simp[Ty.size]
     rw[o]at p;exact p
   rw[nO]at A;exact A
 ·cases h
theorem A4k (r:∀n,V.L n→∃o,A1 V o (V.ρ n)) {x:AV} {xv:Value} {t ty:TypeId} (hT:D0 P tb t ti) (w:World) (h:QF (some ti) (some x)=some (vc,v,obs)) (g:B2 V x xv) :
  obs=[]∧∃u,(Builtin.len_ #[t] ty #[xv]).run P w=.ok u w∧B2 V v u:=by
 have j:∀n:Nat,n≤AO→K9 .i64 (n:Int):=fun n hn=>by
  simp[K9,IntKind.min,IntKind.max,IntKind.signed,IntKind.bits];simp[AO]at hn;omega
 unfold QF at h;split at h
 ·rename_i e o el b q l d f;cases d;cases f;cases h;obtain⟨cs,⟨a,c,rfl,h1,y,_⟩,rfl⟩:=g;have hu:=hT.2.1;exact⟨rfl,.int .i64 (List.length l:Int),by simp[Builtin.len_,aS hu,goInt,Ty.wrap],BM (j _ y)⟩
 ·rename_i e o el b n q lo hi d f;cases d;cases f;cases h;obtain⟨k,a,m,c,C,I,H,E,F,rfl,G,h0,h1⟩:=g;have hu:=hT.2.1;obtain⟨D,p⟩:=r n k;obtain⟨_,_,_,_,this⟩:=Vu p C;exact⟨rfl,.int .i64 ((hi-lo:Nat):Int),by simp[Builtin.len_,aS hu,goInt],BM (j _ (by omega))⟩
 ·rename_i e o el b n q i len d f;cases d;cases f;cases h;obtain⟨k,K,a,c,J,B,A,z,rfl⟩:=g;have hu:=hT.2.1;obtain⟨D,p⟩:=r n k;have:=A17 p B A z rfl;exact⟨rfl,.int .i64 (len:Int),by simp[Builtin.len_,aS hu,goInt],BM (j _ this)⟩
 ·rename_i e o el b d f;cases d;cases f;cases h;have g:xv=_:=g;subst g;have hu:=hT.2.1;exact⟨rfl,.int .i64 0,by simp[Builtin.len_,aS hu,goInt],BM (j 0 (by simp))⟩
 ·rename_i o el b s d f;cases d;cases f;cases h;obtain⟨rfl,h1⟩:=Gi g;have hu:P.underlying t=some .string:=hT.2;exact⟨rfl,.int .i64 (s.size:Int),by simp[Builtin.len_,aS hu,goInt],BM (j _ h1)⟩
 ·cases h
theorem pM {i:Nat} {x:AV} {xv:Value} (w:World) (h:Dw i (some x)=some (vc,v,obs)) (f:B2 V x xv) :
  obs=[]∧∃u,(Instr.extract xv i).run P w=.ok u w∧B2 V v u:=by
 have get:∀(l:List AV) (a:List Value) (i:Nat) (y:AV),Jl V l a→l[i]?=some y→∃u,a[i]?=some u∧B2 V y u:=by
  intro l;induction l with
  | nil=>intro a i y _ h;simp at h
  | cons z r g =>
   intro a i y c h;obtain⟨u,j,rfl,h1,d⟩:=c;cases i with
   | zero =>
    simp at h;subst h;exact⟨u,rfl,t5 h1⟩
   | succ i=>exact g j i y d (by simpa using h)
 unfold Dw at h;split at h
 ·rename_i l e;cases e;obtain⟨a,rfl,c⟩:=f;cases b:l[i]? with
  | none=>rw[b]at h;simp[GF]at h
  | some y =>
   rw[b]at h;simp only[GF]at h;cases h;obtain⟨u,hu,hr⟩:=get l a i _ c b;exact⟨rfl,u,by simp[Instr.extract,hu],hr⟩
 ·cases h
theorem A4l {x y:AV} {xv d:Value} {ts:Array TypeId} {ty:TypeId} (w:World) (h:OT (some x) (some y)=some (vc,v,obs)) (g:B2 V x xv) (i:B2 V y d) :
  obs=[]∧∃u,(Builtin.min_ ts ty #[xv,d]).run P w=.ok u w∧B2 V v u:=by
 unfold OT at h;split at h
 ·rename_i k a j b e f;cases e;cases f;split at h
  ·rename_i hk;subst hk;cases h;obtain⟨rfl,ha⟩:=BR g;obtain⟨rfl,c⟩:=BR i;have ha:K9 k a:=ha;have c:K9 k b:=c;refine⟨rfl,.int k (if (b:Int)<a then b else a),by simp[Builtin.min_,Builtin.min2],BM ?_⟩;split
   ·exact c
   ·exact ha
  ·cases h
 ·cases h
theorem A3e {x y z:AV} {xv i j:Value} {ts:Array TypeId} {ty:TypeId} (w:World) (h:Hv (some x) (some y) (some z)=some (vc,v,obs)) (q:B2 V x xv) (r:B2 V y i) (s:B2 V z j) :
  obs=[]∧∃u,(Builtin.min_ ts ty #[xv,i,j]).run P w=.ok u w∧B2 V v u:=by
 unfold Hv at h;split at h
 ·rename_i k a t b A c l m n;cases l;cases m;cases n;split at h
  ·rename_i hk;obtain⟨o,p⟩:=hk;subst o;subst p;cases h;obtain⟨rfl,ha⟩:=BR q;obtain⟨rfl,f⟩:=BR r;obtain⟨rfl,e⟩:=BR s;have ha:K9 k a:=ha;have f:K9 k b:=f;have e:K9 k c:=e;refine⟨rfl,.int k (if (c:Int)<(if (b:Int)<a then b else a) then c else (if (b:Int)<a then b else a)),by simp[Builtin.min_,Builtin.min2],BM ?_⟩;by_cases g:(b:Int)<a
   ·rw[BY g];by_cases d:(c:Int)<b
    ·rw[BY d];exact e
    ·rw[At d];exact f
   ·rw[At g];by_cases d:(c:Int)<a
    ·rw[BY d];exact e
    ·rw[At d];exact ha
  ·cases h
 ·cases h
theorem A4m {x y:AV} {xv d:Value} {ts:Array TypeId} {ty:TypeId} (w:World) (h:OU (some x) (some y)=some (vc,v,obs)) (g:B2 V x xv) (i:B2 V y d) :
  obs=[]∧∃u,(Builtin.max_ ts ty #[xv,d]).run P w=.ok u w∧B2 V v u:=by
 unfold OU at h;split at h
 ·rename_i k a j b e f;cases e;cases f;split at h
  ·rename_i hk;subst hk;cases h;obtain⟨rfl,ha⟩:=BR g;obtain⟨rfl,c⟩:=BR i;have ha:K9 k a:=ha;have c:K9 k b:=c;refine⟨rfl,.int k (if (a:Int)<b then b else a),by simp[Builtin.max_,Builtin.max2],BM ?_⟩;split
   ·exact c
   ·exact ha
  ·cases h
 ·cases h
theorem A3f {t:TypeId} (hu:P.underlying t=some .string) (w:World) {s:ByteArray} {kd:IntKind} {k:Int} (h0:0≤k) (h1:k<(s.size:Int)) :
  (Instr.index t (.string s) (.int kd k)).run P w=.ok (.int .u8 ((s.data.getD k.toNat 0).toNat:Int)) w∧K9 .u8 ((s.data.getD k.toNat 0).toNat:Int):=by
 have a:k.toNat<s.size:=by omega
 have d:k.toNat<s.data.size:=a;have c:s[k.toNat]?=some (s.data.getD k.toNat 0):=by
  rw[getElem?_pos s k.toNat a];simp only[Array.getD,d,dite_true];rfl
 refine⟨by simp[Instr.index,asIntOf,aS hu,h0,c],?_⟩;generalize s.data.getD k.toNat 0=b;have:=b.toNat_lt;simp[K9,IntKind.min,IntKind.max,IntKind.signed,IntKind.bits];omega
theorem uG {t:TypeId} {x y:AV} {xv c:Value} (hT:D0 P tb t ti) (w:World) (h:Dl (some ti) (some x) (some y)=some (vc,v,obs)) (a:vc) (i:B2 V x xv) (j:B2 V y c) :
  obs=[]∧∃u,(Instr.index t xv c).run P w=.ok u w∧B2 V v u:=by
 unfold Dl at h;split at h
 ·rename_i o el b s kd k e f g;cases e;cases f;cases g;cases h;obtain⟨rfl,_⟩:=Gi i;obtain⟨rfl,_⟩:=BR j;have hu:P.underlying t=some .string:=hT.2;obtain⟨h1,d⟩:=A3f (P:=P) hu w (kd:=kd) a.1 a.2;exact⟨rfl,_,h1,BM d⟩
 ·cases h
theorem A4n {x:AV} {xv:Value} (h:R9 (some x)=some (vc,v,obs)) (e:B2 V x xv):obs=[]∧(∃ad,xv=.pointer (some ad))∧B2 V v xv:=by
 unfold R9 at h;split at h
 ·rename_i a;cases a;cases h;obtain⟨d,b,f,rfl⟩:=e;exact⟨rfl,⟨_,rfl⟩,d,b,f,rfl⟩
 ·rename_i a;cases a;cases h;obtain⟨ad,cs,rfl,r⟩:=e;exact⟨rfl,⟨_,rfl⟩,ad,cs,rfl,r⟩
 ·rename_i a;cases a;cases h;obtain⟨d,g,m,c,f,i,rfl⟩:=e;exact⟨rfl,⟨_,rfl⟩,d,g,m,c,f,i,rfl⟩
 ·cases h
end
end
section
open Go Go.RowKit
section
variable {P:Program} {tb:Tb} {id:TypeId} {ti:TI} {V:Vw} {vc:Prop} {v:AV} {obs:List (Nat×Obj)}
def FA (a:Option Addr) (c l sz:Nat):Option Addr:=if c=l then a else a.map (·.add (l*sz))
inductive mO:Option Value→Nat→Nat→Prop
 | none (d:Nat):mO none d d
 | some (k:IntKind) (z:Int) (d:Nat) (h:0≤z):mO (some (.int k z)) d z.toNat
theorem uH {el:TypeId} (hu:P.underlying id=some (.slice el)) {sz:Nat} (w:World) (hs:(sizeOf el).run P w=.ok sz w) {a:Option Addr} {n c l h:Nat} {lo hi:Option Value}
  (i:mO lo 0 l) (hh:mO hi n h) (h1:l≤h) (m:h≤c) :
  (Instr.sliceAt id (.slice a n c) lo hi none).run P w=.ok (.slice (FA a c l sz) (h-l) (c-l)) w:=by
 cases i with
 | none =>
  cases hh with
  | none=>simp[Instr.sliceAt,aS hu,Instr.slice,Instr.sliceBounds,hs,FA]
  | some k z _ b =>
   have e:z≤(c:Int):=by omega
   simp[Instr.sliceAt,aS hu,Instr.slice,Instr.sliceBounds,Instr.sliceBound,asIntOf,hs,FA,b,e]
 | some k z _ b =>
  cases hh with
  | none =>
   have e:z≤(n:Int):=by omega
   simp[Instr.sliceAt,aS hu,Instr.slice,Instr.sliceBounds,Instr.sliceBound,asIntOf,hs,FA,b,e]
  | some o d _ j =>
   have e:d≤(c:Int):=by omega
   have f:max d 0=d:=by omega
   have g:z≤d:=by omega
   simp[Instr.sliceAt,aS hu,Instr.slice,Instr.sliceBounds,Instr.sliceBound,asIntOf,hs,FA,b,j,e,f,g]
theorem A3g (hu:P.underlying id=some .string) (w:World) {s:ByteArray} {l h:Nat} {lo hi:Option Value} (f:mO lo 0 l) (hh:mO hi s.size h) (h1:l≤h) (i:h≤s.size) :
  (Instr.sliceAt id (.string s) lo hi none).run P w=.ok (.string (s.extract l h)) w:=by
 cases f with
 | none =>
  cases hh with
  | none=>simp[Instr.sliceAt,aS hu,Instr.slice,Instr.sliceBounds]
  | some k z _ a =>
   have e:z≤(s.size:Int):=by omega
   simp[Instr.sliceAt,aS hu,Instr.slice,Instr.sliceBounds,Instr.sliceBound,asIntOf,a,e]
 | some k z _ a =>
  cases hh with
  | none =>
   have e:z≤(s.size:Int):=by omega
   simp[Instr.sliceAt,aS hu,Instr.slice,Instr.sliceBounds,Instr.sliceBound,asIntOf,a,e]
  | some j b _ g =>
   have e:b≤(s.size:Int):=by omega
   have c:max b 0=b:=by omega
   have d:z≤b:=by omega
   simp[Instr.sliceAt,aS hu,Instr.slice,Instr.sliceBounds,Instr.sliceBound,asIntOf,a,g,e,c,d]
theorem A1f {e:Ty} {xs:List e.den} {a:Option Addr} {n c l h:Nat} (hr:Br V.w V.O (.slice e) [.slice a n c] xs) (h1:l≤h) (g:h≤xs.length) :
  BW V.w V.O (.slice e) (.slice (FA a c l e.size) (h-l) (c-l)) (sub xs l h)∧n=xs.length∧h≤c:=by
 obtain⟨z,A,f,B,C,d⟩:=hr;injection f with f
 injection f with k m o
 subst k;subst m;subst o;have b:=NZ xs (lo:=l) g;refine⟨⟨_,⟨FA a c l e.size,c-l,by rw[b],by rw[b];omega,by rw[b];omega,?_⟩,rfl⟩,rfl,by omega⟩;by_cases D:l<h
 ·right;rcases d with d|⟨ad,rfl,q,s⟩
  ·subst d;simp at g;omega
  ·refine⟨ad.add (l*e.size),?_,by rw[CG];exact q,fun i x hi=>?_⟩
   ·have:¬c=l:=by omega
    simp[FA,this]
   ·obtain⟨y,_⟩:=Xo xs l h i hi;obtain⟨p,t,r,hr⟩:=s (l+i) x y;refine⟨p,t,fun j u v=>?_,hr⟩;have:=r j u v;rw[DP]
    rwa [ABK,ABF]at this
 ·left;exact aT (by rw[b];omega)
theorem uI {loc:Value} {sz b c0 l h:Nat} {a:Option Addr} {n c:Nat} (r:DA loc sz b c0 (.slice a n c)) (h1:l≤h) (w:h≤c0-b) :
  DA loc sz (b+l) (b+h) (.slice (FA a c l sz) (h-l) (c-l))∧n=c0-b∧h≤c:=by
 obtain⟨a0,m,d,p,x,z,u,v,s,y,i,j⟩:=r;injection s with e f g
 subst e;subst f;subst g;refine⟨⟨a0,m,d,p,by omega,by omega,FA a c l sz,c-l,by rw[show b+h-(b+l)=h-l by omega],by omega,fun B=>?_,fun A=>?_⟩,rfl,by omega⟩
 ·have k:b=0:=by omega
  have o:l=0:=by omega
  subst k;subst o;obtain⟨t,C⟩:=i rfl;refine⟨?_,by omega⟩;rw[←t];unfold FA;split
  ·rfl
  ·simp only[ABX];cases a<;>rfl
 ·have:=j (by omega);subst this;have q:¬c=l:=by omega
  simp only[FA,At q,Option.map_map]
  congr 1
  funext ad;simp only[Function.comp];rw[DP,ABK]
theorem SA (s:ByteArray) (l h:Nat):(s.extract l h).size≤s.size:=by
 simp only[ByteArray.size_extract];omega
theorem S3 (hT:D0 P tb id ti) (i:DB P tb) {e:Ty} (b:ti.ty=.slice e) {l:List e.den} {xv:Value} {lo hi:Option Value} {a h:Nat}
  (k:BW V.w V.O (.slice e) xv l) (j:mO lo 0 a) (hh:mO hi l.length h) (h1:a≤h) (d:h≤l.length) :
  ∃u,(Instr.sliceAt id xv lo hi none).run P V.w=.ok u V.w∧B2 V (.p (.slice e) (sub l a h)) u:=by
 obtain⟨ty,offs,el,bytes⟩:=ti;simp only at b;subst b;obtain⟨hu,hs,_⟩:=CD hT i;obtain⟨cs,hr,rfl⟩:=k;obtain⟨a0,c,rfl,r⟩:=hr;have hr:Br V.w V.O (.slice e) [.slice a0 l.length c] l:=⟨a0,c,rfl,r⟩;obtain⟨f,_,g⟩:=A1f hr h1 d;exact⟨_,uH hu _ (hs _) j hh h1 g,f⟩
theorem S4 (hT:D0 P tb id ti) (k:DB P tb) {n b c0:Nat} {e:Ty} (c:ti.ty=.slice e) {xv:Value} {lo hi:Option Value} {a h:Nat}
  (o:B2 V (.sr n e b c0) xv) (l:mO lo 0 a) (hh:mO hi (c0-b) h) (h1:a≤h) (f:h≤c0-b) :
  ∃u,(Instr.sliceAt id xv lo hi none).run P V.w=.ok u V.w∧B2 V (.sr n e (b+a) (b+h)) u:=by
 obtain⟨ty,offs,el,bytes⟩:=ti;simp only at c;subst c;obtain⟨hu,hs,_⟩:=CD hT k;obtain⟨j,d⟩:=o;have m:=d;obtain⟨_,_,_,_,_,_,p,q,rfl,_⟩:=m;obtain⟨g,r,i⟩:=uI d h1 f;exact⟨_,uH hu _ (hs _) l hh h1 i,j,g⟩
theorem S5 (hT:D0 P tb id ti) (c:ti.ty=.str) {s:ByteArray} {xv:Value} {lo hi:Option Value} {a h:Nat}
  (f:BW V.w V.O .str xv s) (d:mO lo 0 a) (hh:mO hi s.size h) (h1:a≤h) (b:h≤s.size) :
  ∃u,(Instr.sliceAt id xv lo hi none).run P V.w=.ok u V.w∧B2 V (.p .str (s.extract a h)) u:=by
 obtain⟨rfl,e⟩:=Gi f;have hu:=hT.2;rw[c]at hu;exact⟨_,A3g hu _ d hh h1 b,S2 (To (SA s a h) e)⟩
theorem JT {z:Int} {n:Nat} (_h:0≤z) (a:z≤(n:Int)):z.toNat≤n:=by omega
theorem Xt {a b:Int} (h:a≤b):a.toNat≤b.toNat:=by omega
def ZI:Option AV→Option Value→Prop
 | none,none=>True
 | some x,some v=>B2 V x v
 | _,_=>False
theorem uJ (hT:D0 P tb id ti) (k:DB P tb) {x ha g:AV} {xv d f:Value} (h:DZ (some ti) (some x) (some ha) (some g)=some (vc,v,obs)) (z:vc) (A:B2 V x xv) (hh:B2 V ha d) (t:B2 V g f) :
  obs=[]∧∃u,(Instr.sliceAt id xv none (some d) (some f)).run P V.w=.ok u V.w∧B2 V v u:=by
 unfold DZ at h;split at h
 ·rename_i e offs el bytes D l B a C b m n o p;cases m;cases n;cases o;cases p;split at h
  ·rename_i q;subst q;cases h;obtain⟨hu,hs,_⟩:=CD hT k;obtain⟨rfl,rfl⟩:=z;obtain⟨rfl,_⟩:=BR (hh:BW V.w V.O (.int B) d _);obtain⟨rfl,_⟩:=BR (t:BW V.w V.O (.int C) f _);obtain⟨cs,hr,rfl⟩:=(A:BW V.w V.O (.slice e) xv l);obtain⟨a0,c,rfl,s,y,r⟩:=hr;refine⟨rfl,.slice a0 (List.length l) (List.length l),?_,⟨_,⟨a0,_,rfl,NO _,y,r⟩,rfl⟩,a0,rfl⟩;have i:((List.length l:Nat):Int)≤(c:Int):=by omega
   have j:(0:Int)≤((List.length l:Nat):Int):=by omega
   simp[Ty.wrap,Instr.sliceAt,aS hu,Instr.slice,Instr.sliceBounds,Instr.sliceBound,asIntOf,hs V.w,i,j,Addr.add];intro E;exact absurd s (by omega)
  ·cases h
 ·cases h
theorem A1g (hT:D0 P tb id ti) (j:DB P tb) {x:AV} {xv:Value} {lo hi:Option AV} {C B:Option Value}
  (h:Ex (some ti) (some x) (some lo) (some hi)=some (vc,v,obs)) (a:vc) (c:B2 V x xv) (g:ZI (V:=V) lo C) (f:ZI (V:=V) hi B) :
  obs=[]∧∃u,(Instr.sliceAt id xv C B none).run P V.w=.ok u V.w∧B2 V v u:=by
 have i:∀ {o:Option Value} (d:Nat),ZI (V:=V) none o→mO o d d:=fun {o} d h=>by
  cases o with
  | none=>exact .none d
  | some v=>exact h.elim
 have b1:∀ {o:Option Value} {k:IntKind} {z:Int} (d:Nat),ZI (V:=V) (some (.p (.int k) z)) o→0≤z→mO o d z.toNat:=fun {o k z} d h E=>by
  cases o with
  | none=>exact h.elim
  | some v =>
   obtain⟨rfl,_⟩:=BR (h:BW V.w V.O (.int k) v z);exact .some k z d E
 unfold Ex at h;split at h
 ·rename_i e offs el bytes D l a0 h0 q r t y;cases q;cases r;cases t;cases y;split at h
  ·rename_i A;subst A;have c:BW V.w V.O (.slice e) xv l:=c;unfold G7 at h;split at h<;>first|(cases h;done)|(rename_i m;cases m<;>cases h)
   ·exact⟨rfl,S3 hT j rfl c (i 0 g) (b1 _ f a.1) (IN _) (JT a.1 a.2)⟩
   ·exact⟨rfl,S3 hT j rfl c (b1 0 g a.1) (i _ f) (JT a.1 a.2) (NO _)⟩
   ·exact⟨rfl,S3 hT j rfl c (b1 0 g a.1) (b1 _ f (AB5 a.1 a.2.1)) (Xt a.2.1) (JT (AB5 a.1 a.2.1) a.2.2)⟩
  ·cases h
 ·rename_i e offs el bytes n D b c0 a0 h0 q r t y;cases q;cases r;cases t;cases y;split at h
  ·rename_i A;subst A;unfold G7 at h;split at h<;>first|(cases h;done)|(rename_i m;cases m<;>cases h)
   ·refine⟨rfl,?_⟩;have:=S4 (P:=P) hT j rfl c (i 0 g) (b1 _ f a.1) (IN _) (JT a.1 a.2);simpa using this
   ·refine⟨rfl,?_⟩;have:=S4 (P:=P) hT j rfl c (b1 0 g a.1) (i _ f) (JT a.1 a.2) (NO _);have G:=JT a.1 a.2;obtain⟨_,_,_,_,_,F,_⟩:=c;rw[show b+(c0-b)=c0 by omega]at this;exact this
   ·exact⟨rfl,S4 hT j rfl c (b1 0 g a.1) (b1 _ f (AB5 a.1 a.2.1)) (Xt a.2.1) (JT (AB5 a.1 a.2.1) a.2.2)⟩
  ·cases h
 ·rename_i offs el bytes s a0 h0 q r t y;cases q;cases r;cases t;cases y;have c:BW V.w V.O .str xv s:=c;unfold G7 at h;split at h<;>first|(cases h;done)|(rename_i m;cases m<;>cases h)
  ·exact⟨rfl,S5 hT rfl c (i 0 g) (b1 _ f a.1) (IN _) (JT a.1 a.2)⟩
  ·exact⟨rfl,S5 hT rfl c (b1 0 g a.1) (i _ f) (JT a.1 a.2) (NO _)⟩
  ·exact⟨rfl,S5 hT rfl c (b1 0 g a.1) (b1 _ f (AB5 a.1 a.2.1)) (Xt a.2.1) (JT (AB5 a.1 a.2.1) a.2.2)⟩
 ·cases h
end
end
end Go.Proofs.YtdapahgnpbehbaaGreat.Fw
