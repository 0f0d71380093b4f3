/- The executor's quiet operations are sound, first part. -/
import Derived.Test.YtdapahgnpbehbaaGreatIZA
import Derived.Laws.IdiomStrings
set_option linter.unusedVariables false
set_option linter.unusedSimpArgs false
namespace Go.Proofs.YtdapahgnpbehbaaGreat.Fw
section
open Go Go.RowKit
theorem PI {w:World} {O:Nat→Prop}:∀ {t:Ty} {k:Nat} {d:t.den} {pv:PV} {cs:List Value},Gu t k d=some pv→Bo w O t cs d →
  WD t k=some pv.t∧∃o,J3 t k=some o∧o+pv.t.size≤t.size∧Bo w O pv.t ((cs.drop o).take pv.t.size) pv.d
 | .prod a b,0,d,pv,cs,h,c=>by
  simp only[Gu]at h;cases h;obtain⟨c1,c2,rfl,h1,f⟩:=c;refine⟨rfl,0,rfl,by simp[Ty.size],?_⟩;have e:=h1.length;simp only[AA6,←e,List.take_left];exact h1
 | .prod a b,k+1,d,pv,cs,h,c=>by
  simp only[Gu]at h;obtain⟨c1,c2,rfl,h1,f⟩:=c;obtain⟨g,o,i,l,j⟩:=PI h f;refine⟨g,a.size+o,by simp[J3,i],by simp[Ty.size];omega,?_⟩;have e:=h1.length;rw[←e,←ABM,ABC];exact j
 | .int _,0,d,pv,cs,h,c=>by
  simp only[Gu]at h;cases h;refine⟨rfl,0,rfl,by simp,?_⟩;have e:=c.length;simp only[AA6,←e,f9];exact c
 | .bool,0,d,pv,cs,h,c=>by
  simp only[Gu]at h;cases h;refine⟨rfl,0,rfl,by simp,?_⟩;have e:=c.length;simp only[AA6,←e,f9];exact c
 | .str,0,d,pv,cs,h,c=>by
  simp only[Gu]at h;cases h;refine⟨rfl,0,rfl,by simp,?_⟩;have e:=c.length;simp only[AA6,←e,f9];exact c
 | .slice _,0,d,pv,cs,h,c=>by
  simp only[Gu]at h;cases h;refine⟨rfl,0,rfl,by simp,?_⟩;have e:=c.length;simp only[AA6,←e,f9];exact c
 | .ref _,0,d,pv,cs,h,c=>by
  simp only[Gu]at h;cases h;refine⟨rfl,0,rfl,by simp,?_⟩;have e:=c.length;simp only[AA6,←e,f9];exact c
 | .ref _,_+1,d,pv,cs,h,c=>by simp[Gu]at h
 | .agg _,0,d,pv,cs,h,c=>by
  simp only[Gu]at h;cases h;refine⟨rfl,0,rfl,by simp,?_⟩;have e:=c.length;simp only[AA6,←e,f9];exact c
 | .int _,_+1,d,pv,cs,h,c=>by simp[Gu]at h
 | .bool,_+1,d,pv,cs,h,c=>by simp[Gu]at h
 | .str,_+1,d,pv,cs,h,c=>by simp[Gu]at h
 | .slice _,_+1,d,pv,cs,h,c=>by simp[Gu]at h
 | .agg _,_+1,d,pv,cs,h,c=>by simp[Gu]at h
theorem oP {α:Type} (cs:List α) (o m a n:Nat) (h:a+n≤m):(((cs.drop o).take m).drop a).take n=(cs.drop (o+a)).take n:=by
 rw[List.drop_take,AC4,ABM]
 congr 1
 omega
theorem Ta {w:World} {O:Nat→Prop}:∀ {f:List Nat} {t:Ty} {d:t.den} {pv:PV} {cs:List Value} {off:Nat},Qm f t d=some pv→Ln f t=some off→Bo w O t cs d →
  off+pv.t.size≤t.size∧Bo w O pv.t ((cs.drop off).take pv.t.size) pv.d
 | [],t,d,pv,cs,off,h,a,b=>by
  simp only[Qm]at h;simp only[Ln]at a;cases h;cases a;have e:=b.length;simp only[AA6,←e,f9];exact⟨by simp[e],b⟩
 | k :: r,t,d,pv,cs,off,h,a,b=>by
  cases t<;>simp only[Qm,Ln]at h a<;>try(cases h;done)
  rename_i t;split at h
  ·rename_i p hp;have b:Bo w O t cs d:=b;obtain⟨h1,o,g,m,i⟩:=PI hp b;rw[h1,g]at a;simp only[NO]at a;obtain⟨n,l,rfl⟩:=a;obtain⟨j,c⟩:=Ta h l i;refine⟨by simp only[Ty.size];omega,?_⟩;rw[oP _ _ _ _ _ j]at c;exact c
  ·cases h
def A1 {α:Type} (cs:List α) (o:Nat) (a:List α):List α:=cs.take o++a++cs.drop (o+a.length)
theorem FG {α:Type} {cs:List α} {o:Nat} {a:List α} (h:o+a.length≤cs.length):(A1 cs o a).length=cs.length:=by
 simp[A1];omega
theorem Dt {α:Type} {cs a:List α} (h:a.length=cs.length):A1 cs 0 a=a:=by
 simp[A1,h]
theorem PJ {α:Type} (a b:List α) (o:Nat) (c:List α):A1 (a++b) (a.length+o) c=a++A1 b o c:=by
 simp only[A1,List.take_append,ACF,oR];have h1:List.take (a.length+o) a=a:=BY (by omega);have d:List.drop (a.length+o+c.length) a=[]:=IF (by omega);have e:a.length+o-a.length=o:=by omega
 have f:a.length+o+c.length-a.length=o+c.length:=by omega
 rw[h1,d,e,f];simp
theorem Rs {α:Type} (a b:List α) (c:List α) (h:c.length=a.length):A1 (a++b) 0 c=c++b:=by
 simp[A1,h]
theorem Zq {w:World} {O:Nat→Prop}:∀ {t:Ty} {k:Nat} {d i:t.den} {pv:PV} {cs g:List Value} {o:Nat},Lq t k d pv=some i→J3 t k=some o→Bo w O t cs d→Bo w O pv.t g pv.d →
  Bo w O t (A1 cs o g) i∧WD t k=some pv.t
 | .prod a b,0,d,i,pv,cs,g,o,h,c,f,e=>by
  simp only[Lq,NO]at h;obtain⟨y,l,rfl⟩:=h;have:=BA l;subst this;simp only[J3]at c;cases c;obtain⟨c1,c2,rfl,h1,j⟩:=f;rw[Rs _ _ _ (by rw[e.length,h1.length])];exact⟨⟨g,c2,rfl,e,j⟩,rfl⟩
 | .prod a b,k+1,d,i,pv,cs,g,o,h,c,f,e=>by
  simp only[Lq,NO]at h;obtain⟨y,l,rfl⟩:=h;simp only[J3,NO]at c;obtain⟨q,p,rfl⟩:=c;obtain⟨c1,c2,rfl,h1,j⟩:=f;obtain⟨m,n⟩:=Zq l p j e;rw[←h1.length,PJ];exact⟨⟨c1,_,rfl,h1,m⟩,n⟩
 | .int _,0,d,i,pv,cs,g,o,h,c,f,e=>by
  have:=BA h;subst this;simp only[J3]at c;cases c;rw[Dt (by rw[e.length,f.length])];exact⟨e,rfl⟩
 | .bool,0,d,i,pv,cs,g,o,h,c,f,e=>by
  have:=BA h;subst this;simp only[J3]at c;cases c;rw[Dt (by rw[e.length,f.length])];exact⟨e,rfl⟩
 | .str,0,d,i,pv,cs,g,o,h,c,f,e=>by
  have:=BA h;subst this;simp only[J3]at c;cases c;rw[Dt (by rw[e.length,f.length])];exact⟨e,rfl⟩
 | .slice _,0,d,i,pv,cs,g,o,h,c,f,e=>by
  have:=BA h;subst this;simp only[J3]at c;cases c;rw[Dt (by rw[e.length,f.length])];exact⟨e,rfl⟩
 | .ref _,0,d,i,pv,cs,g,o,h,c,f,e=>by
  have:=BA h;subst this;simp only[J3]at c;cases c;rw[Dt (by rw[e.length,f.length])];exact⟨e,rfl⟩
 | .ref _,_+1,d,i,pv,cs,g,o,h,c,f,e=>by simp[Lq]at h
 | .agg _,0,d,i,pv,cs,g,o,h,c,f,e=>by
  have:=BA h;subst this;simp only[J3]at c;cases c;rw[Dt (by rw[e.length,f.length])];exact⟨e,rfl⟩
 | .int _,_+1,d,i,pv,cs,g,o,h,c,f,e=>by simp[Lq]at h
 | .bool,_+1,d,i,pv,cs,g,o,h,c,f,e=>by simp[Lq]at h
 | .str,_+1,d,i,pv,cs,g,o,h,c,f,e=>by simp[Lq]at h
 | .slice _,_+1,d,i,pv,cs,g,o,h,c,f,e=>by simp[Lq]at h
 | .agg _,_+1,d,i,pv,cs,g,o,h,c,f,e=>by simp[Lq]at h
theorem Nh {α:Type} (cs:List α) (o m a:Nat) (b:List α) (h:a+b.length≤m) (l:o+m≤cs.length) :
  A1 cs o (A1 ((cs.drop o).take m) a b)=A1 cs (o+a) b:=by
 apply AC1;intro j;have d:(A1 ((cs.drop o).take m) a b).length=m:=by rw[FG]<;>simp<;>omega
 simp only[A1]at d ⊢;rw[d];simp only[AAo,IN,OS,AA7,oN,AAm];have e:min o cs.length=o:=by omega
 have f:min m (cs.length-o)=m:=by omega
 have g:min a m=a:=by omega
 have i:min (o+a) cs.length=o+a:=by omega
 rw[e,f,g,i];by_cases c1:j<o
 ·have:j<o+(a+b.length+(m-(a+b.length))):=by omega
  simp[c1,this,show j<o+a by omega,show j<o+a+b.length by omega]
 ·by_cases c2:j<o+a
  ·simp[c1,c2,show j-o<a by omega,show j-o<m by omega,show j<o+(a+b.length+(m-(a+b.length))) by omega,show j<o+a+b.length by omega,show j-o<a+b.length by omega,show o+(j-o)=j by omega]
  ·by_cases c:j<o+a+b.length
   ·simp[c1,c2,c,show ¬j-o<a by omega,show j<o+(a+b.length+(m-(a+b.length))) by omega,show j-o<a+b.length by omega,show j-o-a=j-(o+a) by omega]
   ·by_cases k:j<o+m
    ·simp[c1,c2,c,show ¬j-o<a by omega,show ¬j-o<a+b.length by omega,show j<o+(a+b.length+(m-(a+b.length))) by omega,show a+b.length+(j-o-(a+b.length))<m by omega]
     congr 1
     omega
    ·simp[c1,c2,c,show ¬j<o+(a+b.length+(m-(a+b.length))) by omega]
     congr 1
     omega
theorem Tc {w:World} {O:Nat→Prop}:∀ {l:List Nat} {t:Ty} {d f:t.den} {pv:PV} {cs c:List Value} {off:Nat},Sb l t d pv=some f→Ln l t=some off→Bo w O t cs d→Bo w O pv.t c pv.d →
  Bo w O t (A1 cs off c) f∧off+c.length≤cs.length
 | [],t,d,f,pv,cs,c,off,h,b,a,e=>by
  have:=BA h;subst this;simp only[Ln]at b;cases b;rw[Dt (by rw[e.length,a.length])];exact⟨e,by simp[e.length,a.length]⟩
 | k :: r,t,d,f,pv,cs,c,off,h,b,a,e=>by
  cases t<;>simp only[Sb,Ln]at h b<;>try(cases h;done)
  rename_i t;have a:Bo w O t cs d:=a;split at h
  ·rename_i p hp;obtain⟨h1,o,g,v,m⟩:=PI hp a;rw[h1,g]at b;simp only[NO]at b;obtain⟨z,s,rfl⟩:=b;split at h
   ·rename_i y u;obtain⟨n,i⟩:=Tc u s m e;have x:=a.length;have q:((cs.drop o).take p.t.size).length=p.t.size:=by simp;omega
    rw[q]at i;obtain⟨j,_⟩:=Zq (pv:=⟨p.t,y⟩) h g a n;rw[Nh _ _ _ _ _ i (by omega)]at j;exact⟨j,by omega⟩
   ·cases h
  ·cases h
end
section
open Go Go.RowKit
section
variable {V:Vw}
theorem NS.length {x:AV} {cs:List Value} (h:NS V x cs):cs.length=x.cells:=by
 cases x;case p t d=>exact Bo.length (show Bo V.w V.O t cs d from h)
 case ag l=>obtain⟨v,_,_,hf⟩:=h;exact hf.elim
 case tup l=>obtain⟨v,_,_,hf⟩:=h;exact hf.elim
 all_goals(obtain⟨v,rfl,_⟩:=h;rfl)
theorem NS.one {x:AV} {cs:List Value} (h:NS V x cs):∀u∈cs,u.oneCell'=true:=by
 cases x;case p t d=>exact Bo.one (show Bo V.w V.O t cs d from h)
 all_goals(obtain⟨v,rfl,h1,_⟩:=h;intro u hu;simp at hu;subst hu;exact h1)
theorem DX.one:∀ {l:List AV} {cs:List Value},DX V l cs→∀u∈cs,u.oneCell'=true
 | [],cs,h=>by have h:cs=[]:=h;subst h;simp
 | x :: r,cs,h=>by
  obtain⟨c1,c2,rfl,h1,a⟩:=h;intro u hu;rcases OF.1 hu with hu|hu
  ·exact h1.one u hu
  ·exact a.one u hu
theorem DX.length:∀ {l:List AV} {cs:List Value},DX V l cs→cs.length=CA l l.length
 | [],cs,h=>by have h:cs=[]:=h;subst h;rfl
 | x :: r,cs,h=>by
  obtain⟨c1,c2,rfl,h1,a⟩:=h;simp only[IN,Of,CA];rw[h1.length,a.length]
theorem DX.get:∀ {l:List AV} {cs:List Value} {k:Nat} {x:AV},DX V l cs→l[k]?=some x →
  CA l k+x.cells≤cs.length∧NS V x ((cs.drop (CA l k)).take x.cells)
 | [],cs,k,x,h,hk=>by simp at hk
 | y :: r,cs,0,x,h,hk=>by
  obtain⟨c1,c2,rfl,h1,a⟩:=h;simp at hk;subst hk;have:=h1.length;simp only[CA,AA6,←this,List.take_left];exact⟨by simp,h1⟩
 | y :: r,cs,k+1,x,h,hk=>by
  obtain⟨c1,c2,rfl,h1,a⟩:=h;have hk:r[k]?=some x:=by simpa using hk
  obtain⟨c,b⟩:=DX.get a hk;have:=h1.length;refine⟨by simp only[CA,IN];omega,?_⟩;simp only[CA,←this];rw[←ABM,ABC];exact b
theorem DX.set:∀ {l:List AV} {cs:List Value} {k:Nat} {x y:AV} {a:List Value},DX V l cs→l[k]?=some x→NS V y a→y.cells=x.cells →
  DX V (l.set k y) (A1 cs (CA l k) a)
 | [],cs,k,x,y,a,h,hk,b,c=>by simp at hk
 | z :: r,cs,0,x,y,a,h,hk,b,c=>by
  obtain⟨c1,c2,rfl,h1,d⟩:=h;simp at hk;subst hk;simp only[CA,ABQ];rw[Rs _ _ _ (by rw[b.length,h1.length,c])];exact⟨a,c2,rfl,b,d⟩
 | z :: r,cs,k+1,x,y,a,h,hk,b,c=>by
  obtain⟨c1,c2,rfl,h1,d⟩:=h;have hk:r[k]?=some x:=by simpa using hk
  have:=h1.length;simp only[CA,ABR,←this];rw[PJ];exact⟨c1,_,rfl,h1,DX.set d hk b c⟩
theorem j7 {ty:Ty} {x:AV} {b:List Value} (a:NS V x b) (hf:CP ty x=true):b.length=ty.size∧B0 V x (ty.wrap b):=by
 cases x;case p t d =>
  simp only[CP,DO]at hf;subst hf;have a:Bo V.w V.O ty b d:=a;exact⟨Bo.length a,b,a,rfl⟩
 case ag l=>obtain⟨v,_,_,hf⟩:=a;exact hf.elim
 case tup l=>obtain⟨v,_,_,hf⟩:=a;exact hf.elim
 all_goals
  obtain⟨v,rfl,_,h1⟩:=a;have c:ty.cell1=true:=by simp only[CP]at hf;first|exact hf|(simp only[AT]at hf;exact hf.2)|exact absurd hf (by decide)
  cases ty<;>first|(cases c;done)|exact⟨rfl,h1⟩
theorem wK {ty:Ty} {x:AV} {v:Value} (i:B0 V x v) (hf:CP ty x=true) (o:ty.cell1=true→v.oneCell'=true):v.cells.size=ty.size∧((∀l,x≠.ag l)→NS V x v.cells.toList):=by
 cases x;case p t d =>
  simp only[CP,DO]at hf;subst hf;obtain⟨cs,f,rfl⟩:=i;have g:=f.length;cases ty;case agg t=>exact⟨by simpa[Ty.wrap,Value.cells] using g,fun _=>by simpa[Ty.wrap,Value.cells,NS] using f⟩
  case prod a b=>exact⟨by simpa[Ty.wrap,Value.cells] using g,fun _=>by simpa[Ty.wrap,Value.cells,NS] using f⟩
  case slice e =>
   obtain⟨a,c,rfl,h⟩:=f;exact⟨rfl,fun _=>⟨a,c,rfl,h⟩⟩
  case int k =>
   obtain⟨rfl,h⟩:=f;exact⟨rfl,fun _=>⟨rfl,h⟩⟩
  case bool =>
   have f:cs=_:=f;subst f;exact⟨rfl,fun _=>rfl⟩
  case str =>
   obtain⟨rfl,h⟩:=f;exact⟨rfl,fun _=>⟨rfl,h⟩⟩
  case ref k =>
   have f:cs=[Ki k]:=f;subst f;have q:(Ty.ref k).wrap [Ki k]=Ki k:=rfl;rw[q];match k with
   | 0=>exact⟨rfl,fun _=>rfl⟩
   | 1=>exact⟨rfl,fun _=>rfl⟩
   | _+2=>exact⟨rfl,fun _=>rfl⟩
 case ag l =>
  obtain⟨cs,rfl,n⟩:=i;have g:=n.length;cases ty<;>simp only[CP]at hf<;>try(cases hf;done)
  rename_i t;simp only[tO]at hf;exact⟨by simp[Value.cells,Ty.size,g,hf],fun h=>absurd rfl (h l)⟩
 case tup l=>simp[CP]at hf
 all_goals
  have h1:ty.cell1=true:=by simp only[CP]at hf;first|exact hf|(simp only[AT]at hf;exact hf.2)|exact absurd hf (by decide)
  have j:v.oneCell'=true:=o h1;have m:v.cells=#[v]:=by cases v<;>first|rfl|simp[Value.oneCell']at j
  have hs:ty.size=1:=by cases ty<;>simp[Ty.cell1]at h1<;>rfl
  rw[m];exact⟨by simp[hs],fun _=>⟨v,rfl,j,i⟩⟩
end
end
section
open Go Go.RowKit
section
variable {P:Program} {tb:Tb} {id:TypeId} {ti:TI} {w:World} {O0:Nat→Prop} {σ:St} {ρ:Nat→Value} {vc:Prop} {v:AV} {obs:List (Nat×Obj)}
theorem Wa {w:World} {base:Nat} {et:TypeId} {size:Nat} {g m c n:Nat} {cells:List Value} (h:w.ownsRow base et size (.slice (some ⟨g,0,none⟩) m c) n cells) :
  m=n∧∀(j:Nat) (u:Value),cells[j]?=some u→w.cell? ⟨g,j,none⟩=some u:=by
 constructor
 ·rcases h.2 with ⟨a,_⟩|⟨e,cap,d,a,_⟩
  ·injection a with h1;cases h1
  ·injection a
 ·intro j u b;have:=h.cells (g:=g) rfl j u b
  rwa [Zi]at this
theorem wL (hT:ED P tb id ti) (U:∀n o,lk n σ.objs=some o→A3 (vw w O0 σ ρ) o (ρ n)) {x:AV} {xv:Value}
  (h:I5 σ (some ti) (some x)=some (vc,v,obs)) (W:B0 (vw w O0 σ ρ) x xv):obs=[]∧∃u,(Instr.loadAt id xv).run P w=.ok u w∧B0 (vw w O0 σ ρ) v u:=by
 unfold I5 at h;split at h
 ·rename_i n Y off N O;cases N;cases O;obtain⟨aa,b,z,rfl⟩:=W;cases hn:lk n σ.objs with
  | none=>rw[hn]at h;simp[EP]at h
  | some o =>
   rw[hn]at h;cases o with
   | arr et e xs=>simp[EP]at h
   | mapo k v l=>simp[EP]at h
   | frame bg fs=>simp[EP]at h
   | loop L=>simp[EP]at h
   | itr bb be bc bd az=>simp[EP]at h
   | dfr=>simp[EP]at h
   | nest et ba k e xs a=>simp[EP]at h
   | box et st fs =>
    simp only[EP]at h;cases a:I3 st fs Y with
    | none=>rw[a]at h;simp[Hg]at h
    | some y =>
     rw[a]at h;simp only[Hg]at h;split at h
     ·rename_i H;obtain⟨C,D⟩:=H;cases h;obtain⟨bk,b',cs,s,ao,M⟩:=U n _ hn;have z:ρ n=_:=z;rw[z]at s;injection s with s
      injection s with s
      injection s with s
      subst s;have B:∀(I:List Value) (o:Nat),I=(cs.drop o).take I.length→∀(j:Nat) (u:Value),I[j]?=some u→w.cell? ((⟨b,o,none⟩:Addr).add j)=some u:=by
       intro I o ae j u f;rw[J2,cell_of_row w b (o+j) cs.toArray et (0,0) ao];rw[ae,oN,AAm]at f;split at f
       ·simpa using f
       ·cases f
      refine⟨rfl,?_⟩;unfold I3 at a;split at a
      · -- the whole
       simp only[Nx]at D;cases D;cases st with
       | true =>
        simp only[AAH]at a;cases a;have bi:=M.length;cases p:ti.ty<;>rw[p]at C<;>simp only[CP]at C<;>try(cases C;done)
        rename_i t;simp only[tO]at C;have aw:cs.length=ti.ty.size:=by rw[p];simp only[Ty.size];omega
        have:=El w hT aw (B cs 0 (by simp));refine⟨_,this,cs,?_,M⟩;rw[p];rfl
       | false =>
        simp only[AAL,AAY]at a;have ay:CA fs 0=0:=by cases fs<;>rfl
        obtain⟨h1,q⟩:=M.get a;rw[ay]at q;obtain⟨F,J⟩:=j7 q C;have:=El w hT F (B _ 0 (by rw[q.length]));exact⟨_,this,J⟩
      · -- a field
       rename_i k;cases st with
       | false=>simp at a
       | true =>
        simp only[AAH]at a;obtain⟨h1,q⟩:=M.get a;obtain⟨F,J⟩:=j7 q C;have au:off=CA fs k:=by
         simp only[Nx,a]at D;cases v<;>simp only[Ln,AAX,List.isEmpty_nil,AAH]at D<;>cases D<;>rfl
        subst au;have:=El w hT F (B _ (CA fs k) (by rw[q.length]));exact⟨_,this,J⟩
      ·rename_i k r V;cases st with
       | false=>simp at a
       | true =>
        simp only[AAH]at a;split at a
        ·rename_i t d hk;simp only[NO]at a;obtain⟨pv,av,rfl⟩:=a;simp only[Nx,hk,NO]at D;obtain⟨bf,ar,rfl⟩:=D;obtain⟨h1,q⟩:=M.get hk;have q:Bo w (own O0 σ ρ) t _ d:=q;obtain⟨Z,G⟩:=Ta av ar q;simp only[AV.cells]at h1 G;rw[oP _ _ _ _ _ Z]at G;simp only[CP,DO]at C;have R:=G.length;have:=El w hT (by rw[C];exact R) (B _ (CA fs k+bf) (by rw[R]));rw[C]at this;exact⟨_,this,_,G,rfl⟩
        ·cases a
     ·cases h
 ·rename_i n e i Y off N O;cases N;cases O;obtain⟨aa,g,m,c,z,Q,rfl⟩:=W;cases hn:lk n σ.objs with
  | none=>rw[hn]at h;simp[ER]at h
  | some o =>
   rw[hn]at h;cases o with
   | box et st fs=>simp[ER]at h
   | mapo k v l=>simp[ER]at h
   | frame bg fs=>simp[ER]at h
   | loop L=>simp[ER]at h
   | itr bb be bc bd az=>simp[ER]at h
   | dfr=>simp[ER]at h
   | nest et ba k A xs a =>
    cases a with
    | some j=>simp[ER]at h
    | none =>
     simp only[ER]at h;split at h
     ·rename_i al;subst al;obtain⟨o,ins,cells,s,T⟩:=U n _ hn;have z:plc (ρ n)=_:=z;have aq:plc (ρ n)=o:=s.plc;have E:=T.own;rw[←aq,z]at E;obtain⟨rfl,B⟩:=Wa E;have X:xs[i]?=some (xs.getD i (k.dflt,[])):=by
       rw[An Q,AS,An Q];rfl
      have S:i<ins.length:=by rw[T.len];exact Q
      obtain⟨c1,v1,ab,ag,F⟩:=T.row i _ ins[i] X (An S);rcases F with ⟨F,_⟩|⟨_,ah,J⟩
      ·cases F
      ·have af:c1.length=k.size:=ag.length;unfold Lt at h;split at h
       ·split at h
        ·rename_i K;obtain⟨p,rfl⟩:=K;cases h;have:=El (ad:=⟨g,i*(Ty.agg (.prod k (.slice A))).size+0,none⟩) w hT (by rw[p];exact af) (fun j u f=>by
          rw[J2];refine B _ _ (ab j u ?_);rw[oS (Ro.1 f).1];exact f)
         rw[p]at this;exact⟨rfl,_,this,c1,ag,rfl⟩
        ·cases h
       ·split at h
        ·rename_i K;obtain⟨p,rfl⟩:=K;cases h;have:=El (ad:=⟨g,i*(Ty.agg (.prod k (.slice A))).size+k.size,none⟩) (cs:=[v1]) w hT (by rw[p];rfl) (fun j u f=>by
          have ap:j=0:=by have:=(Ro.1 f).1;simpa using this
          subst ap;rw[J2];refine B _ _ (ab k.size u ?_);rw[AA4 (by omega),af,AB1];exact f)
         rw[p]at this;obtain⟨ai,aj,ax⟩:=wE ah J;exact⟨rfl,_,this,aa,_,ai,aj,ins[i],s.resolve_right (fun h=>by rw[h.2.2]at S;simp at S),by simp[S],ah,ax⟩
        ·cases h
       ·cases h
     ·cases h
   | arr et A xs =>
    simp only[ER]at h;cases H:BO (.slice e) ⟨.slice A,xs⟩ with
    | none=>rw[H]at h;simp[Hi]at h
    | some ys =>
     obtain⟨rfl,q⟩:=Bi H;cases q;rw[H]at h;simp only[Hi]at h;cases hp:Qm Y A (xs.getD i A.dflt) with
     | none=>rw[hp]at h;simp[Hh]at h
     | some pv =>
      rw[hp]at h;simp only[Hh]at h;split at h
      ·rename_i K;obtain⟨p,D⟩:=K;cases h;obtain⟨bj,cells,E,am⟩:=U n _ hn;have z:plc (ρ n)=_:=z;have E:w.ownsRow 0 et A.size (ρ n) xs.length cells:=E;rw[Hk E]at z;rw[z]at E;obtain⟨rfl,B⟩:=Wa E;have X:xs[i]?=some (xs.getD i A.dflt):=by
        rw[An Q,AS,An Q];rfl
       obtain⟨I,ae,ak,an⟩:=am i _ X;obtain⟨Z,G⟩:=Ta hp D an;have R:=G.length;have:=El (ad:=⟨g,i*A.size+off,none⟩) w hT (by rw[p];exact R) (fun j u f=>by
        rw[J2,ABI];rw[oN,AAm]at f;split at f
        ·exact B _ _ (ak _ _ f)
        ·cases f)
       rw[p]at this;exact⟨rfl,_,this,_,G,rfl⟩
      ·cases h
 ·rename_i u d N O;cases N;cases O;obtain⟨ad,cs,rfl,bh,H,V⟩:=W;split at h
  ·rename_i p;cases h;have:=El w hT (by rw[p];exact V.length) H;rw[p]at this;exact⟨rfl,_,this,cs,V,rfl⟩
  ·cases h
 ·cases h
end
end
section
open Go Go.RowKit
section
variable {P:Program} {tb:Tb} {id:TypeId} {ti:TI} {w:World} {V:Vw} {vc:Prop} {v:AV} {obs:List (Nat×Obj)}
theorem j8 {α:Type} {l:List α} {k:Nat} {x:α} (h:l[k]?=some x):x∈l:=AAf h
theorem Zr (hT:ED P tb id ti) {u:Ty} (p:ti.ty=.agg u) (d:ti.el=0) {f k s:Nat} (hf:ti.offs[f]?=some (k,s)) (ad:Addr) (w:World) :
  (Instr.fieldAt id (.pointer (some ad)) f).run P w=.ok (.pointer (some (ad.add k))) w:=by
 obtain⟨⟨⟨m,_⟩,_⟩,a⟩:=hT;rw[p]at a;simp only at a;rcases a with ⟨fs,_,hu,o⟩|⟨n,e,i,l,_⟩
 ·have b:(ti.offs.map some)[f]?=some (some (k,s)):=by simp[hf]
  rw[o]at b;simp only[AAl,NO]at b;obtain⟨fl,h,g⟩:=b;obtain⟨i,hi,c⟩:=g;cases c;have j:fs[f]?=some fl:=by simpa using h
  have hs:i.size≠0:=m _ (j8 hf);simp[Instr.fieldAt,dO hu,j,Instr.sureAddr,fieldPlace,sizeOf,Lx w hi,hs]
 ·exact absurd d l
theorem Zs (hT:ED P tb id ti) {u:Ty} (h:ti.ty=.agg u) (c:ti.el≠0) {k s:Nat} {z:Int} {kd:IntKind} (j:0≤z) (hf:ti.offs[z.toNat]?=some (k,s)) (ad:Addr) (w:World) :
  (Instr.indexAt id (.pointer (some ad)) (.int kd z)).run P w=.ok (.pointer (some (ad.add k))) w:=by
 obtain⟨_,a⟩:=hT;rw[h]at a;simp only at a;rcases a with ⟨fs,h0,_⟩|⟨n,e,i,_,hu,hi,g⟩
 ·exact absurd h0 c
 ·rw[g]at hf;simp only[AAl,NO]at hf;obtain⟨l,d,b⟩:=hf;cases b;obtain⟨h1,a⟩:=Ro.1 d;simp only[ABZ]at h1;simp only[ABb]at a;subst a;have f:z<(n:Int):=by omega
  simp[Instr.indexAt,asIntOf,dO hu,Instr.sureAddr,sizeOf,Lx w hi,j,f]
theorem wM {f:Nat} {o:Option (Nat×Nat)} {x:AV} {xv:Value} {run:Value→Result Value} (y:∀k s ad,o=some (k,s)→run (.pointer (some ad))=.ok (.pointer (some (ad.add k))) w)
  (h:NY f o x=some (vc,v,obs)) (z:B0 V x xv):obs=[]∧∃u,run xv=.ok u w∧B0 V v u:=by
 unfold NY at h;split at h
 ·rename_i n G off;obtain⟨q,b,A,rfl⟩:=z;cases o with
  | none=>simp[Sd]at h
  | some p =>
   obtain⟨k,s⟩:=p;simp only[Sd]at h;cases h;exact⟨rfl,_,y k s _ rfl,q,b,A,by rw[J2]⟩
 ·rename_i n e i G off;obtain⟨q,g,m,c,A,F,rfl⟩:=z;cases o with
  | none=>simp[Sd]at h
  | some p =>
   obtain⟨k,s⟩:=p;simp only[Sd]at h;cases h;exact⟨rfl,_,y k s _ rfl,q,g,m,c,A,F,by rw[J2,ABI]⟩
 ·rename_i u d;obtain⟨ad,cs,rfl,D,E,t⟩:=z;cases r:Gu u f d with
  | none=>rw[r]at h;simp[Hj]at h
  | some pv =>
   rw[r]at h;simp only[Hj]at h;split at h
   ·rename_i l;cases h;have t:Bo V.w V.O u cs d:=t;obtain⟨h1,I,B,H,C⟩:=PI r t;rw[B]at l;cases o with
    | none=>simp at l
    | some p =>
     obtain⟨k,s⟩:=p;simp only[AAX,AAv]at l;subst l;refine⟨rfl,_,y k s _ rfl,ad.add k,_,rfl,by rw[CK];exact D,fun j u a=>?_,C⟩;rw[DW];rw[oN,AAm]at a;split at a
     ·exact E _ _ a
     ·cases a
   ·cases h
 ·cases h
theorem A2r (hT:ED P tb id ti) {f:Nat} {x:AV} {xv:Value} (w:World)
  (h:GU f (some ti) (some x)=some (vc,v,obs)) (e:B0 V x xv):obs=[]∧∃u,(Instr.fieldAt id xv f).run P w=.ok u w∧B0 V v u:=by
 unfold GU at h;split at h
 ·rename_i u offs b g a c;cases a;cases c;exact wM (run:=fun xv=>(Instr.fieldAt id xv f).run P w) (fun k s ad d=>Zr hT rfl rfl d ad w) h e
 ·cases h
theorem Ru {e:TypeId} (hu:P.underlying id=some (.slice e)) {size:Nat} (hs:(sizeOf e).run P w=.ok size w) (a:Addr) (n c:Nat) (k:IntKind) (i:Int) (h0:0≤i) (h1:i<n) :
  (Instr.indexAt id (.slice (some a) n c) (.int k i)).run P w=.ok (.pointer (some (a.add (i.toNat*size)))) w:=by
 simp[Instr.indexAt,asIntOf,dO hu,h0,h1,hs]
theorem A8v {e:Ty} {el:TypeId} (hu:P.underlying id=some (.slice el)) (hs:(sizeOf el).run P V.w=.ok e.size V.w) {l:List e.den} {kd:IntKind} {k:Int} {xv:Value}
  (r:BX V.w V.O (.slice e) xv l) (o:0≤k) (p:k<(l.length:Int)) :
  ∃u,(Instr.indexAt id xv (.int kd k)).run P V.w=.ok u V.w∧B0 V (.ip e (l.getD k.toNat e.dflt)) u:=by
 obtain⟨cs,i,rfl⟩:=r;obtain⟨a,c,rfl,h1,t,b⟩:=i;have d:k.toNat<l.length:=by omega
 rcases b with b|⟨ad,rfl,g,m⟩
 ·subst b;simp at d
 ·refine⟨_,Ru hu hs _ _ _ _ _ o p,?_⟩;have s:l[k.toNat]?=some (l.getD k.toNat e.dflt):=by
   rw[An d,AS,An d];rfl
  obtain⟨f,v,h,q⟩:=m _ _ s;exact⟨_,f,rfl,by rw[CK];exact g,fun j u n=>by rw[DW];exact h j u n,q⟩
theorem A8w {e:Ty} {el:TypeId} (hu:P.underlying id=some (.slice el)) (hs:(sizeOf el).run P V.w=.ok e.size V.w) {n lo hi:Nat} {kd:IntKind} {k:Int} {xv:Value}
  (s:B0 V (.sr n e lo hi) xv) (h:∀n,V.L n→∃o,A3 V o (V.ρ n)) (j:0≤k) (l:k<((hi-lo:Nat):Int)) :
  ∃u,(Instr.indexAt id xv (.int kd k)).run P V.w=.ok u V.w∧B0 V (.ep n e (lo+k.toNat) [] 0) u:=by
 obtain⟨d,a,m,c,f,A,z,t,v,rfl,y,h0,h1⟩:=s;have p:lo<hi:=by omega
 have i:=h1 p;obtain⟨o,q⟩:=h n d;obtain⟨g,rfl⟩:∃g,a=some ⟨g,0,none⟩:=by
  obtain⟨_,_,cells,r,_⟩:=WZ q f;rcases r.2 with ⟨b,hn⟩|⟨g,cap,x,b,_⟩
  ·injection b;omega
  ·injection b with b;exact⟨g,b⟩
 subst i;refine⟨_,Ru hu hs _ _ _ _ _ j l,d,g,m,c,f,by omega,?_⟩;rw[DW,Zi,ABA];rfl
theorem BQ {O:Nat→Prop} {w:World} {kd:IntKind} {k:Int} {v:Value} (h:BX w O (.int kd) v k):v=.int kd k∧LU kd k:=by
 obtain⟨cs,⟨rfl,h1⟩,rfl⟩:=h;exact⟨rfl,h1⟩
theorem BN {O:Nat→Prop} {w:World} {kd:IntKind} {k:Int} (h:LU kd k):BX w O (.int kd) (.int kd k) k:=⟨_,⟨rfl,h⟩,rfl⟩
theorem EK {O:Nat→Prop} {w:World} {b:Bool} {v:Value} (h:BX w O .bool v b):v=.bool b:=by
 obtain⟨cs,h1,rfl⟩:=h;have h1:cs=_:=h1;subst h1;rfl
theorem Be {O:Nat→Prop} {w:World} (b:Bool):BX w O .bool (.bool b) b:=⟨[.bool b],rfl,rfl⟩
theorem Gv {O:Nat→Prop} {w:World} {s:ByteArray} {v:Value} (h:BX w O .str v s):v=.string s∧s.size≤AO:=by
 obtain⟨cs,⟨rfl,h1⟩,rfl⟩:=h;exact⟨rfl,h1⟩
theorem Td {O:Nat→Prop} {w:World} {s:ByteArray} (h:s.size≤AO):BX w O .str (.string s) s:=⟨_,⟨rfl,h⟩,rfl⟩
theorem CD {e:Ty} {offs:List (Nat×Nat)} {el:TypeId} {bytes:Nat} (hT:ED P tb id ⟨.slice e,offs,el,bytes⟩) (b:DF P tb) :
  P.underlying id=some (.slice el)∧(∀w,(sizeOf el).run P w=.ok e.size w)∧∃te,lk el tb.ty=some te∧te.ty=e:=by
 obtain⟨_,hu,te,a,rfl⟩:=hT;exact⟨hu,fun w=>IG w (b _ _ a),te,a,rfl⟩
theorem A2s (hT:ED P tb id ti) (m:DF P tb) {x y:AV} {xv p:Value}
  (h:FT (some ti) (some x) (some y)=some (vc,v,obs)) (f:vc) (i:B0 V x xv) (j:B0 V y p) (r:∀n,V.L n→∃o,A3 V o (V.ρ n)) :
  obs=[]∧∃u,(Instr.indexAt id xv p).run P V.w=.ok u V.w∧B0 V v u:=by
 unfold FT at h;split at h
 ·rename_i e offs el bytes q l kd k a c d;cases a;cases c;cases d;split at h
  ·rename_i g;subst g;cases h;obtain⟨hu,hs,_⟩:=CD hT m;obtain⟨rfl,_⟩:=BQ j;exact⟨rfl,A8v hu (hs _) i f.1 f.2⟩
  ·cases h
 ·rename_i e offs el bytes n q lo hi kd k a c d;cases a;cases c;cases d;split at h
  ·rename_i g;subst g;cases h;obtain⟨hu,hs,_⟩:=CD hT m;obtain⟨rfl,_⟩:=BQ j;exact⟨rfl,A8w hu (hs _) i r f.1 f.2⟩
  ·cases h
 ·rename_i u offs el b A B a c d;cases a;cases c;cases d;unfold I6 at h;split at h
  ·rename_i kd k;split at h
   ·rename_i hk;obtain⟨rfl,_⟩:=BQ j;exact wM (run:=fun xv=>(Instr.indexAt id xv (.int kd k)).run P V.w) (fun z s ad t=>Zs hT rfl (by simp) hk t ad V.w) h i
   ·cases h
  ·cases h
 ·cases h
theorem Ku {k:IntKind} {n:Int} (h:LU k n):k.wrap n=n:=by
 obtain⟨h1,a⟩:=h;cases k<;>simp[IntKind.min,IntKind.max,IntKind.signed,IntKind.bits]at h1 a<;>simp[IntKind.wrap,IntKind.signed,IntKind.bits]<;>omega
theorem Mr (k:IntKind) (n:Int):LU k (k.wrap n):=by
 cases k<;>simp only[LU,IntKind.min,IntKind.max,IntKind.wrap,IntKind.signed,IntKind.bits]<;>simp<;>omega
theorem A4C {op:BinOp} {t:TypeId} {k e:IntKind} {a b:Int} (w:World) (c:(wC op k a e b).1) (ha:LU k a) :
  ∃u,(binOp op t (.int k a) (.int e b)).run P w=.ok u w∧B0 V (wC op k a e b).2 u:=by
 unfold wC at c ⊢;split at c
 ·have d:¬b<0:=by have h:0≤b:=c;omega
  exact⟨_,by simp[binOp,Op.shift,d];rfl,BN (Mr _ _)⟩
 ·have d:¬b<0:=by have h:0≤b:=c.1;omega
  exact⟨_,by simp[binOp,Op.shift,d];rfl,BN c.2⟩
 ·split at c
  ·rename_i f g hk;subst hk;cases op<;>simp only[Zj]at c ⊢;case add=>exact⟨.int k (a+b),by simp[binOp,Op.intArith,Ku c],BN c⟩
   case sub=>exact⟨.int k (a-b),by simp[binOp,Op.intArith,Ku c],BN c⟩
   case mul=>exact⟨.int k (a*b),by simp[binOp,Op.intArith,Ku c],BN c⟩
   case quo=>exact⟨.int k (a.tdiv b),by simp[binOp,Op.intDiv,c.1,Ku c.2],BN c.2⟩
   case rem=>exact⟨.int k (a.tmod b),by simp[binOp,Op.intDiv,c.1],BN c.2⟩
   case and=>exact⟨.int k (B7 .and k a b),by simp only[binOp,ne_eq,ABX,AAY,Op.intBits];rfl,BN (Mr _ _)⟩
   case or=>exact⟨.int k (B7 .or k a b),by simp only[binOp,ne_eq,ABX,AAY,Op.intBits];rfl,BN (Mr _ _)⟩
   case xor=>exact⟨.int k (B7 .xor k a b),by simp only[binOp,ne_eq,ABX,AAY,Op.intBits];rfl,BN (Mr _ _)⟩
   case andNot=>exact⟨.int k (B7 .andNot k a b),by simp only[binOp,ne_eq,ABX,AAY,Op.intBits];rfl,BN (Mr _ _)⟩
   case eql=>exact⟨.bool (a==b),by simp[binOp,Op.intCmp],Be _⟩
   case neq=>exact⟨.bool (a != b),by simp[binOp,Op.intCmp],Be _⟩
   case lss=>exact⟨.bool (decide (a<b)),by simp[binOp,Op.intCmp],Be _⟩
   case leq=>exact⟨.bool (decide (a≤b)),by simp[binOp,Op.intCmp],Be _⟩
   case gtr=>exact⟨.bool (decide (b<a)),by simp[binOp,Op.intCmp],Be _⟩
   case geq=>exact⟨.bool (decide (b≤a)),by simp[binOp,Op.intCmp],Be _⟩
  ·exact c.elim
theorem A2t {op:BinOp} {t:TypeId} {a b:ByteArray} (w:World) (c:(TT a b op).1) :
  ∃u,(binOp op t (.string a) (.string b)).run P w=.ok u w∧B0 V (TT a b op).2 u:=by
 cases op<;>simp only[TT]at c ⊢;case add =>
  have d:AO=140737488355328:=rfl;have hh:¬(((a.size+b.size:Nat):Int) > IntKind.i64.max):=by
   have:IntKind.i64.max=9223372036854775807:=by decide
   omega
  exact⟨.string (a++b),by simp only[binOp,Op.stringOp,As hh];rfl,Td (by simpa[ABq] using c)⟩
 case eql=>exact⟨.bool (Aa a b),by simp only[binOp,Op.stringOp];rfl,Be _⟩
 case neq=>exact⟨.bool (!Aa a b),by simp only[binOp,Op.stringOp];rfl,Be _⟩
 case lss=>exact⟨.bool (HT a b),by simp only[binOp,Op.stringOp];rfl,Be _⟩
 case leq=>exact⟨.bool (HT a b||Aa a b),by simp only[binOp,Op.stringOp];rfl,Be _⟩
 case gtr=>exact⟨.bool (!(HT a b||Aa a b)),by simp only[binOp,Op.stringOp];rfl,Be _⟩
 case geq=>exact⟨.bool (!HT a b),by simp only[binOp,Op.stringOp];rfl,Be _⟩
 all_goals exact c.elim
theorem A5O {op:BinOp} {t:TypeId} {ti:Option TI} (n:O4 ti=true→P.underlying t=some .bool) {x y:AV} {xv l:Value} (w:World)
  (h:O5 op ti (some x) (some y)=some (vc,v,obs)) (m:vc) (i:B0 V x xv) (j:B0 V y l) :
  obs=[]∧(∀e f,(eqGuard op t e f xv l).run P w=.ok () w)∧∃u,(binOp op t xv l).run P w=.ok u w∧B0 V v u:=by
 unfold O5 at h;split at h
 ·rename_i k a o b c d;cases c;cases d;cases h;obtain⟨rfl,ha⟩:=BQ i;obtain⟨rfl,_⟩:=BQ j;refine⟨rfl,fun e f=>?_,A4C w m ha⟩;cases op<;>simp[eqGuard]
 ·rename_i a b c d;cases c;cases d;cases h;obtain⟨rfl,ha⟩:=Gv i;obtain⟨rfl,_⟩:=Gv j;refine⟨rfl,fun e f=>?_,A2t w m⟩;cases op<;>simp[eqGuard]
 ·rename_i a b c d;cases c;cases d;have ha:=EK i;have g:=EK j;subst ha g;split at h
  ·rename_i g;have hu:=n g;cases op<;>simp only[Zm]at h<;>cases h
   ·exact⟨rfl,fun e f=>by simp[eqGuard],.bool (a==b),by simp[binOp,run_equal_bool w t a b hu],Be _⟩
   ·exact⟨rfl,fun e f=>by simp[eqGuard],.bool (a != b),by simp[binOp,run_equal_bool w t a b hu,bne],Be _⟩
  ·cases h
 ·cases h
theorem A8x {op:UnOp} {x:AV} {xv:Value} (w:World) (h:v4 op (some x)=some (vc,v,obs)) (c:vc) (e:B0 V x xv) :
  obs=[]∧∃u,(Op.unary op xv).run P w=.ok u w∧B0 V v u:=by
 unfold v4 at h;split at h
 ·rename_i b d;cases d;cases h;have:=EK e;subst this;exact⟨rfl,.bool (!b),by simp[Op.unary],Be _⟩
 ·rename_i k a d;cases d;cases h;obtain⟨rfl,ha⟩:=BQ e;have c:LU k (0-a):=c;exact⟨rfl,_,by simp only[Op.unary,Op.intArith,Ku c];rfl,BN c⟩
 ·cases h
end
end
section
open Go Go.RowKit
section
variable {P:Program} {tb:Tb} {id:TypeId} {ti:TI} {w:World} {V:Vw} {vc:Prop} {v:AV} {obs:List (Nat×Obj)}
theorem j9 (l:List Int):(Rq l).size=l.length:=by
 show (Rq l).data.size=l.length;unfold Rq;simp
theorem A4D (K:DF P tb) (L:V.w=w) {s t:TypeId} {F ti:TI} (hs:ED P tb s F) (B:ED P tb t ti) {x:AV} {xv:Value} (h:I7 (some F) (some ti) (some x)=some (vc,v,obs)) (i:vc) (D:B0 V x xv) :
  obs=[]∧∃u,(convert s t xv).run P w=.ok u w∧B0 V v u:=by
 unfold I7 at h;split at h
 ·rename_i W X m b1 k Y o b2 ae a q r y;cases q;cases r;cases y;cases h;obtain⟨rfl,ha⟩:=BQ D;have i:LU k a:=i;have f:P.underlying s=some (.int W):=hs.2;have g:P.underlying t=some (.int k):=B.2;refine⟨rfl,.int k a,?_,BN i⟩;simp[convert,dO f,dO g,Conv.intToInt,Ku i]
 ·rename_i X m b1 Y o b2 l q r y;cases q;cases r;cases y;cases h;obtain⟨f,te,S,T⟩:=hs.2;have g:P.underlying t=some .string:=B.2;have C:P.underlying m=some (.int .u8):=by
   have:=(K _ _ S).2;rw[T]at this;exact this
  obtain⟨cs,⟨a,c,rfl,h1,H,b⟩,rfl⟩:=D;have R:(Rq l).size≤AO:=by rw[j9];exact H
  refine⟨rfl,.string (Rq l),?_,⟨[.string (Rq l)],⟨rfl,R⟩,rfl⟩⟩;have O:a=none→l=[]:=fun e=>by
   rcases b with b|⟨ad,b,_⟩
   ·exact b
   ·rw[e]at b;cases b
  cases a with
  | none =>
   have:=O rfl;subst this;show (convert s t (.slice none 0 c)).run P w=_;have G:Rq []=ByteArray.empty:=rfl;rw[G];simp[convert,dO f,dO g,dO C,Conv.bytesToString]
  | some ad =>
   have A:=run_convert_bytes_back (P:=P) w s t m ad c (l.map fun x=>UInt8.ofNat x.toNat) f C g fun j z=>by
    have d:j<List.length l:=by rw[f6]at z;exact z
    rcases b with b|⟨Z,b,ab,I⟩
    ·rw[b]at d;cases d
    ·cases b;obtain⟨aa,-,M,Q⟩:=I j l[j] (An d);obtain⟨rfl,N⟩:=Q;have p:=M 0 (.int .u8 l[j]) rfl;rw[L]at p;obtain⟨E,U⟩:(0:Int)≤(l:List Int)[j]'d∧(l:List Int)[j]'d≤255:=by
      simpa[LU,IntKind.min,IntKind.max,IntKind.signed,IntKind.bits] using N
     have e:(((List.map (fun x:Int=>UInt8.ofNat x.toNat) l)[j]'z).toNat:Int)=l[j]:=by
      rw[ABd,UInt8.toNat_ofNat'];have J:((l:List Int)[j]'d).toNat % 2 ^ 8=((l:List Int)[j]'d).toNat:=Nat.mod_eq_of_lt ((Int.toNat_lt E).2 (ACr U (by decide)));exact(AAP (fun n:Nat=>(n:Int)) J).trans (AAG E)
     rw[e];have o:j*(Ty.int .u8).size+0=j:=by simp[Ty.size]
     rw[o]at p;exact p
   rw[f6]at A;exact A
 ·cases h
theorem A5P (r:∀n,V.L n→∃o,A3 V o (V.ρ n)) {x:AV} {xv:Value} {t ty:TypeId} (hT:ED P tb t ti) (w:World) (h:Qo (some ti) (some x)=some (vc,v,obs)) (g:B0 V x xv) :
  obs=[]∧∃u,(Builtin.len_ #[t] ty #[xv]).run P w=.ok u w∧B0 V v u:=by
 have j:∀n:Nat,n≤AO→LU .i64 (n:Int):=fun n hn=>by
  simp[LU,IntKind.min,IntKind.max,IntKind.signed,IntKind.bits];simp[AO]at hn;omega
 unfold Qo at h;split at h
 ·rename_i e o el b q l d f;cases d;cases f;cases h;obtain⟨cs,⟨a,c,rfl,h1,y,_⟩,rfl⟩:=g;have hu:=hT.2.1;exact⟨rfl,.int .i64 (List.length l:Int),by simp[Builtin.len_,dO hu,goInt,Ty.wrap],BN (j _ y)⟩
 ·rename_i e o el b n q lo hi d f;cases d;cases f;cases h;obtain⟨k,a,m,c,C,I,H,E,F,rfl,G,h0,h1⟩:=g;have hu:=hT.2.1;obtain⟨D,p⟩:=r n k;obtain⟨_,_,_,_,this⟩:=WZ p C;exact⟨rfl,.int .i64 ((hi-lo:Nat):Int),by simp[Builtin.len_,dO hu,goInt],BN (j _ (by omega))⟩
 ·rename_i e o el b n q i len d f;cases d;cases f;cases h;obtain⟨k,K,a,c,J,B,A,z,rfl⟩:=g;have hu:=hT.2.1;obtain⟨D,p⟩:=r n k;have:=A2m p B A z rfl;exact⟨rfl,.int .i64 (len:Int),by simp[Builtin.len_,dO hu,goInt],BN (j _ this)⟩
 ·rename_i e o el b d f;cases d;cases f;cases h;have g:xv=_:=g;subst g;have hu:=hT.2.1;exact⟨rfl,.int .i64 0,by simp[Builtin.len_,dO hu,goInt],BN (j 0 (by simp))⟩
 ·rename_i o el b s d f;cases d;cases f;cases h;obtain⟨rfl,h1⟩:=Gv g;have hu:P.underlying t=some .string:=hT.2;exact⟨rfl,.int .i64 (s.size:Int),by simp[Builtin.len_,dO hu,goInt],BN (j _ h1)⟩
 ·cases h
theorem sA {i:Nat} {x:AV} {xv:Value} (w:World) (h:D9 i (some x)=some (vc,v,obs)) (g:B0 V x xv) :
  obs=[]∧∃u,(Instr.extract xv i).run P w=.ok u w∧B0 V v u:=by
 have get:∀(l:List AV) (a:List Value) (i:Nat) (y:AV),J7 V l a→l[i]?=some y→∃u,a[i]?=some u∧B0 V y u:=by
  intro l;induction l with
  | nil=>intro a i y _ h;simp at h
  | cons z r j =>
   intro a i y c h;obtain⟨u,k,rfl,h1,d⟩:=c;cases i with
   | zero =>
    simp at h;subst h;exact⟨u,rfl,wD h1⟩
   | succ i=>exact j k i y d (by simpa using h)
 unfold D9 at h;split at h
 ·rename_i l e;cases e;obtain⟨a,rfl,c⟩:=g;cases b:l[i]? with
  | none=>rw[b]at h;simp[GT]at h
  | some y =>
   rw[b]at h;simp only[GT]at h;cases h;obtain⟨u,hu,f⟩:=get l a i _ c b;exact⟨rfl,u,by simp[Instr.extract,hu],f⟩
 ·cases h
theorem A5Q {x y:AV} {xv d:Value} {ts:Array TypeId} {ty:TypeId} (w:World) (h:O6 (some x) (some y)=some (vc,v,obs)) (g:B0 V x xv) (i:B0 V y d) :
  obs=[]∧∃u,(Builtin.min_ ts ty #[xv,d]).run P w=.ok u w∧B0 V v u:=by
 unfold O6 at h;split at h
 ·rename_i k a j b e f;cases e;cases f;split at h
  ·rename_i hk;subst hk;cases h;obtain⟨rfl,ha⟩:=BQ g;obtain⟨rfl,c⟩:=BQ i;have ha:LU k a:=ha;have c:LU k b:=c;refine⟨rfl,.int k (if (b:Int)<a then b else a),by simp[Builtin.min_,Builtin.min2],BN ?_⟩;split
   ·exact c
   ·exact ha
  ·cases h
 ·cases h
theorem A4E {x y z:AV} {xv i j:Value} {ts:Array TypeId} {ty:TypeId} (w:World) (h:IA (some x) (some y) (some z)=some (vc,v,obs)) (q:B0 V x xv) (r:B0 V y i) (s:B0 V z j) :
  obs=[]∧∃u,(Builtin.min_ ts ty #[xv,i,j]).run P w=.ok u w∧B0 V v u:=by
 unfold IA at h;split at h
 ·rename_i k a t b A c l m n;cases l;cases m;cases n;split at h
  ·rename_i hk;obtain⟨o,p⟩:=hk;subst o;subst p;cases h;obtain⟨rfl,ha⟩:=BQ q;obtain⟨rfl,f⟩:=BQ r;obtain⟨rfl,e⟩:=BQ s;have ha:LU k a:=ha;have f:LU k b:=f;have e:LU k c:=e;refine⟨rfl,.int k (if (c:Int)<(if (b:Int)<a then b else a) then c else (if (b:Int)<a then b else a)),by simp[Builtin.min_,Builtin.min2],BN ?_⟩;by_cases g:(b:Int)<a
   ·rw[At g];by_cases d:(c:Int)<b
    ·rw[At d];exact e
    ·rw[As d];exact f
   ·rw[As g];by_cases d:(c:Int)<a
    ·rw[At d];exact e
    ·rw[As d];exact ha
  ·cases h
 ·cases h
theorem A5R {x y:AV} {xv d:Value} {ts:Array TypeId} {ty:TypeId} (w:World) (h:O7 (some x) (some y)=some (vc,v,obs)) (g:B0 V x xv) (i:B0 V y d) :
  obs=[]∧∃u,(Builtin.max_ ts ty #[xv,d]).run P w=.ok u w∧B0 V v u:=by
 unfold O7 at h;split at h
 ·rename_i k a j b e f;cases e;cases f;split at h
  ·rename_i hk;subst hk;cases h;obtain⟨rfl,ha⟩:=BQ g;obtain⟨rfl,c⟩:=BQ i;have ha:LU k a:=ha;have c:LU k b:=c;refine⟨rfl,.int k (if (a:Int)<b then b else a),by simp[Builtin.max_,Builtin.max2],BN ?_⟩;split
   ·exact c
   ·exact ha
  ·cases h
 ·cases h
theorem A4F {t:TypeId} (hu:P.underlying t=some .string) (w:World) {s:ByteArray} {kd:IntKind} {k:Int} (h0:0≤k) (h1:k<(s.size:Int)) :
  (Instr.index t (.string s) (.int kd k)).run P w=.ok (.int .u8 ((s.data.getD k.toNat 0).toNat:Int)) w∧LU .u8 ((s.data.getD k.toNat 0).toNat:Int):=by
 have a:k.toNat<s.size:=by omega
 have d:k.toNat<s.data.size:=a;have c:s[k.toNat]?=some (s.data.getD k.toNat 0):=by
  rw[getElem?_pos s k.toNat a];simp only[Array.getD,d,dite_true];rfl
 refine⟨by simp[Instr.index,asIntOf,dO hu,h0,c],?_⟩;generalize s.data.getD k.toNat 0=b;have:=b.toNat_lt;simp[LU,IntKind.min,IntKind.max,IntKind.signed,IntKind.bits];omega
theorem wN {t:TypeId} {x y:AV} {xv c:Value} (hT:ED P tb t ti) (w:World) (h:Ds (some ti) (some x) (some y)=some (vc,v,obs)) (a:vc) (i:B0 V x xv) (j:B0 V y c) :
  obs=[]∧∃u,(Instr.index t xv c).run P w=.ok u w∧B0 V v u:=by
 unfold Ds at h;split at h
 ·rename_i o el b s kd k e f g;cases e;cases f;cases g;cases h;obtain⟨rfl,_⟩:=Gv i;obtain⟨rfl,_⟩:=BQ j;have hu:P.underlying t=some .string:=hT.2;obtain⟨h1,d⟩:=A4F (P:=P) hu w (kd:=kd) a.1 a.2;exact⟨rfl,_,h1,BN d⟩
 ·cases h
theorem A5S {x:AV} {xv:Value} (h:Se (some x)=some (vc,v,obs)) (e:B0 V x xv):obs=[]∧(∃ad,xv=.pointer (some ad))∧B0 V v xv:=by
 unfold Se at h;split at h
 ·rename_i a;cases a;cases h;obtain⟨d,b,f,rfl⟩:=e;exact⟨rfl,⟨_,rfl⟩,d,b,f,rfl⟩
 ·rename_i a;cases a;cases h;obtain⟨ad,cs,rfl,r⟩:=e;exact⟨rfl,⟨_,rfl⟩,ad,cs,rfl,r⟩
 ·rename_i a;cases a;cases h;obtain⟨d,g,m,c,f,i,rfl⟩:=e;exact⟨rfl,⟨_,rfl⟩,d,g,m,c,f,i,rfl⟩
 ·cases h
end
end
section
open Go Go.RowKit
section
variable {P:Program} {tb:Tb} {id:TypeId} {ti:TI} {V:Vw} {vc:Prop} {v:AV} {obs:List (Nat×Obj)}
def FO (a:Option Addr) (c l sz:Nat):Option Addr:=if c=l then a else a.map (·.add (l*sz))
inductive oQ:Option Value→Nat→Nat→Prop
 | none (d:Nat):oQ none d d
 | some (k:IntKind) (z:Int) (d:Nat) (h:0≤z):oQ (some (.int k z)) d z.toNat
theorem wO {el:TypeId} (hu:P.underlying id=some (.slice el)) {sz:Nat} (w:World) (hs:(sizeOf el).run P w=.ok sz w) {a:Option Addr} {n c l h:Nat} {lo hi:Option Value}
  (i:oQ lo 0 l) (hh:oQ hi n h) (h1:l≤h) (m:h≤c) :
  (Instr.sliceAt id (.slice a n c) lo hi none).run P w=.ok (.slice (FO a c l sz) (h-l) (c-l)) w:=by
 cases i with
 | none =>
  cases hh with
  | none=>simp[Instr.sliceAt,dO hu,Instr.slice,Instr.sliceBounds,hs,FO]
  | some k z _ b =>
   have e:z≤(c:Int):=by omega
   simp[Instr.sliceAt,dO hu,Instr.slice,Instr.sliceBounds,Instr.sliceBound,asIntOf,hs,FO,b,e]
 | some k z _ b =>
  cases hh with
  | none =>
   have e:z≤(n:Int):=by omega
   simp[Instr.sliceAt,dO hu,Instr.slice,Instr.sliceBounds,Instr.sliceBound,asIntOf,hs,FO,b,e]
  | some o d _ j =>
   have e:d≤(c:Int):=by omega
   have f:max d 0=d:=by omega
   have g:z≤d:=by omega
   simp[Instr.sliceAt,dO hu,Instr.slice,Instr.sliceBounds,Instr.sliceBound,asIntOf,hs,FO,b,j,e,f,g]
theorem A4G (hu:P.underlying id=some .string) (w:World) {s:ByteArray} {l h:Nat} {lo hi:Option Value} (f:oQ lo 0 l) (hh:oQ hi s.size h) (h1:l≤h) (i:h≤s.size) :
  (Instr.sliceAt id (.string s) lo hi none).run P w=.ok (.string (s.extract l h)) w:=by
 cases f with
 | none =>
  cases hh with
  | none=>simp[Instr.sliceAt,dO hu,Instr.slice,Instr.sliceBounds]
  | some k z _ a =>
   have e:z≤(s.size:Int):=by omega
   simp[Instr.sliceAt,dO hu,Instr.slice,Instr.sliceBounds,Instr.sliceBound,asIntOf,a,e]
 | some k z _ a =>
  cases hh with
  | none =>
   have e:z≤(s.size:Int):=by omega
   simp[Instr.sliceAt,dO hu,Instr.slice,Instr.sliceBounds,Instr.sliceBound,asIntOf,a,e]
  | some j b _ g =>
   have e:b≤(s.size:Int):=by omega
   have c:max b 0=b:=by omega
   have d:z≤b:=by omega
   simp[Instr.sliceAt,dO hu,Instr.slice,Instr.sliceBounds,Instr.sliceBound,asIntOf,a,g,e,c,d]
theorem A2u {e:Ty} {xs:List e.den} {a:Option Addr} {n c l h:Nat} (f:Bo V.w V.O (.slice e) [.slice a n c] xs) (h1:l≤h) (k:h≤xs.length) :
  BX V.w V.O (.slice e) (.slice (FO a c l e.size) (h-l) (c-l)) (sub xs l h)∧n=xs.length∧h≤c:=by
 obtain⟨A,B,g,C,D,d⟩:=f;injection g with g
 injection g with m o p
 subst m;subst o;subst p;have b:=N0 xs (lo:=l) k;refine⟨⟨_,⟨FO a c l e.size,c-l,by rw[b],by rw[b];omega,by rw[b];omega,?_⟩,rfl⟩,rfl,by omega⟩;by_cases E:l<h
 ·right;rcases d with d|⟨ad,rfl,r,t⟩
  ·subst d;simp at k;omega
  ·refine⟨ad.add (l*e.size),?_,by rw[CK];exact r,fun i x hi=>?_⟩
   ·have:¬c=l:=by omega
    simp[FO,this]
   ·obtain⟨z,_⟩:=YN xs l h i hi;obtain⟨q,v,s,f⟩:=t (l+i) x z;refine⟨q,v,fun j u y=>?_,f⟩;have:=s j u y;rw[DW]
    rwa [ABA,ABI]at this
 ·left;exact So (by rw[b];omega)
theorem wP {loc:Value} {sz b c0 l h:Nat} {a:Option Addr} {n c:Nat} (r:DE loc sz b c0 (.slice a n c)) (h1:l≤h) (w:h≤c0-b) :
  DE loc sz (b+l) (b+h) (.slice (FO a c l sz) (h-l) (c-l))∧n=c0-b∧h≤c:=by
 obtain⟨a0,m,d,p,x,z,u,v,s,y,i,j⟩:=r;injection s with e f g
 subst e;subst f;subst g;refine⟨⟨a0,m,d,p,by omega,by omega,FO a c l sz,c-l,by rw[show b+h-(b+l)=h-l by omega],by omega,fun B=>?_,fun A=>?_⟩,rfl,by omega⟩
 ·have k:b=0:=by omega
  have o:l=0:=by omega
  subst k;subst o;obtain⟨t,C⟩:=i rfl;refine⟨?_,by omega⟩;rw[←t];unfold FO;split
  ·rfl
  ·simp only[AC5];cases a<;>rfl
 ·have:=j (by omega);subst this;have q:¬c=l:=by omega
  simp only[FO,As q,Option.map_map]
  congr 1
  funext ad;simp only[Function.comp];rw[DW,ABA]
theorem Sf (s:ByteArray) (l h:Nat):(s.extract l h).size≤s.size:=by
 simp only[ByteArray.size_extract];omega
theorem Te (hT:ED P tb id ti) (j:DF P tb) {e:Ty} (d:ti.ty=.slice e) {l:List e.den} {xv:Value} {lo hi:Option Value} {a h:Nat}
  (m:BX V.w V.O (.slice e) xv l) (k:oQ lo 0 a) (hh:oQ hi l.length h) (h1:a≤h) (f:h≤l.length) :
  ∃u,(Instr.sliceAt id xv lo hi none).run P V.w=.ok u V.w∧B0 V (.p (.slice e) (sub l a h)) u:=by
 obtain⟨ty,offs,el,bytes⟩:=ti;simp only at d;subst d;obtain⟨hu,hs,_⟩:=CD hT j;obtain⟨cs,b,rfl⟩:=m;obtain⟨a0,c,rfl,r⟩:=b;have b:Bo V.w V.O (.slice e) [.slice a0 l.length c] l:=⟨a0,c,rfl,r⟩;obtain⟨g,_,i⟩:=A2u b h1 f;exact⟨_,wO hu _ (hs _) k hh h1 i,g⟩
theorem Tf (hT:ED P tb id ti) (k:DF P tb) {n b c0:Nat} {e:Ty} (c:ti.ty=.slice e) {xv:Value} {lo hi:Option Value} {a h:Nat}
  (o:B0 V (.sr n e b c0) xv) (l:oQ lo 0 a) (hh:oQ hi (c0-b) h) (h1:a≤h) (f:h≤c0-b) :
  ∃u,(Instr.sliceAt id xv lo hi none).run P V.w=.ok u V.w∧B0 V (.sr n e (b+a) (b+h)) u:=by
 obtain⟨ty,offs,el,bytes⟩:=ti;simp only at c;subst c;obtain⟨hu,hs,_⟩:=CD hT k;obtain⟨j,d⟩:=o;have m:=d;obtain⟨_,_,_,_,_,_,p,q,rfl,_⟩:=m;obtain⟨g,r,i⟩:=wP d h1 f;exact⟨_,wO hu _ (hs _) l hh h1 i,j,g⟩
theorem Tg (hT:ED P tb id ti) (c:ti.ty=.str) {s:ByteArray} {xv:Value} {lo hi:Option Value} {a h:Nat}
  (f:BX V.w V.O .str xv s) (d:oQ lo 0 a) (hh:oQ hi s.size h) (h1:a≤h) (b:h≤s.size) :
  ∃u,(Instr.sliceAt id xv lo hi none).run P V.w=.ok u V.w∧B0 V (.p .str (s.extract a h)) u:=by
 obtain⟨rfl,e⟩:=Gv f;have hu:=hT.2;rw[c]at hu;exact⟨_,A4G hu _ d hh h1 b,Td (aT (Sf s a h) e)⟩
theorem Jm {z:Int} {n:Nat} (_h:0≤z) (a:z≤(n:Int)):z.toNat≤n:=by omega
theorem YS {a b:Int} (h:a≤b):a.toNat≤b.toNat:=by omega
def Zt:Option AV→Option Value→Prop
 | none,none=>True
 | some x,some v=>B0 V x v
 | _,_=>False
theorem wQ (hT:ED P tb id ti) (k:DF P tb) {x ha g:AV} {xv d f:Value} (h:Dh (some ti) (some x) (some ha) (some g)=some (vc,v,obs)) (A:vc) (B:B0 V x xv) (hh:B0 V ha d) (t:B0 V g f) :
  obs=[]∧∃u,(Instr.sliceAt id xv none (some d) (some f)).run P V.w=.ok u V.w∧B0 V v u:=by
 unfold Dh at h;split at h
 ·rename_i e offs el bytes E l C a D b m n o p;cases m;cases n;cases o;cases p;split at h
  ·rename_i q;subst q;cases h;obtain⟨hu,hs,_⟩:=CD hT k;obtain⟨rfl,rfl⟩:=A;obtain⟨rfl,_⟩:=BQ (hh:BX V.w V.O (.int C) d _);obtain⟨rfl,_⟩:=BQ (t:BX V.w V.O (.int D) f _);obtain⟨cs,z,rfl⟩:=(B:BX V.w V.O (.slice e) xv l);obtain⟨a0,c,rfl,s,y,r⟩:=z;refine⟨rfl,.slice a0 (List.length l) (List.length l),?_,⟨_,⟨a0,_,rfl,No _,y,r⟩,rfl⟩,a0,rfl⟩;have i:((List.length l:Nat):Int)≤(c:Int):=by omega
   have j:(0:Int)≤((List.length l:Nat):Int):=by omega
   simp[Ty.wrap,Instr.sliceAt,dO hu,Instr.slice,Instr.sliceBounds,Instr.sliceBound,asIntOf,hs V.w,i,j,Addr.add];intro F;exact absurd s (by omega)
  ·cases h
 ·cases h
theorem A2v (hT:ED P tb id ti) (j:DF P tb) {x:AV} {xv:Value} {lo hi:Option AV} {C B:Option Value}
  (h:E9 (some ti) (some x) (some lo) (some hi)=some (vc,v,obs)) (a:vc) (c:B0 V x xv) (g:Zt (V:=V) lo C) (f:Zt (V:=V) hi B) :
  obs=[]∧∃u,(Instr.sliceAt id xv C B none).run P V.w=.ok u V.w∧B0 V v u:=by
 have i:∀ {o:Option Value} (d:Nat),Zt (V:=V) none o→oQ o d d:=fun {o} d h=>by
  cases o with
  | none=>exact .none d
  | some v=>exact h.elim
 have b1:∀ {o:Option Value} {k:IntKind} {z:Int} (d:Nat),Zt (V:=V) (some (.p (.int k) z)) o→0≤z→oQ o d z.toNat:=fun {o k z} d h E=>by
  cases o with
  | none=>exact h.elim
  | some v =>
   obtain⟨rfl,_⟩:=BQ (h:BX V.w V.O (.int k) v z);exact .some k z d E
 unfold E9 at h;split at h
 ·rename_i e offs el bytes D l a0 h0 q r t y;cases q;cases r;cases t;cases y;split at h
  ·rename_i A;subst A;have c:BX V.w V.O (.slice e) xv l:=c;unfold HF at h;split at h<;>first|(cases h;done)|(rename_i m;cases m<;>cases h)
   ·exact⟨rfl,Te hT j rfl c (i 0 g) (b1 _ f a.1) (Is _) (Jm a.1 a.2)⟩
   ·exact⟨rfl,Te hT j rfl c (b1 0 g a.1) (i _ f) (Jm a.1 a.2) (No _)⟩
   ·exact⟨rfl,Te hT j rfl c (b1 0 g a.1) (b1 _ f (AB8 a.1 a.2.1)) (YS a.2.1) (Jm (AB8 a.1 a.2.1) a.2.2)⟩
  ·cases h
 ·rename_i e offs el bytes n D b c0 a0 h0 q r t y;cases q;cases r;cases t;cases y;split at h
  ·rename_i A;subst A;unfold HF at h;split at h<;>first|(cases h;done)|(rename_i m;cases m<;>cases h)
   ·refine⟨rfl,?_⟩;have:=Tf (P:=P) hT j rfl c (i 0 g) (b1 _ f a.1) (Is _) (Jm a.1 a.2);simpa using this
   ·refine⟨rfl,?_⟩;have:=Tf (P:=P) hT j rfl c (b1 0 g a.1) (i _ f) (Jm a.1 a.2) (No _);have G:=Jm a.1 a.2;obtain⟨_,_,_,_,_,F,_⟩:=c;rw[show b+(c0-b)=c0 by omega]at this;exact this
   ·exact⟨rfl,Tf hT j rfl c (b1 0 g a.1) (b1 _ f (AB8 a.1 a.2.1)) (YS a.2.1) (Jm (AB8 a.1 a.2.1) a.2.2)⟩
  ·cases h
 ·rename_i offs el bytes s a0 h0 q r t y;cases q;cases r;cases t;cases y;have c:BX V.w V.O .str xv s:=c;unfold HF at h;split at h<;>first|(cases h;done)|(rename_i m;cases m<;>cases h)
  ·exact⟨rfl,Tg hT rfl c (i 0 g) (b1 _ f a.1) (Is _) (Jm a.1 a.2)⟩
  ·exact⟨rfl,Tg hT rfl c (b1 0 g a.1) (i _ f) (Jm a.1 a.2) (No _)⟩
  ·exact⟨rfl,Tg hT rfl c (b1 0 g a.1) (b1 _ f (AB8 a.1 a.2.1)) (YS a.2.1) (Jm (AB8 a.1 a.2.1) a.2.2)⟩
 ·cases h
end
end
end Go.Proofs.YtdapahgnpbehbaaGreat.Fw
