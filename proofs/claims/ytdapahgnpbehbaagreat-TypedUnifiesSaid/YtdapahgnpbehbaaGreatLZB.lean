/- The executor's quiet operations are sound, first part. -/
import Derived.Test.YtdapahgnpbehbaaGreatLZA
import Derived.Laws.IdiomStrings
set_option linter.unusedVariables false
set_option linter.unusedSimpArgs false
namespace Go.Proofs.YtdapahgnpbehbaaGreat.Fw
section
open Go Go.RowKit
theorem PP {w:World} {O:Nat→Prop}:∀ {t:Ty} {k:Nat} {d:t.den} {pv:PV} {cs:List Value},Gy t k d=some pv→Bq w O t cs d →
  WX t k=some pv.t∧∃o,KF t k=some o∧o+pv.t.size≤t.size∧Bq w O pv.t ((cs.drop o).take pv.t.size) pv.d
 | .prod a b,0,d,pv,cs,h,c=>by
  simp only[Gy]at h;cases h;obtain⟨c1,c2,rfl,h1,f⟩:=c;refine⟨rfl,0,rfl,by simp[Ty.size],?_⟩;have e:=h1.length;simp only[AAv,←e,List.take_left];exact h1
 | .prod a b,k+1,d,pv,cs,h,c=>by
  simp only[Gy]at h;obtain⟨c1,c2,rfl,h1,f⟩:=c;obtain⟨g,o,i,l,j⟩:=PP h f;refine⟨g,a.size+o,by simp[KF,i],by simp[Ty.size];omega,?_⟩;have e:=h1.length;rw[←e,←ABY,ABP];exact j
 | .int _,0,d,pv,cs,h,c=>by
  simp only[Gy]at h;cases h;refine⟨rfl,0,rfl,by simp,?_⟩;have e:=c.length;simp only[AAv,←e,iS];exact c
 | .bool,0,d,pv,cs,h,c=>by
  simp only[Gy]at h;cases h;refine⟨rfl,0,rfl,by simp,?_⟩;have e:=c.length;simp only[AAv,←e,iS];exact c
 | .str,0,d,pv,cs,h,c=>by
  simp only[Gy]at h;cases h;refine⟨rfl,0,rfl,by simp,?_⟩;have e:=c.length;simp only[AAv,←e,iS];exact c
 | .slice _,0,d,pv,cs,h,c=>by
  simp only[Gy]at h;cases h;refine⟨rfl,0,rfl,by simp,?_⟩;have e:=c.length;simp only[AAv,←e,iS];exact c
 | .ref _,0,d,pv,cs,h,c=>by
  simp only[Gy]at h;cases h;refine⟨rfl,0,rfl,by simp,?_⟩;have e:=c.length;simp only[AAv,←e,iS];exact c
 | .ref _,_+1,d,pv,cs,h,c=>by simp[Gy]at h
 | .agg _,0,d,pv,cs,h,c=>by
  simp only[Gy]at h;cases h;refine⟨rfl,0,rfl,by simp,?_⟩;have e:=c.length;simp only[AAv,←e,iS];exact c
 | .int _,_+1,d,pv,cs,h,c=>by simp[Gy]at h
 | .bool,_+1,d,pv,cs,h,c=>by simp[Gy]at h
 | .str,_+1,d,pv,cs,h,c=>by simp[Gy]at h
 | .slice _,_+1,d,pv,cs,h,c=>by simp[Gy]at h
 | .agg _,_+1,d,pv,cs,h,c=>by simp[Gy]at h
theorem p7 {α:Type} (cs:List α) (o m a n:Nat) (h:a+n≤m):(((cs.drop o).take m).drop a).take n=(cs.drop (o+a)).take n:=by
 rw[List.drop_take,ABO,ABY]
 congr 1
 omega
theorem Ti {w:World} {O:Nat→Prop}:∀ {f:List Nat} {t:Ty} {d:t.den} {pv:PV} {cs:List Value} {off:Nat},Qp f t d=some pv→L5 f t=some off→Bq w O t cs d →
  off+pv.t.size≤t.size∧Bq w O pv.t ((cs.drop off).take pv.t.size) pv.d
 | [],t,d,pv,cs,off,h,a,b=>by
  simp only[Qp]at h;simp only[L5]at a;cases h;cases a;have e:=b.length;simp only[AAv,←e,iS];exact⟨by simp[e],b⟩
 | k :: r,t,d,pv,cs,off,h,a,b=>by
  cases t<;>simp only[Qp,L5]at h a<;>try(cases h;done)
  rename_i t;split at h
  ·rename_i p hp;have b:Bq w O t cs d:=b;obtain⟨h1,o,g,m,i⟩:=PP hp b;rw[h1,g]at a;simp only[No]at a;obtain⟨n,l,rfl⟩:=a;obtain⟨j,c⟩:=Ti h l i;refine⟨by simp only[Ty.size];omega,?_⟩;rw[p7 _ _ _ _ _ j]at c;exact c
  ·cases h
def Az {α:Type} (cs:List α) (o:Nat) (a:List α):List α:=cs.take o++a++cs.drop (o+a.length)
theorem FL {α:Type} {cs:List α} {o:Nat} {a:List α} (h:o+a.length≤cs.length):(Az cs o a).length=cs.length:=by
 simp[Az];omega
theorem D0 {α:Type} {cs a:List α} (h:a.length=cs.length):Az cs 0 a=a:=by
 simp[Az,h]
theorem PQ {α:Type} (a b:List α) (o:Nat) (c:List α):Az (a++b) (a.length+o) c=a++Az b o c:=by
 simp only[Az,List.take_append,ACQ,oF];have h1:List.take (a.length+o) a=a:=An (by omega);have d:List.drop (a.length+o+c.length) a=[]:=IF (by omega);have e:a.length+o-a.length=o:=by omega
 have f:a.length+o+c.length-a.length=o+c.length:=by omega
 rw[h1,d,e,f];simp
theorem Ry {α:Type} (a b:List α) (c:List α) (h:c.length=a.length):Az (a++b) 0 c=c++b:=by
 simp[Az,h]
theorem aJ {w:World} {O:Nat→Prop}:∀ {t:Ty} {k:Nat} {d i:t.den} {pv:PV} {cs g:List Value} {o:Nat},L8 t k d pv=some i→KF t k=some o→Bq w O t cs d→Bq w O pv.t g pv.d →
  Bq w O t (Az cs o g) i∧WX t k=some pv.t
 | .prod a b,0,d,i,pv,cs,g,o,h,c,f,e=>by
  simp only[L8,No]at h;obtain⟨y,l,rfl⟩:=h;have:=BD l;subst this;simp only[KF]at c;cases c;obtain⟨c1,c2,rfl,h1,j⟩:=f;rw[Ry _ _ _ (by rw[e.length,h1.length])];exact⟨⟨g,c2,rfl,e,j⟩,rfl⟩
 | .prod a b,k+1,d,i,pv,cs,g,o,h,c,f,e=>by
  simp only[L8,No]at h;obtain⟨y,l,rfl⟩:=h;simp only[KF,No]at c;obtain⟨q,p,rfl⟩:=c;obtain⟨c1,c2,rfl,h1,j⟩:=f;obtain⟨m,n⟩:=aJ l p j e;rw[←h1.length,PQ];exact⟨⟨c1,_,rfl,h1,m⟩,n⟩
 | .int _,0,d,i,pv,cs,g,o,h,c,f,e=>by
  have:=BD h;subst this;simp only[KF]at c;cases c;rw[D0 (by rw[e.length,f.length])];exact⟨e,rfl⟩
 | .bool,0,d,i,pv,cs,g,o,h,c,f,e=>by
  have:=BD h;subst this;simp only[KF]at c;cases c;rw[D0 (by rw[e.length,f.length])];exact⟨e,rfl⟩
 | .str,0,d,i,pv,cs,g,o,h,c,f,e=>by
  have:=BD h;subst this;simp only[KF]at c;cases c;rw[D0 (by rw[e.length,f.length])];exact⟨e,rfl⟩
 | .slice _,0,d,i,pv,cs,g,o,h,c,f,e=>by
  have:=BD h;subst this;simp only[KF]at c;cases c;rw[D0 (by rw[e.length,f.length])];exact⟨e,rfl⟩
 | .ref _,0,d,i,pv,cs,g,o,h,c,f,e=>by
  have:=BD h;subst this;simp only[KF]at c;cases c;rw[D0 (by rw[e.length,f.length])];exact⟨e,rfl⟩
 | .ref _,_+1,d,i,pv,cs,g,o,h,c,f,e=>by simp[L8]at h
 | .agg _,0,d,i,pv,cs,g,o,h,c,f,e=>by
  have:=BD h;subst this;simp only[KF]at c;cases c;rw[D0 (by rw[e.length,f.length])];exact⟨e,rfl⟩
 | .int _,_+1,d,i,pv,cs,g,o,h,c,f,e=>by simp[L8]at h
 | .bool,_+1,d,i,pv,cs,g,o,h,c,f,e=>by simp[L8]at h
 | .str,_+1,d,i,pv,cs,g,o,h,c,f,e=>by simp[L8]at h
 | .slice _,_+1,d,i,pv,cs,g,o,h,c,f,e=>by simp[L8]at h
 | .agg _,_+1,d,i,pv,cs,g,o,h,c,f,e=>by simp[L8]at h
theorem Nm {α:Type} (cs:List α) (o m a:Nat) (b:List α) (h:a+b.length≤m) (i:o+m≤cs.length) :
  Az cs o (Az ((cs.drop o).take m) a b)=Az cs (o+a) b:=by
 apply ABJ;intro j;have c:(Az ((cs.drop o).take m) a b).length=m:=by rw[FL]<;>simp<;>omega
 simp only[Az]at c ⊢;rw[c];simp only[AAM,Do,OS,AAr,AAe,AAz];have d:min o cs.length=o:=by omega
 have e:min m (cs.length-o)=m:=by omega
 have f:min a m=a:=by omega
 have g:min (o+a) cs.length=o+a:=by omega
 rw[d,e,f,g];by_cases c1:j<o
 ·grind
 ·grind
theorem Tj {w:World} {O:Nat→Prop}:∀ {l:List Nat} {t:Ty} {d f:t.den} {pv:PV} {cs c:List Value} {off:Nat},Sg l t d pv=some f→L5 l t=some off→Bq w O t cs d→Bq w O pv.t c pv.d →
  Bq w O t (Az cs off c) f∧off+c.length≤cs.length
 | [],t,d,f,pv,cs,c,off,h,b,a,e=>by
  have:=BD h;subst this;simp only[L5]at b;cases b;rw[D0 (by rw[e.length,a.length])];exact⟨e,by simp[e.length,a.length]⟩
 | k :: r,t,d,f,pv,cs,c,off,h,b,a,e=>by
  cases t<;>simp only[Sg,L5]at h b<;>try(cases h;done)
  rename_i t;have a:Bq w O t cs d:=a;split at h
  ·rename_i p hp;obtain⟨h1,o,g,v,m⟩:=PP hp a;rw[h1,g]at b;simp only[No]at b;obtain⟨z,s,rfl⟩:=b;split at h
   ·rename_i y u;obtain⟨n,i⟩:=Tj u s m e;have x:=a.length;have q:((cs.drop o).take p.t.size).length=p.t.size:=by simp;omega
    rw[q]at i;obtain⟨j,_⟩:=aJ (pv:=⟨p.t,y⟩) h g a n;rw[Nm _ _ _ _ _ i (by omega)]at j;exact⟨j,by omega⟩
   ·cases h
  ·cases h
end
section
open Go Go.RowKit
section
variable {V:Vw}
theorem NZ.length {x:AV} {cs:List Value} (h:NZ V x cs):cs.length=x.cells:=by
 cases x;case p t d=>exact Bq.length (show Bq V.w V.O t cs d from h)
 case ag l=>obtain⟨v,_,_,hf⟩:=h;exact hf.elim
 case tup l=>obtain⟨v,_,_,hf⟩:=h;exact hf.elim
 all_goals(obtain⟨v,rfl,_⟩:=h;rfl)
theorem NZ.one {x:AV} {cs:List Value} (h:NZ V x cs):∀u∈cs,u.oneCell'=true:=by
 cases x;case p t d=>exact Bq.one (show Bq V.w V.O t cs d from h)
 all_goals(obtain⟨v,rfl,h1,_⟩:=h;intro u hu;simp at hu;subst hu;exact h1)
theorem Db.one:∀ {l:List AV} {cs:List Value},Db V l cs→∀u∈cs,u.oneCell'=true
 | [],cs,h=>by have h:cs=[]:=h;subst h;simp
 | x :: r,cs,h=>by
  obtain⟨c1,c2,rfl,h1,a⟩:=h;intro u hu;rcases Of.1 hu with hu|hu
  ·exact h1.one u hu
  ·exact a.one u hu
theorem Db.length:∀ {l:List AV} {cs:List Value},Db V l cs→cs.length=CE l l.length
 | [],cs,h=>by have h:cs=[]:=h;subst h;rfl
 | x :: r,cs,h=>by
  obtain⟨c1,c2,rfl,h1,a⟩:=h;simp only[Do,OF,CE];rw[h1.length,a.length]
theorem Db.get:∀ {l:List AV} {cs:List Value} {k:Nat} {x:AV},Db V l cs→l[k]?=some x →
  CE l k+x.cells≤cs.length∧NZ V x ((cs.drop (CE l k)).take x.cells)
 | [],cs,k,x,h,hk=>by simp at hk
 | y :: r,cs,0,x,h,hk=>by
  obtain⟨c1,c2,rfl,h1,a⟩:=h;simp at hk;subst hk;have:=h1.length;grind [CE]
 | y :: r,cs,k+1,x,h,hk=>by
  obtain⟨c1,c2,rfl,h1,a⟩:=h;have hk:r[k]?=some x:=by simpa using hk
  obtain⟨c,b⟩:=Db.get a hk;have:=h1.length;refine⟨by simp only[CE,Do];omega,?_⟩;simp only[CE,←this];rw[←ABY,ABP];exact b
theorem Db.set:∀ {l:List AV} {cs:List Value} {k:Nat} {x y:AV} {a:List Value},Db V l cs→l[k]?=some x→NZ V y a→y.cells=x.cells →
  Db V (l.set k y) (Az cs (CE l k) a)
 | [],cs,k,x,y,a,h,hk,b,c=>by simp at hk
 | z :: r,cs,0,x,y,a,h,hk,b,c=>by
  obtain⟨c1,c2,rfl,h1,d⟩:=h;simp at hk;subst hk;simp only[CE,ABf];rw[Ry _ _ _ (by rw[b.length,h1.length,c])];exact⟨a,c2,rfl,b,d⟩
 | z :: r,cs,k+1,x,y,a,h,hk,b,c=>by
  obtain⟨c1,c2,rfl,h1,d⟩:=h;have hk:r[k]?=some x:=by simpa using hk
  have:=h1.length;simp only[CE,AC2,←this];rw[PQ];exact⟨c1,_,rfl,h1,Db.set d hk b c⟩
theorem lF {ty:Ty} {x:AV} {b:List Value} (a:NZ V x b) (hf:CU ty x=true):b.length=ty.size∧B1 V x (ty.wrap b):=by
 cases x;case p t d =>
  simp only[CU,IS]at hf;subst hf;have a:Bq V.w V.O ty b d:=a;exact⟨Bq.length a,b,a,rfl⟩
 case ag l=>obtain⟨v,_,_,hf⟩:=a;exact hf.elim
 case tup l=>obtain⟨v,_,_,hf⟩:=a;exact hf.elim
 all_goals
  obtain⟨v,rfl,_,h1⟩:=a;have c:ty.cell1=true:=by simp only[CU]at hf;first|exact hf|(simp only[As]at hf;exact hf.2)|exact absurd hf (by decide)
  cases ty<;>first|(cases c;done)|exact⟨rfl,h1⟩
theorem yK {ty:Ty} {x:AV} {v:Value} (i:B1 V x v) (hf:CU ty x=true) (o:ty.cell1=true→v.oneCell'=true):v.cells.size=ty.size∧((∀l,x≠.ag l)→NZ V x v.cells.toList):=by
 cases x;case p t d =>
  simp only[CU,IS]at hf;subst hf;obtain⟨cs,f,rfl⟩:=i;have g:=f.length;cases ty;case agg t=>exact⟨by simpa[Ty.wrap,Value.cells] using g,fun _=>by simpa[Ty.wrap,Value.cells,NZ] using f⟩
  case prod a b=>exact⟨by simpa[Ty.wrap,Value.cells] using g,fun _=>by simpa[Ty.wrap,Value.cells,NZ] using f⟩
  case slice e =>
   obtain⟨a,c,rfl,h⟩:=f;exact⟨rfl,fun _=>⟨a,c,rfl,h⟩⟩
  case int k =>
   obtain⟨rfl,h⟩:=f;exact⟨rfl,fun _=>⟨rfl,h⟩⟩
  case bool =>
   have f:cs=_:=f;subst f;exact⟨rfl,fun _=>rfl⟩
  case str =>
   obtain⟨rfl,h⟩:=f;exact⟨rfl,fun _=>⟨rfl,h⟩⟩
  case ref k =>
   have f:cs=[Kt k]:=f;subst f;have q:(Ty.ref k).wrap [Kt k]=Kt k:=rfl;rw[q];match k with
   | 0=>exact⟨rfl,fun _=>rfl⟩
   | 1=>exact⟨rfl,fun _=>rfl⟩
   | _+2=>exact⟨rfl,fun _=>rfl⟩
 case ag l =>
  obtain⟨cs,rfl,n⟩:=i;have g:=n.length;cases ty<;>simp only[CU]at hf<;>try(cases hf;done)
  rename_i t;simp only[AAq]at hf;exact⟨by simp[Value.cells,Ty.size,g,hf],fun h=>absurd rfl (h l)⟩
 case tup l=>simp[CU]at hf
 all_goals
  have h1:ty.cell1=true:=by simp only[CU]at hf;first|exact hf|(simp only[As]at hf;exact hf.2)|exact absurd hf (by decide)
  have j:v.oneCell'=true:=o h1;have m:v.cells=#[v]:=by cases v<;>first|rfl|simp[Value.oneCell']at j
  have hs:ty.size=1:=by cases ty<;>simp[Ty.cell1]at h1<;>rfl
  rw[m];exact⟨by simp[hs],fun _=>⟨v,rfl,j,i⟩⟩
end
end
section
open Go Go.RowKit
section
variable {P:Program} {tb:Tb} {id:TypeId} {ti:TI} {w:World} {O0:Nat→Prop} {σ:St} {ρ:Nat→Value} {vc:Prop} {v:AV} {obs:List (Nat×Obj)}
theorem Wt {w:World} {base:Nat} {et:TypeId} {size:Nat} {g m c n:Nat} {cells:List Value} (h:w.ownsRow base et size (.slice (some ⟨g,0,none⟩) m c) n cells) :
  m=n∧∀(j:Nat) (u:Value),cells[j]?=some u→w.cell? ⟨g,j,none⟩=some u:=by
 constructor
 ·rcases h.2 with ⟨a,_⟩|⟨e,cap,d,a,_⟩
  ·injection a with h1;cases h1
  ·injection a
 ·intro j u b;have:=h.cells (g:=g) rfl j u b
  rwa [aB]at this
theorem yL (hT:EJ P tb id ti) (T:∀n o,lk n σ.objs=some o→A2 (vw w O0 σ ρ) o (ρ n)) {x:AV} {xv:Value}
  (h:JJ σ (some ti) (some x)=some (vc,v,obs)) (V:B1 (vw w O0 σ ρ) x xv):obs=[]∧∃u,(Instr.loadAt id xv).run P w=.ok u w∧B1 (vw w O0 σ ρ) v u:=by
 unfold JJ at h;split at h
 ·rename_i n X off N O;cases N;cases O;obtain⟨Z,b,z,rfl⟩:=V;cases hn:lk n σ.objs with
  | none=>rw[hn]at h;simp[Ea]at h
  | some o =>
   rw[hn]at h;cases o with
   | arr et e xs=>simp[Ea]at h
   | mapo k v l=>simp[Ea]at h
   | frame bf fs=>simp[Ea]at h
   | loop L=>simp[Ea]at h
   | itr ba bd bb bc ay=>simp[Ea]at h
   | dfr=>simp[Ea]at h
   | nest et az k e xs a=>simp[Ea]at h
   | box et st fs =>
    simp only[Ea]at h;cases a:JG st fs X with
    | none=>rw[a]at h;simp[Hn]at h
    | some y =>
     rw[a]at h;simp only[Hn]at h;split at h
     ·rename_i H;obtain⟨B,C⟩:=H;cases h;obtain⟨bk,b',cs,s,am,M⟩:=T n _ hn;have z:ρ n=_:=z;rw[z]at s;injection s with s
      injection s with s
      injection s with s
      subst s;have D:∀(I:List Value) (o:Nat),I=(cs.drop o).take I.length→∀(j:Nat) (u:Value),I[j]?=some u→w.cell? ((⟨b,o,none⟩:Addr).add j)=some u:=by
       intro I o ab j u p;rw[KE,cell_of_row w b (o+j) cs.toArray et (0,0) am];rw[ab,AAe,AAz]at p;split at p
       ·simpa using p
       ·cases p
      refine⟨rfl,?_⟩;unfold JG at a;split at a
      · -- the whole
       simp only[OB]at C;cases C;cases st with
       | true =>
        simp only[AAQ]at a;cases a;have bi:=M.length;cases f:ti.ty<;>rw[f]at B<;>simp only[CU]at B<;>try(cases B;done)
        rename_i t;simp only[AAq]at B;have av:cs.length=ti.ty.size:=by rw[f];simp only[Ty.size];omega
        have:=Eu w hT av (D cs 0 (by simp));refine⟨_,this,cs,?_,M⟩;rw[f];rfl
       | false =>
        simp only[AAT,ABk]at a;have ax:CE fs 0=0:=by cases fs<;>rfl
        obtain⟨h1,q⟩:=M.get a;rw[ax]at q;obtain⟨F,J⟩:=lF q B;have:=Eu w hT F (D _ 0 (by rw[q.length]));exact⟨_,this,J⟩
      · -- a field
       rename_i k;cases st with
       | false=>simp at a
       | true =>
        simp only[AAQ]at a;obtain⟨h1,q⟩:=M.get a;obtain⟨F,J⟩:=lF q B;have ar:off=CE fs k:=by
         simp only[OB,a]at C;cases v<;>simp only[L5,ABd,List.isEmpty_nil,AAQ]at C<;>cases C<;>rfl
        subst ar;have:=Eu w hT F (D _ (CE fs k) (by rw[q.length]));exact⟨_,this,J⟩
      ·rename_i k r U;cases st with
       | false=>simp at a
       | true =>
        simp only[AAQ]at a;split at a
        ·rename_i t d hk;simp only[No]at a;obtain⟨pv,au,rfl⟩:=a;simp only[OB,hk,No]at C;obtain⟨be,aq,rfl⟩:=C;obtain⟨h1,q⟩:=M.get hk;have q:Bq w (own O0 σ ρ) t _ d:=q;obtain⟨Y,G⟩:=Ti au aq q;simp only[AV.cells]at h1 G;rw[p7 _ _ _ _ _ Y]at G;simp only[CU,IS]at B;have Q:=G.length;have:=Eu w hT (by rw[B];exact Q) (D _ (CE fs k+be) (by rw[Q]));rw[B]at this;exact⟨_,this,_,G,rfl⟩
        ·cases a
     ·cases h
 ·rename_i n e i X off N O;cases N;cases O;obtain⟨Z,g,m,c,z,ao,rfl⟩:=V;cases hn:lk n σ.objs with
  | none=>rw[hn]at h;simp[Eb]at h
  | some o =>
   rw[hn]at h;cases o with
   | box et st fs=>simp[Eb]at h
   | mapo k v l=>simp[Eb]at h
   | frame bf fs=>simp[Eb]at h
   | loop L=>simp[Eb]at h
   | itr ba bd bb bc ay=>simp[Eb]at h
   | dfr=>simp[Eb]at h
   | nest et az k A xs a =>
    cases a with
    | some j=>simp[Eb]at h
    | none =>
     simp only[Eb]at h;split at h
     ·rename_i aj;subst aj;obtain⟨o,ins,cells,s,S⟩:=T n _ hn;have z:plc (ρ n)=_:=z;have ap:plc (ρ n)=o:=s.plc;have E:=S.own;rw[←ap,z]at E;obtain⟨rfl,D⟩:=Wt E;have W:xs[i]?=some (xs.getD i (k.dflt,[])):=by grind
      have R:i<ins.length:=by rw[S.len];exact ao
      obtain⟨c1,v1,aa,af,F⟩:=S.row i _ ins[i] W (AT R);rcases F with ⟨F,_⟩|⟨_,ag,J⟩
      ·cases F
      ·have ae:c1.length=k.size:=af.length;unfold MB at h;split at h
       ·split at h
        ·rename_i K;obtain⟨f,rfl⟩:=K;cases h;have:=Eu (ad:=⟨g,i*(Ty.agg (.prod k (.slice A))).size+0,none⟩) w hT (by rw[f];exact ae) (fun j u p=>by
          rw[KE];refine D _ _ (aa j u ?_);rw[AA5 (aT.1 p).1];exact p)
         rw[f]at this;exact⟨rfl,_,this,c1,af,rfl⟩
        ·cases h
       ·split at h
        ·rename_i K;obtain⟨f,rfl⟩:=K;cases h;have:=Eu (ad:=⟨g,i*(Ty.agg (.prod k (.slice A))).size+k.size,none⟩) (cs:=[v1]) w hT (by rw[f];rfl) (fun j u p=>by
          have an:j=0:=by have:=(aT.1 p).1;simpa using this
          subst an;rw[KE];refine D _ _ (aa k.size u ?_);rw[AA2 (by omega),ae,AAI];exact p)
         rw[f]at this;obtain⟨ah,ai,aw⟩:=yE ag J;exact⟨rfl,_,this,Z,_,ah,ai,ins[i],s.resolve_right (fun h=>by rw[h.2.2]at R;simp at R),by simp[R],ag,aw⟩
        ·cases h
       ·cases h
     ·cases h
   | arr et A xs =>
    simp only[Eb]at h;cases H:BP (.slice e) ⟨.slice A,xs⟩ with
    | none=>rw[H]at h;simp[Hq]at h
    | some ys =>
     obtain⟨rfl,q⟩:=Bk H;cases q;rw[H]at h;simp only[Hq]at h;cases hp:Qp X A (xs.getD i A.dflt) with
     | none=>rw[hp]at h;simp[Ho]at h
     | some pv =>
      rw[hp]at h;simp only[Ho]at h;split at h
      ·rename_i K;obtain⟨f,C⟩:=K;cases h;obtain⟨bj,cells,E,ak⟩:=T n _ hn;have z:plc (ρ n)=_:=z;have E:w.ownsRow 0 et A.size (ρ n) xs.length cells:=E;rw[Hs E]at z;rw[z]at E;obtain⟨rfl,D⟩:=Wt E;have W:xs[i]?=some (xs.getD i A.dflt):=by grind
       obtain⟨I,ab,bh,al⟩:=ak i _ W;obtain⟨Y,G⟩:=Ti hp C al;have Q:=G.length;have:=Eu (ad:=⟨g,i*A.size+off,none⟩) w hT (by rw[f];exact Q) (fun j u p=>by
        rw[KE,ACJ];rw[AAe,AAz]at p;split at p
        ·grind
        ·cases p)
       rw[f]at this;exact⟨rfl,_,this,_,G,rfl⟩
      ·cases h
 ·rename_i u d N O;cases N;cases O;obtain⟨ad,cs,rfl,bg,H,U⟩:=V;split at h
  ·rename_i f;cases h;have:=Eu w hT (by rw[f];exact U.length) H;rw[f]at this;exact⟨rfl,_,this,cs,U,rfl⟩
  ·cases h
 ·cases h
end
end
section
open Go Go.RowKit
section
variable {P:Program} {tb:Tb} {id:TypeId} {ti:TI} {w:World} {V:Vw} {vc:Prop} {v:AV} {obs:List (Nat×Obj)}
theorem lG {α:Type} {l:List α} {k:Nat} {x:α} (h:l[k]?=some x):x∈l:=AAB h
theorem aK (hT:EJ P tb id ti) {u:Ty} (p:ti.ty=.agg u) (d:ti.el=0) {f k s:Nat} (hf:ti.offs[f]?=some (k,s)) (ad:Addr) (w:World) :
  (Instr.fieldAt id (.pointer (some ad)) f).run P w=.ok (.pointer (some (ad.add k))) w:=by
 obtain⟨⟨⟨m,_⟩,_⟩,a⟩:=hT;rw[p]at a;simp only at a;rcases a with ⟨fs,_,hu,o⟩|⟨n,e,i,l,_⟩
 ·have b:(ti.offs.map some)[f]?=some (some (k,s)):=by simp[hf]
  rw[o]at b;simp only[AA0,No]at b;obtain⟨fl,h,g⟩:=b;obtain⟨i,hi,c⟩:=g;cases c;have j:fs[f]?=some fl:=by simpa using h
  have hs:i.size≠0:=m _ (lG hf);simp[Instr.fieldAt,iF hu,j,Instr.sureAddr,fieldPlace,sizeOf,MF w hi,hs]
 ·exact absurd d l
theorem aL (hT:EJ P tb id ti) {u:Ty} (h:ti.ty=.agg u) (c:ti.el≠0) {k s:Nat} {z:Int} {kd:IntKind} (j:0≤z) (hf:ti.offs[z.toNat]?=some (k,s)) (ad:Addr) (w:World) :
  (Instr.indexAt id (.pointer (some ad)) (.int kd z)).run P w=.ok (.pointer (some (ad.add k))) w:=by
 obtain⟨_,a⟩:=hT;rw[h]at a;simp only at a;rcases a with ⟨fs,h0,_⟩|⟨n,e,i,_,hu,hi,g⟩
 ·exact absurd h0 c
 ·rw[g]at hf;simp only[AA0,No]at hf;obtain⟨l,d,b⟩:=hf;cases b;obtain⟨h1,a⟩:=aT.1 d;simp only[ABI]at h1;simp only[ABR]at a;subst a;have f:z<(n:Int):=by omega
  simp[Instr.indexAt,asIntOf,iF hu,Instr.sureAddr,sizeOf,MF w hi,j,f]
theorem yM {f:Nat} {o:Option (Nat×Nat)} {x:AV} {xv:Value} {run:Value→Result Value} (y:∀k s ad,o=some (k,s)→run (.pointer (some ad))=.ok (.pointer (some (ad.add k))) w)
  (h:Nf f o x=some (vc,v,obs)) (z:B1 V x xv):obs=[]∧∃u,run xv=.ok u w∧B1 V v u:=by
 unfold Nf at h;split at h
 ·rename_i n G off;obtain⟨q,b,A,rfl⟩:=z;cases o with
  | none=>simp[Si]at h
  | some p =>
   obtain⟨k,s⟩:=p;simp only[Si]at h;cases h;exact⟨rfl,_,y k s _ rfl,q,b,A,by rw[KE]⟩
 ·rename_i n e i G off;obtain⟨q,g,m,c,A,F,rfl⟩:=z;cases o with
  | none=>simp[Si]at h
  | some p =>
   obtain⟨k,s⟩:=p;simp only[Si]at h;cases h;exact⟨rfl,_,y k s _ rfl,q,g,m,c,A,F,by rw[KE,ACJ]⟩
 ·rename_i u d;obtain⟨ad,cs,rfl,D,E,t⟩:=z;cases r:Gy u f d with
  | none=>rw[r]at h;simp[Hr]at h
  | some pv =>
   rw[r]at h;simp only[Hr]at h;split at h
   ·rename_i l;cases h;have t:Bq V.w V.O u cs d:=t;obtain⟨h1,I,B,H,C⟩:=PP r t;rw[B]at l;cases o with
    | none=>simp at l
    | some p =>
     obtain⟨k,s⟩:=p;simp only[ABd,AB9]at l;subst l;refine⟨rfl,_,y k s _ rfl,ad.add k,_,rfl,by rw[CQ];exact D,fun j u a=>?_,C⟩;rw[Da];rw[AAe,AAz]at a;split at a
     ·exact E _ _ a
     ·cases a
   ·cases h
 ·cases h
theorem A3R (hT:EJ P tb id ti) {f:Nat} {x:AV} {xv:Value} (w:World)
  (h:GZ f (some ti) (some x)=some (vc,v,obs)) (e:B1 V x xv):obs=[]∧∃u,(Instr.fieldAt id xv f).run P w=.ok u w∧B1 V v u:=by
 unfold GZ at h;split at h
 ·rename_i u offs b g a c;cases a;cases c;exact yM (run:=fun xv=>(Instr.fieldAt id xv f).run P w) (fun k s ad d=>aK hT rfl rfl d ad w) h e
 ·cases h
theorem Rz {e:TypeId} (hu:P.underlying id=some (.slice e)) {size:Nat} (hs:(sizeOf e).run P w=.ok size w) (a:Addr) (n c:Nat) (k:IntKind) (i:Int) (h0:0≤i) (h1:i<n) :
  (Instr.indexAt id (.slice (some a) n c) (.int k i)).run P w=.ok (.pointer (some (a.add (i.toNat*size)))) w:=by
 simp[Instr.indexAt,asIntOf,iF hu,h0,h1,hs]
theorem A9X {e:Ty} {el:TypeId} (hu:P.underlying id=some (.slice el)) (hs:(sizeOf el).run P V.w=.ok e.size V.w) {l:List e.den} {kd:IntKind} {k:Int} {xv:Value}
  (r:Bb V.w V.O (.slice e) xv l) (n:0≤k) (o:k<(l.length:Int)) :
  ∃u,(Instr.indexAt id xv (.int kd k)).run P V.w=.ok u V.w∧B1 V (.ip e (l.getD k.toNat e.dflt)) u:=by
 obtain⟨cs,h,rfl⟩:=r;obtain⟨a,c,rfl,h1,t,b⟩:=h;have p:k.toNat<l.length:=by omega
 rcases b with b|⟨ad,rfl,f,i⟩
 ·subst b;simp at p
 ·refine⟨_,Rz hu hs _ _ _ _ _ n o,?_⟩;have s:l[k.toNat]?=some (l.getD k.toNat e.dflt):=by grind
  obtain⟨d,v,g,q⟩:=i _ _ s;exact⟨_,d,rfl,by rw[CQ];exact f,fun j u m=>by rw[Da];exact g j u m,q⟩
theorem A9Y {e:Ty} {el:TypeId} (hu:P.underlying id=some (.slice el)) (hs:(sizeOf el).run P V.w=.ok e.size V.w) {n lo hi:Nat} {kd:IntKind} {k:Int} {xv:Value}
  (s:B1 V (.sr n e lo hi) xv) (h:∀n,V.L n→∃o,A2 V o (V.ρ n)) (j:0≤k) (l:k<((hi-lo:Nat):Int)) :
  ∃u,(Instr.indexAt id xv (.int kd k)).run P V.w=.ok u V.w∧B1 V (.ep n e (lo+k.toNat) [] 0) u:=by
 obtain⟨b,a,m,c,f,A,z,t,v,rfl,y,h0,h1⟩:=s;have p:lo<hi:=by omega
 have i:=h1 p;obtain⟨o,q⟩:=h n b;obtain⟨g,rfl⟩:∃g,a=some ⟨g,0,none⟩:=by
  obtain⟨_,_,cells,r,_⟩:=Ws q f;rcases r.2 with ⟨d,hn⟩|⟨g,cap,x,d,_⟩
  ·injection d;omega
  ·grind
 subst i;refine⟨_,Rz hu hs _ _ _ _ _ j l,b,g,m,c,f,by omega,?_⟩;rw[Da,aB,ACt];rfl
theorem BR {O:Nat→Prop} {w:World} {kd:IntKind} {k:Int} {v:Value} (h:Bb w O (.int kd) v k):v=.int kd k∧Li kd k:=by
 obtain⟨cs,⟨rfl,h1⟩,rfl⟩:=h;exact⟨rfl,h1⟩
theorem BN {O:Nat→Prop} {w:World} {kd:IntKind} {k:Int} (h:Li kd k):Bb w O (.int kd) (.int kd k) k:=⟨_,⟨rfl,h⟩,rfl⟩
theorem EW {O:Nat→Prop} {w:World} {b:Bool} {v:Value} (h:Bb w O .bool v b):v=.bool b:=by
 obtain⟨cs,h1,rfl⟩:=h;have h1:cs=_:=h1;subst h1;rfl
theorem Bi {O:Nat→Prop} {w:World} (b:Bool):Bb w O .bool (.bool b) b:=⟨[.bool b],rfl,rfl⟩
theorem Gz {O:Nat→Prop} {w:World} {s:ByteArray} {v:Value} (h:Bb w O .str v s):v=.string s∧s.size≤AO:=by
 obtain⟨cs,⟨rfl,h1⟩,rfl⟩:=h;exact⟨rfl,h1⟩
theorem Tk {O:Nat→Prop} {w:World} {s:ByteArray} (h:s.size≤AO):Bb w O .str (.string s) s:=⟨_,⟨rfl,h⟩,rfl⟩
theorem CJ {e:Ty} {offs:List (Nat×Nat)} {el:TypeId} {bytes:Nat} (hT:EJ P tb id ⟨.slice e,offs,el,bytes⟩) (b:DL P tb) :
  P.underlying id=some (.slice el)∧(∀w,(sizeOf el).run P w=.ok e.size w)∧∃te,lk el tb.ty=some te∧te.ty=e:=by
 obtain⟨_,hu,te,a,rfl⟩:=hT;exact⟨hu,fun w=>IQ w (b _ _ a),te,a,rfl⟩
theorem A3S (hT:EJ P tb id ti) (m:DL P tb) {x y:AV} {xv p:Value}
  (h:Fa (some ti) (some x) (some y)=some (vc,v,obs)) (f:vc) (i:B1 V x xv) (j:B1 V y p) (r:∀n,V.L n→∃o,A2 V o (V.ρ n)) :
  obs=[]∧∃u,(Instr.indexAt id xv p).run P V.w=.ok u V.w∧B1 V v u:=by
 unfold Fa at h;split at h
 ·rename_i e offs el bytes q l kd k a c d;cases a;cases c;cases d;split at h
  ·rename_i g;subst g;cases h;obtain⟨hu,hs,_⟩:=CJ hT m;obtain⟨rfl,_⟩:=BR j;exact⟨rfl,A9X hu (hs _) i f.1 f.2⟩
  ·cases h
 ·rename_i e offs el bytes n q lo hi kd k a c d;cases a;cases c;cases d;split at h
  ·rename_i g;subst g;cases h;obtain⟨hu,hs,_⟩:=CJ hT m;obtain⟨rfl,_⟩:=BR j;exact⟨rfl,A9Y hu (hs _) i r f.1 f.2⟩
  ·cases h
 ·rename_i u offs el b A B a c d;cases a;cases c;cases d;unfold JK at h;split at h
  ·rename_i kd k;split at h
   ·rename_i hk;obtain⟨rfl,_⟩:=BR j;exact yM (run:=fun xv=>(Instr.indexAt id xv (.int kd k)).run P V.w) (fun z s ad t=>aL hT rfl (by simp) hk t ad V.w) h i
   ·cases h
  ·cases h
 ·cases h
theorem K6 {k:IntKind} {n:Int} (h:Li k n):k.wrap n=n:=by
 obtain⟨h1,a⟩:=h;cases k<;>simp[IntKind.min,IntKind.max,IntKind.signed,IntKind.bits]at h1 a<;>simp[IntKind.wrap,IntKind.signed,IntKind.bits]<;>omega
theorem M0 (k:IntKind) (n:Int):Li k (k.wrap n):=by
 cases k<;>simp only[Li,IntKind.min,IntKind.max,IntKind.wrap,IntKind.signed,IntKind.bits]<;>simp<;>omega
theorem A6c {op:BinOp} {t:TypeId} {k e:IntKind} {a b:Int} (w:World) (c:(yC op k a e b).1) (ha:Li k a) :
  ∃u,(binOp op t (.int k a) (.int e b)).run P w=.ok u w∧B1 V (yC op k a e b).2 u:=by
 unfold yC at c ⊢;split at c
 ·have d:¬b<0:=by have h:0≤b:=c;omega
  exact⟨_,by simp[binOp,Op.shift,d];rfl,BN (M0 _ _)⟩
 ·have d:¬b<0:=by have h:0≤b:=c.1;omega
  exact⟨_,by simp[binOp,Op.shift,d];rfl,BN c.2⟩
 ·split at c
  ·rename_i f g hk;subst hk;cases op<;>simp only[aC]at c ⊢;case add=>exact⟨.int k (a+b),by simp[binOp,Op.intArith,K6 c],BN c⟩
   case sub=>exact⟨.int k (a-b),by simp[binOp,Op.intArith,K6 c],BN c⟩
   case mul=>exact⟨.int k (a*b),by simp[binOp,Op.intArith,K6 c],BN c⟩
   case quo=>exact⟨.int k (a.tdiv b),by simp[binOp,Op.intDiv,c.1,K6 c.2],BN c.2⟩
   case rem=>exact⟨.int k (a.tmod b),by simp[binOp,Op.intDiv,c.1],BN c.2⟩
   case and=>exact⟨.int k (CB .and k a b),by simp only[binOp,ne_eq,ACa,ABk,Op.intBits];rfl,BN (M0 _ _)⟩
   case or=>exact⟨.int k (CB .or k a b),by simp only[binOp,ne_eq,ACa,ABk,Op.intBits];rfl,BN (M0 _ _)⟩
   case xor=>exact⟨.int k (CB .xor k a b),by simp only[binOp,ne_eq,ACa,ABk,Op.intBits];rfl,BN (M0 _ _)⟩
   case andNot=>exact⟨.int k (CB .andNot k a b),by simp only[binOp,ne_eq,ACa,ABk,Op.intBits];rfl,BN (M0 _ _)⟩
   case eql=>exact⟨.bool (a==b),by simp[binOp,Op.intCmp],Bi _⟩
   case neq=>exact⟨.bool (a != b),by simp[binOp,Op.intCmp],Bi _⟩
   case lss=>exact⟨.bool (decide (a<b)),by simp[binOp,Op.intCmp],Bi _⟩
   case leq=>exact⟨.bool (decide (a≤b)),by simp[binOp,Op.intCmp],Bi _⟩
   case gtr=>exact⟨.bool (decide (b<a)),by simp[binOp,Op.intCmp],Bi _⟩
   case geq=>exact⟨.bool (decide (b≤a)),by simp[binOp,Op.intCmp],Bi _⟩
  ·exact c.elim
theorem A3T {op:BinOp} {t:TypeId} {a b:ByteArray} (w:World) (c:(Tc a b op).1) :
  ∃u,(binOp op t (.string a) (.string b)).run P w=.ok u w∧B1 V (Tc a b op).2 u:=by
 cases op<;>simp only[Tc]at c ⊢;case add =>
  have d:AO=140737488355328:=rfl;have hh:¬(((a.size+b.size:Nat):Int) > IntKind.i64.max):=by
   have:IntKind.i64.max=9223372036854775807:=by decide
   omega
  exact⟨.string (a++b),by simp only[binOp,Op.stringOp,At hh];rfl,Tk (by simpa[ABD] using c)⟩
 case eql=>exact⟨.bool (Ab a b),by simp only[binOp,Op.stringOp];rfl,Bi _⟩
 case neq=>exact⟨.bool (!Ab a b),by simp only[binOp,Op.stringOp];rfl,Bi _⟩
 case lss=>exact⟨.bool (Hd a b),by simp only[binOp,Op.stringOp];rfl,Bi _⟩
 case leq=>exact⟨.bool (Hd a b||Ab a b),by simp only[binOp,Op.stringOp];rfl,Bi _⟩
 case gtr=>exact⟨.bool (!(Hd a b||Ab a b)),by simp only[binOp,Op.stringOp];rfl,Bi _⟩
 case geq=>exact⟨.bool (!Hd a b),by simp only[binOp,Op.stringOp];rfl,Bi _⟩
 all_goals exact c.elim
theorem A7j {op:BinOp} {t:TypeId} {ti:Option TI} (n:PI ti=true→P.underlying t=some .bool) {x y:AV} {xv l:Value} (w:World)
  (h:PJ op ti (some x) (some y)=some (vc,v,obs)) (m:vc) (i:B1 V x xv) (j:B1 V y l) :
  obs=[]∧(∀e f,(eqGuard op t e f xv l).run P w=.ok () w)∧∃u,(binOp op t xv l).run P w=.ok u w∧B1 V v u:=by
 unfold PJ at h;split at h
 ·rename_i k a o b c d;cases c;cases d;cases h;obtain⟨rfl,ha⟩:=BR i;obtain⟨rfl,_⟩:=BR j;refine⟨rfl,fun e f=>?_,A6c w m ha⟩;cases op<;>simp[eqGuard]
 ·rename_i a b c d;cases c;cases d;cases h;obtain⟨rfl,ha⟩:=Gz i;obtain⟨rfl,_⟩:=Gz j;refine⟨rfl,fun e f=>?_,A3T w m⟩;cases op<;>simp[eqGuard]
 ·rename_i a b c d;cases c;cases d;have ha:=EW i;have g:=EW j;subst ha g;split at h
  ·rename_i g;have hu:=n g;cases op<;>simp only[aF]at h<;>cases h
   ·exact⟨rfl,fun e f=>by simp[eqGuard],.bool (a==b),by simp[binOp,run_equal_bool w t a b hu],Bi _⟩
   ·exact⟨rfl,fun e f=>by simp[eqGuard],.bool (a != b),by simp[binOp,run_equal_bool w t a b hu,bne],Bi _⟩
  ·cases h
 ·cases h
theorem A9Z {op:UnOp} {x:AV} {xv:Value} (w:World) (h:xZ op (some x)=some (vc,v,obs)) (c:vc) (e:B1 V x xv) :
  obs=[]∧∃u,(Op.unary op xv).run P w=.ok u w∧B1 V v u:=by
 unfold xZ at h;split at h
 ·rename_i b d;cases d;cases h;have:=EW e;subst this;exact⟨rfl,.bool (!b),by simp[Op.unary],Bi _⟩
 ·rename_i k a d;cases d;cases h;obtain⟨rfl,ha⟩:=BR e;have c:Li k (0-a):=c;exact⟨rfl,_,by simp only[Op.unary,Op.intArith,K6 c];rfl,BN c⟩
 ·cases h
end
end
section
open Go Go.RowKit
section
variable {P:Program} {tb:Tb} {id:TypeId} {ti:TI} {w:World} {V:Vw} {vc:Prop} {v:AV} {obs:List (Nat×Obj)}
theorem lH (l:List Int):(Rw l).size=l.length:=by
 show (Rw l).data.size=l.length;unfold Rw;simp
theorem A6d (G:DL P tb) (H:V.w=w) {s t:TypeId} {B ti:TI} (hs:EJ P tb s B) (y:EJ P tb t ti) {x:AV} {xv:Value} (h:JL (some B) (some ti) (some x)=some (vc,v,obs)) (i:vc) (A:B1 V x xv) :
  obs=[]∧∃u,(convert s t xv).run P w=.ok u w∧B1 V v u:=by
 unfold JL at h;split at h
 ·rename_i T U m b1 k W D b2 ab a n o p;cases n;cases o;cases p;cases h;obtain⟨rfl,ha⟩:=BR A;have i:Li k a:=i;have f:P.underlying s=some (.int T):=hs.2;have g:P.underlying t=some (.int k):=y.2;refine⟨rfl,.int k a,?_,BN i⟩;simp[convert,iF f,iF g,Conv.intToInt,K6 i]
 ·rename_i U m b1 W D b2 l n o p;cases n;cases o;cases p;cases h;obtain⟨f,te,O,Q⟩:=hs.2;have g:P.underlying t=some .string:=y.2;have z:P.underlying m=some (.int .u8):=by
   have:=(G _ _ O).2;rw[Q]at this;exact this
  obtain⟨cs,⟨a,c,rfl,h1,E,d⟩,rfl⟩:=A;have N:(Rw l).size≤AO:=by rw[lH];exact E
  refine⟨rfl,.string (Rw l),?_,⟨[.string (Rw l)],⟨rfl,N⟩,rfl⟩⟩;have L:a=none→l=[]:=fun e=>by grind
  cases a with
  | none =>
   have:=L rfl;subst this;show (convert s t (.slice none 0 c)).run P w=_;have C:Rw []=ByteArray.empty:=rfl;rw[C];simp[convert,iF f,iF g,iF z,Conv.bytesToString]
  | some ad =>
   have r:=run_convert_bytes_back (P:=P) w s t m ad c (l.map fun x=>UInt8.ofNat x.toNat) f z g fun j q=>by
    have b:j<List.length l:=by rw[To]at q;exact q
    rcases d with d|⟨X,d,Z,F⟩
    ·rw[d]at b;cases b
    ·cases d;obtain⟨Y,-,J,M⟩:=F j l[j] (AT b);obtain⟨rfl,K⟩:=M;have I:=J 0 (.int .u8 l[j]) rfl;rw[H]at I;obtain⟨R,S⟩:(0:Int)≤(l:List Int)[j]'b∧(l:List Int)[j]'b≤255:=by
      simpa[Li,IntKind.min,IntKind.max,IntKind.signed,IntKind.bits] using K
     have e:(((List.map (fun x:Int=>UInt8.ofNat x.toNat) l)[j]'q).toNat:Int)=l[j]:=by
      rw[ABZ,UInt8.toNat_ofNat'];have aa:((l:List Int)[j]'b).toNat % 2 ^ 8=((l:List Int)[j]'b).toNat:=Nat.mod_eq_of_lt ((ACk R).2 (AC5 S (by decide)));grind
     grind [Ty.size]
   rw[To]at r;exact r
 ·cases h
theorem A7k (r:∀n,V.L n→∃o,A2 V o (V.ρ n)) {x:AV} {xv:Value} {t ty:TypeId} (hT:EJ P tb t ti) (w:World) (h:Qr (some ti) (some x)=some (vc,v,obs)) (g:B1 V x xv) :
  obs=[]∧∃u,(Builtin.len_ #[t] ty #[xv]).run P w=.ok u w∧B1 V v u:=by
 have j:∀n:Nat,n≤AO→Li .i64 (n:Int):=fun n hn=>by
  simp[Li,IntKind.min,IntKind.max,IntKind.signed,IntKind.bits];simp[AO]at hn;omega
 unfold Qr at h;split at h
 ·rename_i e o el b q l d f;cases d;cases f;cases h;obtain⟨cs,⟨a,c,rfl,h1,y,_⟩,rfl⟩:=g;have hu:=hT.2.1;exact⟨rfl,.int .i64 (List.length l:Int),by simp[Builtin.len_,iF hu,goInt,Ty.wrap],BN (j _ y)⟩
 ·rename_i e o el b n q lo hi d f;cases d;cases f;cases h;obtain⟨k,a,m,c,C,I,H,E,F,rfl,G,h0,h1⟩:=g;have hu:=hT.2.1;obtain⟨D,p⟩:=r n k;obtain⟨_,_,_,_,this⟩:=Ws p C;exact⟨rfl,.int .i64 ((hi-lo:Nat):Int),by simp[Builtin.len_,iF hu,goInt],BN (j _ (by omega))⟩
 ·rename_i e o el b n q i len d f;cases d;cases f;cases h;obtain⟨k,K,a,c,J,B,A,z,rfl⟩:=g;have hu:=hT.2.1;obtain⟨D,p⟩:=r n k;have:=A3M p B A z rfl;exact⟨rfl,.int .i64 (len:Int),by simp[Builtin.len_,iF hu,goInt],BN (j _ this)⟩
 ·rename_i e o el b d f;cases d;cases f;cases h;have g:xv=_:=g;subst g;have hu:=hT.2.1;exact⟨rfl,.int .i64 0,by simp[Builtin.len_,iF hu,goInt],BN (j 0 (by simp))⟩
 ·rename_i o el b s d f;cases d;cases f;cases h;obtain⟨rfl,h1⟩:=Gz g;have hu:P.underlying t=some .string:=hT.2;exact⟨rfl,.int .i64 (s.size:Int),by simp[Builtin.len_,iF hu,goInt],BN (j _ h1)⟩
 ·cases h
theorem tW {i:Nat} {x:AV} {xv:Value} (w:World) (h:EE i (some x)=some (vc,v,obs)) (g:B1 V x xv) :
  obs=[]∧∃u,(Instr.extract xv i).run P w=.ok u w∧B1 V v u:=by
 have get:∀(l:List AV) (a:List Value) (i:Nat) (y:AV),KJ V l a→l[i]?=some y→∃u,a[i]?=some u∧B1 V y u:=by
  intro l;induction l with
  | nil=>intro a i y _ h;simp at h
  | cons z r j =>
   intro a i y c h;obtain⟨u,k,rfl,h1,d⟩:=c;cases i with
   | zero =>
    simp at h;subst h;exact⟨u,rfl,yD h1⟩
   | succ i=>exact j k i y d (by simpa using h)
 unfold EE at h;split at h
 ·rename_i l e;cases e;obtain⟨a,rfl,c⟩:=g;cases b:l[i]? with
  | none=>rw[b]at h;simp[GY]at h
  | some y =>
   rw[b]at h;simp only[GY]at h;cases h;obtain⟨u,hu,f⟩:=get l a i _ c b;exact⟨rfl,u,by simp[Instr.extract,hu],f⟩
 ·cases h
theorem A7l {x y:AV} {xv d:Value} {ts:Array TypeId} {ty:TypeId} (w:World) (h:PK (some x) (some y)=some (vc,v,obs)) (g:B1 V x xv) (i:B1 V y d) :
  obs=[]∧∃u,(Builtin.min_ ts ty #[xv,d]).run P w=.ok u w∧B1 V v u:=by
 unfold PK at h;split at h
 ·rename_i k a j b e f;cases e;cases f;split at h
  ·rename_i hk;subst hk;cases h;obtain⟨rfl,ha⟩:=BR g;obtain⟨rfl,c⟩:=BR i;have ha:Li k a:=ha;have c:Li k b:=c;refine⟨rfl,.int k (if (b:Int)<a then b else a),by simp[Builtin.min_,Builtin.min2],BN ?_⟩;split
   ·exact c
   ·exact ha
  ·cases h
 ·cases h
theorem A6e {x y z:AV} {xv f g:Value} {ts:Array TypeId} {ty:TypeId} (w:World) (h:IK (some x) (some y) (some z)=some (vc,v,obs)) (o:B1 V x xv) (p:B1 V y f) (q:B1 V z g) :
  obs=[]∧∃u,(Builtin.min_ ts ty #[xv,f,g]).run P w=.ok u w∧B1 V v u:=by
 unfold IK at h;split at h
 ·rename_i k a s b t c i j l;cases i;cases j;cases l;split at h
  ·rename_i hk;obtain⟨m,n⟩:=hk;subst m;subst n;cases h;obtain⟨rfl,ha⟩:=BR o;obtain⟨rfl,d⟩:=BR p;obtain⟨rfl,e⟩:=BR q;have ha:Li k a:=ha;have d:Li k b:=d;have e:Li k c:=e;refine⟨rfl,.int k (if (c:Int)<(if (b:Int)<a then b else a) then c else (if (b:Int)<a then b else a)),by simp[Builtin.min_,Builtin.min2],BN ?_⟩;by_cases r:(b:Int)<a
   ·grind
   ·grind
  ·cases h
 ·cases h
theorem A7m {x y:AV} {xv d:Value} {ts:Array TypeId} {ty:TypeId} (w:World) (h:PM (some x) (some y)=some (vc,v,obs)) (g:B1 V x xv) (i:B1 V y d) :
  obs=[]∧∃u,(Builtin.max_ ts ty #[xv,d]).run P w=.ok u w∧B1 V v u:=by
 unfold PM at h;split at h
 ·rename_i k a j b e f;cases e;cases f;split at h
  ·rename_i hk;subst hk;cases h;obtain⟨rfl,ha⟩:=BR g;obtain⟨rfl,c⟩:=BR i;have ha:Li k a:=ha;have c:Li k b:=c;refine⟨rfl,.int k (if (a:Int)<b then b else a),by simp[Builtin.max_,Builtin.max2],BN ?_⟩;split
   ·exact c
   ·exact ha
  ·cases h
 ·cases h
theorem A6f {t:TypeId} (hu:P.underlying t=some .string) (w:World) {s:ByteArray} {kd:IntKind} {k:Int} (h0:0≤k) (h1:k<(s.size:Int)) :
  (Instr.index t (.string s) (.int kd k)).run P w=.ok (.int .u8 ((s.data.getD k.toNat 0).toNat:Int)) w∧Li .u8 ((s.data.getD k.toNat 0).toNat:Int):=by
 have a:k.toNat<s.size:=by omega
 have d:k.toNat<s.data.size:=a;have c:s[k.toNat]?=some (s.data.getD k.toNat 0):=by
  rw[getElem?_pos s k.toNat a];simp only[Array.getD,d,dite_true];rfl
 refine⟨by simp[Instr.index,asIntOf,iF hu,h0,c],?_⟩;generalize s.data.getD k.toNat 0=b;have:=b.toNat_lt;simp[Li,IntKind.min,IntKind.max,IntKind.signed,IntKind.bits];omega
theorem yN {t:TypeId} {x y:AV} {xv c:Value} (hT:EJ P tb t ti) (w:World) (h:Dz (some ti) (some x) (some y)=some (vc,v,obs)) (a:vc) (i:B1 V x xv) (j:B1 V y c) :
  obs=[]∧∃u,(Instr.index t xv c).run P w=.ok u w∧B1 V v u:=by
 unfold Dz at h;split at h
 ·rename_i o el b s kd k e f g;cases e;cases f;cases g;cases h;obtain⟨rfl,_⟩:=Gz i;obtain⟨rfl,_⟩:=BR j;have hu:P.underlying t=some .string:=hT.2;obtain⟨h1,d⟩:=A6f (P:=P) hu w (kd:=kd) a.1 a.2;exact⟨rfl,_,h1,BN d⟩
 ·cases h
theorem A7n {x:AV} {xv:Value} (h:Sj (some x)=some (vc,v,obs)) (e:B1 V x xv):obs=[]∧(∃ad,xv=.pointer (some ad))∧B1 V v xv:=by
 unfold Sj at h;split at h
 ·rename_i a;cases a;cases h;obtain⟨d,b,f,rfl⟩:=e;exact⟨rfl,⟨_,rfl⟩,d,b,f,rfl⟩
 ·rename_i a;cases a;cases h;obtain⟨ad,cs,rfl,r⟩:=e;exact⟨rfl,⟨_,rfl⟩,ad,cs,rfl,r⟩
 ·rename_i a;cases a;cases h;obtain⟨d,g,m,c,f,i,rfl⟩:=e;exact⟨rfl,⟨_,rfl⟩,d,g,m,c,f,i,rfl⟩
 ·cases h
end
end
section
open Go Go.RowKit
section
variable {P:Program} {tb:Tb} {id:TypeId} {ti:TI} {V:Vw} {vc:Prop} {v:AV} {obs:List (Nat×Obj)}
def FU (a:Option Addr) (c l sz:Nat):Option Addr:=if c=l then a else a.map (·.add (l*sz))
inductive p8:Option Value→Nat→Nat→Prop
 | none (d:Nat):p8 none d d
 | some (k:IntKind) (z:Int) (d:Nat) (h:0≤z):p8 (some (.int k z)) d z.toNat
theorem yO {el:TypeId} (hu:P.underlying id=some (.slice el)) {sz:Nat} (w:World) (hs:(sizeOf el).run P w=.ok sz w) {a:Option Addr} {n c l h:Nat} {lo hi:Option Value}
  (i:p8 lo 0 l) (hh:p8 hi n h) (h1:l≤h) (m:h≤c) :
  (Instr.sliceAt id (.slice a n c) lo hi none).run P w=.ok (.slice (FU a c l sz) (h-l) (c-l)) w:=by
 cases i with
 | none =>
  cases hh with
  | none=>simp[Instr.sliceAt,iF hu,Instr.slice,Instr.sliceBounds,hs,FU]
  | some k z _ b =>
   have e:z≤(c:Int):=by omega
   simp[Instr.sliceAt,iF hu,Instr.slice,Instr.sliceBounds,Instr.sliceBound,asIntOf,hs,FU,b,e]
 | some k z _ b =>
  cases hh with
  | none =>
   have e:z≤(n:Int):=by omega
   simp[Instr.sliceAt,iF hu,Instr.slice,Instr.sliceBounds,Instr.sliceBound,asIntOf,hs,FU,b,e]
  | some o d _ j =>
   have e:d≤(c:Int):=by omega
   have f:max d 0=d:=by omega
   have g:z≤d:=by omega
   simp[Instr.sliceAt,iF hu,Instr.slice,Instr.sliceBounds,Instr.sliceBound,asIntOf,hs,FU,b,j,e,f,g]
theorem A6g (hu:P.underlying id=some .string) (w:World) {s:ByteArray} {l h:Nat} {lo hi:Option Value} (f:p8 lo 0 l) (hh:p8 hi s.size h) (h1:l≤h) (i:h≤s.size) :
  (Instr.sliceAt id (.string s) lo hi none).run P w=.ok (.string (s.extract l h)) w:=by
 cases f with
 | none =>
  cases hh with
  | none=>simp[Instr.sliceAt,iF hu,Instr.slice,Instr.sliceBounds]
  | some k z _ a =>
   have e:z≤(s.size:Int):=by omega
   simp[Instr.sliceAt,iF hu,Instr.slice,Instr.sliceBounds,Instr.sliceBound,asIntOf,a,e]
 | some k z _ a =>
  cases hh with
  | none =>
   have e:z≤(s.size:Int):=by omega
   simp[Instr.sliceAt,iF hu,Instr.slice,Instr.sliceBounds,Instr.sliceBound,asIntOf,a,e]
  | some j b _ g =>
   have e:b≤(s.size:Int):=by omega
   have c:max b 0=b:=by omega
   have d:z≤b:=by omega
   simp[Instr.sliceAt,iF hu,Instr.slice,Instr.sliceBounds,Instr.sliceBound,asIntOf,a,g,e,c,d]
theorem A3U {e:Ty} {xs:List e.den} {a:Option Addr} {n c l h:Nat} (p:Bq V.w V.O (.slice e) [.slice a n c] xs) (h1:l≤h) (g:h≤xs.length) :
  Bb V.w V.O (.slice e) (.slice (FU a c l e.size) (h-l) (c-l)) (sub xs l h)∧n=xs.length∧h≤c:=by
 obtain⟨q,r,f,s,t,b⟩:=p;injection f with f
 injection f with j k m
 subst j;subst k;subst m;have d:=OE xs (lo:=l) g;refine⟨⟨_,⟨FU a c l e.size,c-l,by rw[d],by rw[d];omega,by rw[d];omega,?_⟩,rfl⟩,rfl,by omega⟩;by_cases v:l<h
 ·right;rcases b with b|⟨ad,rfl,o,u⟩
  ·subst b;simp at g;omega
  ·refine⟨ad.add (l*e.size),?_,by rw[CQ];exact o,fun i x hi=>?_⟩
   ·grind [FU]
   ·obtain⟨y,_⟩:=Ym xs l h i hi;grind [Da]
 ·simp_all
theorem yP {loc:Value} {sz b c0 l h:Nat} {a:Option Addr} {n c:Nat} (r:DK loc sz b c0 (.slice a n c)) (h1:l≤h) (w:h≤c0-b) :
  DK loc sz (b+l) (b+h) (.slice (FU a c l sz) (h-l) (c-l))∧n=c0-b∧h≤c:=by
 obtain⟨a0,m,d,p,x,z,u,v,s,y,i,j⟩:=r;injection s with e f g
 subst e;subst f;subst g;refine⟨⟨a0,m,d,p,by omega,by omega,FU a c l sz,c-l,by rw[show b+h-(b+l)=h-l by omega],by omega,fun B=>?_,fun A=>?_⟩,rfl,by omega⟩
 ·have k:b=0:=by omega
  have o:l=0:=by omega
  subst k;subst o;obtain⟨t,C⟩:=i rfl;refine⟨?_,by omega⟩;rw[←t];unfold FU;split
  ·rfl
  ·simp only[ACw];cases a<;>rfl
 ·have:=j (by omega);subst this;have q:¬c=l:=by omega
  simp only[FU,At q,Option.map_map]
  congr 1
  grind [Da]
theorem Sk (s:ByteArray) (l h:Nat):(s.extract l h).size≤s.size:=by
 simp only[ByteArray.size_extract];omega
theorem Tl (hT:EJ P tb id ti) (j:DL P tb) {e:Ty} (d:ti.ty=.slice e) {l:List e.den} {xv:Value} {lo hi:Option Value} {a h:Nat}
  (m:Bb V.w V.O (.slice e) xv l) (k:p8 lo 0 a) (hh:p8 hi l.length h) (h1:a≤h) (f:h≤l.length) :
  ∃u,(Instr.sliceAt id xv lo hi none).run P V.w=.ok u V.w∧B1 V (.p (.slice e) (sub l a h)) u:=by
 obtain⟨ty,offs,el,bytes⟩:=ti;simp only at d;subst d;obtain⟨hu,hs,_⟩:=CJ hT j;obtain⟨cs,b,rfl⟩:=m;obtain⟨a0,c,rfl,r⟩:=b;have b:Bq V.w V.O (.slice e) [.slice a0 l.length c] l:=⟨a0,c,rfl,r⟩;obtain⟨g,_,i⟩:=A3U b h1 f;exact⟨_,yO hu _ (hs _) k hh h1 i,g⟩
theorem Tm (hT:EJ P tb id ti) (k:DL P tb) {n b c0:Nat} {e:Ty} (c:ti.ty=.slice e) {xv:Value} {lo hi:Option Value} {a h:Nat}
  (o:B1 V (.sr n e b c0) xv) (l:p8 lo 0 a) (hh:p8 hi (c0-b) h) (h1:a≤h) (f:h≤c0-b) :
  ∃u,(Instr.sliceAt id xv lo hi none).run P V.w=.ok u V.w∧B1 V (.sr n e (b+a) (b+h)) u:=by
 obtain⟨ty,offs,el,bytes⟩:=ti;simp only at c;subst c;obtain⟨hu,hs,_⟩:=CJ hT k;obtain⟨j,d⟩:=o;have m:=d;obtain⟨_,_,_,_,_,_,p,q,rfl,_⟩:=m;obtain⟨g,r,i⟩:=yP d h1 f;exact⟨_,yO hu _ (hs _) l hh h1 i,j,g⟩
theorem Tn (hT:EJ P tb id ti) (c:ti.ty=.str) {s:ByteArray} {xv:Value} {lo hi:Option Value} {a h:Nat}
  (f:Bb V.w V.O .str xv s) (d:p8 lo 0 a) (hh:p8 hi s.size h) (h1:a≤h) (b:h≤s.size) :
  ∃u,(Instr.sliceAt id xv lo hi none).run P V.w=.ok u V.w∧B1 V (.p .str (s.extract a h)) u:=by
 obtain⟨rfl,e⟩:=Gz f;have hu:=hT.2;rw[c]at hu;exact⟨_,A6g hu _ d hh h1 b,Tk (TO (Sk s a h) e)⟩
theorem Jw {z:Int} {n:Nat} (_h:0≤z) (a:z≤(n:Int)):z.toNat≤n:=by omega
theorem Yr {a b:Int} (h:a≤b):a.toNat≤b.toNat:=by omega
def aM:Option AV→Option Value→Prop
 | none,none=>True
 | some x,some v=>B1 V x v
 | _,_=>False
theorem yQ (hT:EJ P tb id ti) (k:DL P tb) {x ha g:AV} {xv d f:Value} (h:Dk (some ti) (some x) (some ha) (some g)=some (vc,v,obs)) (A:vc) (B:B1 V x xv) (hh:B1 V ha d) (t:B1 V g f) :
  obs=[]∧∃u,(Instr.sliceAt id xv none (some d) (some f)).run P V.w=.ok u V.w∧B1 V v u:=by
 unfold Dk at h;split at h
 ·rename_i e offs el bytes E l C a D b m n o p;cases m;cases n;cases o;cases p;split at h
  ·rename_i q;subst q;cases h;obtain⟨hu,hs,_⟩:=CJ hT k;obtain⟨rfl,rfl⟩:=A;obtain⟨rfl,_⟩:=BR (hh:Bb V.w V.O (.int C) d _);obtain⟨rfl,_⟩:=BR (t:Bb V.w V.O (.int D) f _);obtain⟨cs,z,rfl⟩:=(B:Bb V.w V.O (.slice e) xv l);obtain⟨a0,c,rfl,s,y,r⟩:=z;refine⟨rfl,.slice a0 (List.length l) (List.length l),?_,⟨_,⟨a0,_,rfl,Is _,y,r⟩,rfl⟩,a0,rfl⟩;have i:((List.length l:Nat):Int)≤(c:Int):=by omega
   have j:(0:Int)≤((List.length l:Nat):Int):=by omega
   simp[Ty.wrap,Instr.sliceAt,iF hu,Instr.slice,Instr.sliceBounds,Instr.sliceBound,asIntOf,hs V.w,i,j,Addr.add];intro F;exact absurd s (by omega)
  ·cases h
 ·cases h
theorem A3V (hT:EJ P tb id ti) (j:DL P tb) {x:AV} {xv:Value} {lo hi:Option AV} {C B:Option Value}
  (h:FE (some ti) (some x) (some lo) (some hi)=some (vc,v,obs)) (a:vc) (c:B1 V x xv) (g:aM (V:=V) lo C) (f:aM (V:=V) hi B) :
  obs=[]∧∃u,(Instr.sliceAt id xv C B none).run P V.w=.ok u V.w∧B1 V v u:=by
 have i:∀ {o:Option Value} (d:Nat),aM (V:=V) none o→p8 o d d:=fun {o} d h=>by
  cases o with
  | none=>exact .none d
  | some v=>exact h.elim
 have b1:∀ {o:Option Value} {k:IntKind} {z:Int} (d:Nat),aM (V:=V) (some (.p (.int k) z)) o→0≤z→p8 o d z.toNat:=fun {o k z} d h E=>by
  cases o with
  | none=>exact h.elim
  | some v =>
   obtain⟨rfl,_⟩:=BR (h:Bb V.w V.O (.int k) v z);exact .some k z d E
 unfold FE at h;split at h
 ·rename_i e offs el bytes D l a0 h0 q r t y;cases q;cases r;cases t;cases y;split at h
  ·rename_i A;subst A;have c:Bb V.w V.O (.slice e) xv l:=c;unfold HJ at h;split at h<;>first|(cases h;done)|(rename_i m;cases m<;>cases h)
   ·exact⟨rfl,Tl hT j rfl c (i 0 g) (b1 _ f a.1) (NO _) (Jw a.1 a.2)⟩
   ·exact⟨rfl,Tl hT j rfl c (b1 0 g a.1) (i _ f) (Jw a.1 a.2) (Is _)⟩
   ·exact⟨rfl,Tl hT j rfl c (b1 0 g a.1) (b1 _ f (ABj a.1 a.2.1)) (Yr a.2.1) (Jw (ABj a.1 a.2.1) a.2.2)⟩
  ·cases h
 ·rename_i e offs el bytes n D b c0 a0 h0 q r t y;cases q;cases r;cases t;cases y;split at h
  ·rename_i A;subst A;unfold HJ at h;split at h<;>first|(cases h;done)|(rename_i m;cases m<;>cases h)
   ·refine⟨rfl,?_⟩;have:=Tm (P:=P) hT j rfl c (i 0 g) (b1 _ f a.1) (NO _) (Jw a.1 a.2);simpa using this
   ·refine⟨rfl,?_⟩;have:=Tm (P:=P) hT j rfl c (b1 0 g a.1) (i _ f) (Jw a.1 a.2) (Is _);have G:=Jw a.1 a.2;obtain⟨_,_,_,_,_,F,_⟩:=c;grind
   ·exact⟨rfl,Tm hT j rfl c (b1 0 g a.1) (b1 _ f (ABj a.1 a.2.1)) (Yr a.2.1) (Jw (ABj a.1 a.2.1) a.2.2)⟩
  ·cases h
 ·rename_i offs el bytes s a0 h0 q r t y;cases q;cases r;cases t;cases y;have c:Bb V.w V.O .str xv s:=c;unfold HJ at h;split at h<;>first|(cases h;done)|(rename_i m;cases m<;>cases h)
  ·exact⟨rfl,Tn hT rfl c (i 0 g) (b1 _ f a.1) (NO _) (Jw a.1 a.2)⟩
  ·exact⟨rfl,Tn hT rfl c (b1 0 g a.1) (i _ f) (Jw a.1 a.2) (Is _)⟩
  ·exact⟨rfl,Tn hT rfl c (b1 0 g a.1) (b1 _ f (ABj a.1 a.2.1)) (Yr a.2.1) (Jw (ABj a.1 a.2.1) a.2.2)⟩
 ·cases h
end
end
end Go.Proofs.YtdapahgnpbehbaaGreat.Fw
