/- The executor's quiet operations are sound, first part. -/
import Derived.Test.YtcmadlghkcjcbaaGreatGZA
import Derived.Laws.IdiomStrings
set_option linter.unusedVariables false
set_option linter.unusedSimpArgs false
namespace Go.Proofs.YtcmadlghkcjcbaaGreat.Fw
variable {v c:Value} {C B:Option Value} {k:IntKind} {s:ByteArray} {z:Int} {e:Ty} {Z:Type} {a:Option Addr} {Y:List Value} {X:BinOp} {x:AV}
section
open Go Go.RowKit
theorem Pr {w:World} {O:Nat->Prop}:∀ {t:Ty} {k:Nat} {d:t.den} {pv:PV} {cs:List Value},Hh t k d=some pv->B1 w O t cs d ->
  fD t k=some pv.t/\∃o,Lj t k=some o/\o+pv.t.size<=t.size/\B1 w O pv.t ((cs.drop o).take pv.t.size) pv.d
 | .prod a b,0,d,pv,cs,h,c=>by
  simp only[Hh]at h;cases h;obtain⟨c1,c2,rfl,h1,e⟩:=c;refine⟨rfl,0,rfl,by simp[Ty.size],?_⟩;have hl:=h1.length;simp only[iN,<-hl,List.take_left];exact h1
 | .prod a b,k+1,d,pv,cs,h,c=>by
  simp only[Hh]at h;obtain⟨c1,c2,rfl,h1,e⟩:=c;obtain⟨f,o,g,j,i⟩:=Pr h e;refine⟨f,a.size+o,by simp[Lj,g],by simp[Ty.size];omega,?_⟩;have hl:=h1.length;rw[<-hl,<-AC2,ABR];exact i
 | .int _,0,d,pv,cs,h,c=>by
  simp only[Hh]at h;cases h;refine⟨rfl,0,rfl,by simp,?_⟩;have hl:=c.length;simp only[iN,<-hl,RK];exact c
 | .bool,0,d,pv,cs,h,c=>by
  simp only[Hh]at h;cases h;refine⟨rfl,0,rfl,by simp,?_⟩;have hl:=c.length;simp only[iN,<-hl,RK];exact c
 | .str,0,d,pv,cs,h,c=>by
  simp only[Hh]at h;cases h;refine⟨rfl,0,rfl,by simp,?_⟩;have hl:=c.length;simp only[iN,<-hl,RK];exact c
 | .slice _,0,d,pv,cs,h,c=>by
  simp only[Hh]at h;cases h;refine⟨rfl,0,rfl,by simp,?_⟩;have hl:=c.length;simp only[iN,<-hl,RK];exact c
 | .ref _,0,d,pv,cs,h,c=>by
  simp only[Hh]at h;cases h;refine⟨rfl,0,rfl,by simp,?_⟩;have hl:=c.length;simp only[iN,<-hl,RK];exact c
 | .ref _,_+1,d,pv,cs,h,c=>by simp[Hh]at h
 | .agg _,0,d,pv,cs,h,c=>by
  simp only[Hh]at h;cases h;refine⟨rfl,0,rfl,by simp,?_⟩;have hl:=c.length;simp only[iN,<-hl,RK];exact c
 | .int _,_+1,d,pv,cs,h,c=>by simp[Hh]at h
 | .bool,_+1,d,pv,cs,h,c=>by simp[Hh]at h
 | .str,_+1,d,pv,cs,h,c=>by simp[Hh]at h
 | .slice _,_+1,d,pv,cs,h,c=>by simp[Hh]at h
 | .agg _,_+1,d,pv,cs,h,c=>by simp[Hh]at h
theorem sR {α:Type} (cs:List α) (o m a n:Nat) (h:a+n<=m):(((cs.drop o).take m).drop a).take n=(cs.drop (o+a)).take n:=by
 rw[List.drop_take,List.take_take,AC2]
 congr 1
 omega
theorem Vi {w:World} {O:Nat->Prop}:∀ {e:List Nat} {t:Ty} {d:t.den} {pv:PV} {cs:List Value} {off:Nat},VY e t d=some pv->N1 e t=some off->B1 w O t cs d ->
  off+pv.t.size<=t.size/\B1 w O pv.t ((cs.drop off).take pv.t.size) pv.d
 | [],t,d,pv,cs,off,h,a,b=>by
  simp only[VY]at h;simp only[N1]at a;cases h;cases a;have hl:=b.length;simp only[iN,<-hl,RK];exact⟨by simp[hl],b⟩
 | k :: r,t,d,pv,cs,off,h,a,b=>by
  cases t<;>simp only[VY,N1]at h a<;>try(cases h;done)
  rename_i t;split at h
  .rename_i p l;have b:B1 w O t cs d:=b;obtain⟨h1,o,f,m,g⟩:=Pr l b;rw[h1,f]at a;simp only[OS]at a;obtain⟨n,j,rfl⟩:=a;obtain⟨i,c⟩:=Vi h j g;refine⟨by simp only[Ty.size];omega,?_⟩;rw[sR _ _ _ _ _ i]at c;exact c
  cases h
def A1 {α:Type} (cs:List α) (o:Nat) (a:List α):List α:=cs.take o++a++cs.drop (o+a.length)
theorem FI {α:Type} {cs:List α} {o:Nat} {a:List α} (h:o+a.length<=cs.length):(A1 cs o a).length=cs.length:=by
 simp[A1];omega
theorem Dq {α:Type} {cs a:List α} (h:a.length=cs.length):A1 cs 0 a=a:=by
 simp[A1,h]
theorem Ps {α:Type} (a b:List α) (o:Nat) (c:List α):A1 (a++b) (a.length+o) c=a++A1 b o c:=by
 simp only[A1,List.take_append,ACT,RI];have h1:List.take (a.length+o) a=a:=As O1;have d:List.drop (a.length+o+c.length) a=[]:=OR O1;have e:a.length+o-a.length=o:=by omega
 have f:a.length+o+c.length-a.length=o+c.length:=by omega
 rw[h1,d,e,f];simp
theorem TS {α:Type} (a b:List α) (c:List α) (h:c.length=a.length):A1 (a++b) 0 c=c++b:=by
 simp[A1,h]
theorem fL {w:World} {O:Nat->Prop}:∀ {t:Ty} {k:Nat} {d i:t.den} {pv:PV} {cs g:List Value} {o:Nat},Oc t k d pv=some i->Lj t k=some o->B1 w O t cs d->B1 w O pv.t g pv.d ->
  B1 w O t (A1 cs o g) i/\fD t k=some pv.t
 | .prod a b,0,d,i,pv,cs,g,o,h,c,f,e=>by
  simp only[Oc,OS]at h;obtain⟨y,hy,rfl⟩:=h;have:=BA hy;subst this;simp only[Lj]at c;cases c;obtain⟨c1,c2,rfl,h1,j⟩:=f;rw[TS _ _ _ (by rw[e.length,h1.length])];exact⟨⟨g,c2,rfl,e,j⟩,rfl⟩
 | .prod a b,k+1,d,i,pv,cs,g,o,h,c,f,e=>by
  simp only[Oc,OS]at h;obtain⟨y,hy,rfl⟩:=h;simp only[Lj,OS]at c;obtain⟨p,n,rfl⟩:=c;obtain⟨c1,c2,rfl,h1,j⟩:=f;obtain⟨l,m⟩:=fL hy n j e;rw[<-h1.length,Ps];exact⟨⟨c1,_,rfl,h1,l⟩,m⟩
 | .int _,0,d,i,pv,cs,g,o,h,c,f,e=>by
  have:=BA h;subst this;simp only[Lj]at c;cases c;rw[Dq (by rw[e.length,f.length])];exact⟨e,rfl⟩
 | .bool,0,d,i,pv,cs,g,o,h,c,f,e=>by
  have:=BA h;subst this;simp only[Lj]at c;cases c;rw[Dq (by rw[e.length,f.length])];exact⟨e,rfl⟩
 | .str,0,d,i,pv,cs,g,o,h,c,f,e=>by
  have:=BA h;subst this;simp only[Lj]at c;cases c;rw[Dq (by rw[e.length,f.length])];exact⟨e,rfl⟩
 | .slice _,0,d,i,pv,cs,g,o,h,c,f,e=>by
  have:=BA h;subst this;simp only[Lj]at c;cases c;rw[Dq (by rw[e.length,f.length])];exact⟨e,rfl⟩
 | .ref _,0,d,i,pv,cs,g,o,h,c,f,e=>by
  have:=BA h;subst this;simp only[Lj]at c;cases c;rw[Dq (by rw[e.length,f.length])];exact⟨e,rfl⟩
 | .ref _,_+1,d,i,pv,cs,g,o,h,c,f,e=>by simp[Oc]at h
 | .agg _,0,d,i,pv,cs,g,o,h,c,f,e=>by
  have:=BA h;subst this;simp only[Lj]at c;cases c;rw[Dq (by rw[e.length,f.length])];exact⟨e,rfl⟩
 | .int _,_+1,d,i,pv,cs,g,o,h,c,f,e=>by simp[Oc]at h
 | .bool,_+1,d,i,pv,cs,g,o,h,c,f,e=>by simp[Oc]at h
 | .str,_+1,d,i,pv,cs,g,o,h,c,f,e=>by simp[Oc]at h
 | .slice _,_+1,d,i,pv,cs,g,o,h,c,f,e=>by simp[Oc]at h
 | .agg _,_+1,d,i,pv,cs,g,o,h,c,f,e=>by simp[Oc]at h
theorem OD {α:Type} (cs:List α) (o m a:Nat) (b:List α) (h:a+b.length<=m) (g:o+m<=cs.length) :
  A1 cs o (A1 ((cs.drop o).take m) a b)=A1 cs (o+a) b:=by
 apply ABL;intro j;have hl:(A1 ((cs.drop o).take m) a b).length=m:=by rw[FI]<;>simp<;>omega
 simp only[A1]at hl ⊢;rw[hl];simp only[AAE,By,On,aS,TD,AAd];have c:min o cs.length=o:=by omega
 have d:min m (cs.length-o)=m:=by omega
 have e:min a m=a:=by omega
 have f:min (o+a) cs.length=o+a:=by omega
 rw[c,d,e,f];by_cases c1:j<o
 .grind
 grind
theorem Vj {w:World} {O:Nat->Prop}:∀ {l:List Nat} {t:Ty} {d f:t.den} {pv:PV} {cs c:List Value} {off:Nat},YT l t d pv=some f->N1 l t=some off->B1 w O t cs d->B1 w O pv.t c pv.d ->
  B1 w O t (A1 cs off c) f/\off+c.length<=cs.length
 | [],t,d,f,pv,cs,c,off,h,b,a,e=>by
  have:=BA h;subst this;simp only[N1]at b;cases b;rw[Dq (by rw[e.length,a.length])];exact⟨e,by simp[e.length,a.length]⟩
 | k :: r,t,d,f,pv,cs,c,off,h,b,a,e=>by
  cases t<;>simp only[YT,N1]at h b<;>try(cases h;done)
  rename_i t;have a:B1 w O t cs d:=a;split at h
  .rename_i p s;obtain⟨h1,o,g,u,m⟩:=Pr s a;rw[h1,g]at b;simp only[OS]at b;obtain⟨x,q,rfl⟩:=b;split at h
   .rename_i y hy;obtain⟨n,i⟩:=Vj hy q m e;have v:=a.length;have hl:((cs.drop o).take p.t.size).length=p.t.size:=by simp;omega
    rw[hl]at i;obtain⟨j,_⟩:=fL (pv:=⟨p.t,y⟩) h g a n;rw[OD _ _ _ _ _ i O1]at j;exact⟨j,by omega⟩
   cases h
  cases h
end
section
open Go Go.RowKit
section
variable {V:Vw}
theorem N3.length {cs:List Value} (h:N3 V x cs):cs.length=x.cells:=by
 cases x;case p t d=>exact B1.length (show B1 V.w V.O t cs d from h)
 case ag l=>obtain⟨v,_,_,hf⟩:=h;exact hf.elim
 case tup l=>obtain⟨v,_,_,hf⟩:=h;exact hf.elim
 all_goals(obtain⟨v,rfl,_⟩:=h;rfl)
theorem N3.one {cs:List Value} (h:N3 V x cs):∀u∈cs,u.oneCell'=true:=by
 cases x;case p t d=>exact B1.one (show B1 V.w V.O t cs d from h)
 all_goals(obtain⟨v,rfl,h1,_⟩:=h;intro u hu;simp at hu;subst hu;exact h1)
theorem Da.one:∀ {l:List AV} {cs:List Value},Da V l cs->∀u∈cs,u.oneCell'=true
 | [],cs,h=>by have h:cs=[]:=h;subst h;simp
 | x :: r,cs,h=>by
  obtain⟨c1,c2,rfl,h1,a⟩:=h;intro u hu;rcases Fg.1 hu with hu|hu
  .exact h1.one u hu
  exact a.one u hu
theorem Da.length:∀ {l:List AV} {cs:List Value},Da V l cs->cs.length=CS l l.length
 | [],cs,h=>by have h:cs=[]:=h;subst h;rfl
 | x :: r,cs,h=>by
  obtain⟨c1,c2,rfl,h1,a⟩:=h;simp only[By,NO,CS];rw[h1.length,a.length]
theorem Da.get:∀ {l:List AV} {cs:List Value} {k:Nat} {x:AV},Da V l cs->l[k]?=some x ->
  CS l k+x.cells<=cs.length/\N3 V x ((cs.drop (CS l k)).take x.cells)
 | [],cs,k,x,h,hk=>by simp at hk
 | y :: r,cs,0,x,h,hk=>by
  obtain⟨c1,c2,rfl,h1,a⟩:=h;simp at hk;subst hk;have:=h1.length;grind [CS]
 | y :: r,cs,k+1,x,h,hk=>by
  obtain⟨c1,c2,rfl,h1,a⟩:=h;have hk:r[k]?=some x:=by simpa using hk
  obtain⟨c,b⟩:=Da.get a hk;have:=h1.length;refine⟨by simp only[CS,By];omega,?_⟩;simp only[CS,<-this];rw[<-AC2,ABR];exact b
theorem Da.set:∀ {l:List AV} {cs:List Value} {k:Nat} {x y:AV} {a:List Value},Da V l cs->l[k]?=some x->N3 V y a->y.cells=x.cells ->
  Da V (l.set k y) (A1 cs (CS l k) a)
 | [],cs,k,x,y,a,h,hk,hy,b=>by simp at hk
 | z :: r,cs,0,x,y,a,h,hk,hy,b=>by
  obtain⟨c1,c2,rfl,h1,c⟩:=h;simp at hk;subst hk;simp only[CS,ABa];rw[TS _ _ _ (by rw[hy.length,h1.length,b])];exact⟨a,c2,rfl,hy,c⟩
 | z :: r,cs,k+1,x,y,a,h,hk,hy,b=>by
  obtain⟨c1,c2,rfl,h1,c⟩:=h;have hk:r[k]?=some x:=by simpa using hk
  have:=h1.length;simp only[CS,ACw,<-this];rw[Ps];exact⟨c1,_,rfl,h1,Da.set c hk hy b⟩
theorem nA {ty:Ty} {a:List Value} (hx:N3 V x a) (hf:Cj ty x=true):a.length=ty.size/\B7 V x (ty.wrap a):=by
 cases x;case p t d =>
  simp only[Cj,ON]at hf;subst hf;have hx:B1 V.w V.O ty a d:=hx;exact⟨B1.length hx,a,hx,rfl⟩
 case ag l=>obtain⟨v,_,_,hf⟩:=hx;exact hf.elim
 case tup l=>obtain⟨v,_,_,hf⟩:=hx;exact hf.elim
 all_goals
  obtain⟨v,rfl,_,h1⟩:=hx;have b:ty.cell1=true:=by simp only[Cj]at hf;first|exact hf|(simp only[An]at hf;exact hf.2)|exact absurd hf dc
  cases ty<;>first|(cases b;done)|exact⟨rfl,h1⟩
theorem A0F {ty:Ty} (hx:B7 V x v) (hf:Cj ty x=true) (m:ty.cell1=true->v.oneCell'=true):v.cells.size=ty.size/\((∀l,x≠.ag l)->N3 V x v.cells.toList):=by
 cases x;case p t d =>
  simp only[Cj,ON]at hf;subst hf;obtain⟨cs,f,rfl⟩:=hx;have hl:=f.length;cases ty;case agg t=>exact⟨by simpa[Ty.wrap,Value.cells] using hl,λ_=>by simpa[Ty.wrap,Value.cells,N3] using f⟩
  case prod a b=>exact⟨by simpa[Ty.wrap,Value.cells] using hl,λ_=>by simpa[Ty.wrap,Value.cells,N3] using f⟩
  case slice e =>
   obtain⟨a,c,rfl,h⟩:=f;exact⟨rfl,λ_=>⟨a,c,rfl,h⟩⟩
  case int k =>
   obtain⟨rfl,h⟩:=f;exact⟨rfl,λ_=>⟨rfl,h⟩⟩
  case bool =>
   have f:cs=_:=f;subst f;exact⟨rfl,λ_=>rfl⟩
  case str =>
   obtain⟨rfl,h⟩:=f;exact⟨rfl,λ_=>⟨rfl,h⟩⟩
  case ref k =>
   have f:cs=[Ln k]:=f;subst f;have n:(Ty.ref k).wrap [Ln k]=Ln k:=rfl;rw[n];match k with
   | 0=>exact⟨rfl,λ_=>rfl⟩
   | 1=>exact⟨rfl,λ_=>rfl⟩
   | _+2=>exact⟨rfl,λ_=>rfl⟩
 case ag l =>
  obtain⟨cs,rfl,j⟩:=hx;have hl:=j.length;cases ty<;>simp only[Cj]at hf<;>try(cases hf;done)
  rename_i t;simp only[TE]at hf;exact⟨by simp[Value.cells,Ty.size,hl,hf],λh=>absurd rfl (h l)⟩
 case tup l=>simp[Cj]at hf
 all_goals
  have h1:ty.cell1=true:=by simp only[Cj]at hf;first|exact hf|(simp only[An]at hf;exact hf.2)|exact absurd hf dc
  have g:v.oneCell'=true:=m h1;have i:v.cells=#[v]:=by cases v<;>first|rfl|simp[Value.oneCell']at g
  have hs:ty.size=1:=by cases ty<;>simp[Ty.cell1]at h1<;>rfl
  rw[i];exact⟨by simp[hs],λ_=>⟨v,rfl,g,hx⟩⟩
end
end
section
open Go Go.RowKit
section
variable {P:Program} {tb:Tb} {id:TypeId} {ti:TI} {w:World} {O0:Nat->Prop} {σ:St} {ρ:Nat->Value} {vc:Prop} {v:AV} {obs:List (Nat×Obj)}
theorem Yo {w:World} {base:Nat} {et:TypeId} {size:Nat} {g m c n:Nat} {cells:List Value} (h:w.ownsRow base et size (.slice (some ⟨g,0,none⟩) m c) n cells) :
  m=n/\∀(j:Nat) (u:Value),cells[j]?=some u->w.cell? ⟨g,j,none⟩=some u:=by
 constructor
 .rcases h.2 with ⟨a,_⟩|⟨e,cap,d,a,_⟩
  .injection a with h1;cases h1
  injection a
 intro j u b;have:=h.cells (g:=g) rfl j u b
 rwa [fC]at this
theorem A0G (hT:EO P tb id ti) (R:∀n o,lk n σ.objs=some o->A6 (vw w O0 σ ρ) o (ρ n)) {x:AV} {xv:Value}
  (h:LP σ (some ti) (some x)=some (vc,v,obs)) (hx:B7 (vw w O0 σ ρ) x xv):obs=[]/\∃u,(Instr.loadAt id xv).run P w=.ok u w/\B7 (vw w O0 σ ρ) v u:=by
 unfold LP at h;split at h
 .rename_i n V off K M;cases K;cases M;obtain⟨X,b,q,rfl⟩:=hx;cases hn:lk n σ.objs with
  | none=>rw[hn]at h;simp[E8]at h
  | some o =>
   rw[hn]at h;cases o with
   | arr et e xs=>simp[E8]at h
   | mapo k v l=>simp[E8]at h
   | frame bd fs=>simp[E8]at h
   | loop L=>simp[E8]at h
   | itr ay bb az ba aw=>simp[E8]at h
   | dfr=>simp[E8]at h
   | nest et ax k e xs hl=>simp[E8]at h
   | box et st fs =>
    simp only[E8]at h;cases hl:LO st fs V with
    | none=>rw[hl]at h;simp[KZ]at h
    | some y =>
     rw[hl]at h;simp only[KZ]at h;split at h
     .rename_i F;obtain⟨z,A⟩:=F;cases h;obtain⟨bj,be,cs,p,ak,J⟩:=R n _ hn;have q:ρ n=_:=q;rw[q]at p;injection p with p
      injection p with p
      injection p with p
      subst p;have B:∀(G:List Value) (o:Nat),G=(cs.drop o).take G.length->∀(j:Nat) (u:Value),G[j]?=some u->w.cell? ((⟨b,o,none⟩:Addr).add j)=some u:=by
       intro G o Z j u a;rw[Js,cell_of_row w b (o+j) cs.toArray et (0,0) ak];rw[Z,TD,AAd]at a;split at a
       .simpa using a
       cases a
      refine⟨rfl,?_⟩;unfold LO at hl;split at hl
      . -- the whole
       simp only[Rj]at A;cases A;cases st with
       | true =>
        simp only[AAF]at hl;cases hl;have bh:=J.length;cases hty:ti.ty<;>rw[hty]at z<;>simp only[Cj]at z<;>try(cases z;done)
        rename_i t;simp only[TE]at z;have ar:cs.length=ti.ty.size:=by rw[hty];simp only[Ty.size];omega
        have:=Ei w hT ar (B cs 0 sc);refine⟨_,this,cs,?_,J⟩;rw[hty];rfl
       | false =>
        simp only[oF,AAV]at hl;have av:CS fs 0=0:=by cases fs<;>rfl
        obtain⟨h1,f⟩:=J.get hl;rw[av]at f;obtain⟨D,H⟩:=nA f z;have:=Ei w hT D (B _ 0 (by rw[f.length]));exact⟨_,this,H⟩
      . -- a field
       rename_i k;cases st with
       | false=>simp at hl
       | true =>
        simp only[AAF]at hl;obtain⟨h1,f⟩:=J.get hl;obtain⟨D,H⟩:=nA f z;have ap:off=CS fs k:=by
         simp only[Rj,hl]at A;cases v<;>simp only[N1,ABj,List.isEmpty_nil,AAF]at A<;>cases A<;>rfl
        subst ap;have:=Ei w hT D (B _ (CS fs k) (by rw[f.length]));exact⟨_,this,H⟩
      rename_i k r T;cases st with
      | false=>simp at hl
      | true =>
       simp only[AAF]at hl;split at hl
       .rename_i t d hk;simp only[OS]at hl;obtain⟨pv,aq,rfl⟩:=hl;simp only[Rj,hk,OS]at A;obtain⟨bc,ao,rfl⟩:=A;obtain⟨h1,f⟩:=J.get hk;have f:B1 w (own O0 σ ρ) t _ d:=f;obtain⟨W,E⟩:=Vi aq ao f;simp only[AV.cells]at h1 E;rw[sR _ _ _ _ _ W]at E;simp only[Cj,ON]at z;have N:=E.length;have:=Ei w hT (by rw[z];exact N) (B _ (CS fs k+bc) (by rw[N]));rw[z]at this;exact⟨_,this,_,E,rfl⟩
       cases hl
     cases h
 .rename_i n e i V off K M;cases K;cases M;obtain⟨X,g,m,c,q,am,rfl⟩:=hx;cases hn:lk n σ.objs with
  | none=>rw[hn]at h;simp[E9]at h
  | some o =>
   rw[hn]at h;cases o with
   | box et st fs=>simp[E9]at h
   | mapo k v l=>simp[E9]at h
   | frame bd fs=>simp[E9]at h
   | loop L=>simp[E9]at h
   | itr ay bb az ba aw=>simp[E9]at h
   | dfr=>simp[E9]at h
   | nest et ax k s xs hl =>
    cases hl with
    | some j=>simp[E9]at h
    | none =>
     simp only[E9]at h;split at h
     .rename_i ah;subst ah;obtain⟨o,ins,cells,p,Q⟩:=R n _ hn;have q:plc (ρ n)=_:=q;have an:plc (ρ n)=o:=p.plc;have C:=Q.own;rw[<-an,q]at C;obtain⟨rfl,B⟩:=Yo C;have U:xs[i]?=some (xs.getD i (k.dflt,[])):=by grind
      have O:i<ins.length:=by rw[Q.len];exact am
      obtain⟨c1,v1,Y,ab,D⟩:=Q.row i _ ins[i] U (AT O);rcases D with ⟨D,_⟩|⟨_,ae,H⟩
      .cases D
      have aa:c1.length=k.size:=ab.length;unfold Rk at h;split at h
      .split at h
       .rename_i I;obtain⟨hty,rfl⟩:=I;cases h;have:=Ei (ad:=⟨g,i*(Ty.agg (.prod k (.slice s))).size+0,none⟩) w hT (by rw[hty];exact aa) (λj u a=>by
         rw[Js];refine B _ _ (Y j u ?_);rw[RU (RL.1 a).1];exact a)
        rw[hty]at this;exact⟨rfl,_,this,c1,ab,rfl⟩
       cases h
      .split at h
       .rename_i I;obtain⟨hty,rfl⟩:=I;cases h;have:=Ei (ad:=⟨g,i*(Ty.agg (.prod k (.slice s))).size+k.size,none⟩) (cs:=[v1]) w hT (by rw[hty];rfl) (λj u a=>by
         have al:j=0:=by have:=(RL.1 a).1;simpa using this
         subst al;rw[Js];refine B _ _ (Y k.size u ?_);rw[RS O1,aa,AAD];exact a)
        rw[hty]at this;obtain⟨af,ag,au⟩:=A0z ae H;exact⟨rfl,_,this,X,_,af,ag,ins[i],p.resolve_right (λh=>by rw[h.2.2]at O;simp at O),by simp[O],ae,au⟩
       cases h
      cases h
     cases h
   | arr et s xs =>
    simp only[E9]at h;cases F:BR (.slice e) ⟨.slice s,xs⟩ with
    | none=>rw[F]at h;simp[Kb]at h
    | some ys =>
     obtain⟨rfl,f⟩:=Bk F;cases f;rw[F]at h;simp only[Kb]at h;cases S:VY V s (xs.getD i s.dflt) with
     | none=>rw[S]at h;simp[Ka]at h
     | some pv =>
      rw[S]at h;simp only[Ka]at h;split at h
      .rename_i I;obtain⟨hty,A⟩:=I;cases h;obtain⟨bi,cells,C,ai⟩:=R n _ hn;have q:plc (ρ n)=_:=q;have C:w.ownsRow 0 et s.size (ρ n) xs.length cells:=C;rw[Hk C]at q;rw[q]at C;obtain⟨rfl,B⟩:=Yo C;have U:xs[i]?=some (xs.getD i s.dflt):=by grind
       obtain⟨G,Z,bg,aj⟩:=ai i _ U;obtain⟨W,E⟩:=Vi S A aj;have N:=E.length;have:=Ei (ad:=⟨g,i*s.size+off,none⟩) w hT (by rw[hty];exact N) (λj u a=>by
        rw[Js,ACK];rw[TD,AAd]at a;split at a
        .grind
        cases a)
       rw[hty]at this;exact⟨rfl,_,this,_,E,rfl⟩
      cases h
 .rename_i u d K M;cases K;cases M;obtain⟨ad,cs,rfl,bf,F,T⟩:=hx;split at h
  .rename_i hty;cases h;have:=Ei w hT (by rw[hty];exact T.length) F;rw[hty]at this;exact⟨rfl,_,this,cs,T,rfl⟩
  cases h
 cases h
end
end
section
open Go Go.RowKit
section
variable {P:Program} {tb:Tb} {id:TypeId} {ti:TI} {w:World} {V:Vw} {vc:Prop} {v:AV} {obs:List (Nat×Obj)}
theorem nB {α:Type} {l:List α} {k:Nat} {x:α} (h:l[k]?=some x):x∈l:=AAm h
theorem fO (hT:EO P tb id ti) {u:Ty} (ht:ti.ty=.agg u) (g:ti.el=0) {f k s:Nat} (hf:ti.offs[f]?=some (k,s)) (ad:Addr) (w:World) :
  (Instr.fieldAt id (.pointer (some ad)) f).run P w=.ok (.pointer (some (ad.add k))) w:=by
 obtain⟨⟨⟨o,_⟩,_⟩,a⟩:=hT;rw[ht]at a;simp only at a;rcases a with ⟨fs,_,hu,p⟩|⟨n,e,i,m,_⟩
 .have b:(ti.offs.map some)[f]?=some (some (k,s)):=by simp[hf]
  rw[p]at b;simp only[Rb,OS]at b;obtain⟨c,j,h⟩:=b;obtain⟨i,hi,d⟩:=h;cases d;have l:fs[f]?=some c:=by simpa using j
  have hs:i.size≠0:=o _ (nB hf);simp[Instr.fieldAt,RR hu,l,Instr.sureAddr,fieldPlace,sizeOf,L4 w hi,hs]
 exact absurd g m
theorem fP (hT:EO P tb id ti) {u:Ty} (ht:ti.ty=.agg u) (c:ti.el≠0) {k s:Nat} {kd:IntKind} (h:0<=z) (hf:ti.offs[z.toNat]?=some (k,s)) (ad:Addr) (w:World) :
  (Instr.indexAt id (.pointer (some ad)) (.int kd z)).run P w=.ok (.pointer (some (ad.add k))) w:=by
 obtain⟨_,a⟩:=hT;rw[ht]at a;simp only at a;rcases a with ⟨fs,h0,_⟩|⟨n,e,i,_,hu,hi,g⟩
 .exact absurd h0 c
 rw[g]at hf;simp only[Rb,OS]at hf;obtain⟨j,d,b⟩:=hf;cases b;obtain⟨h1,a⟩:=RL.1 d;simp only[ABt]at h1;simp only[ABE]at a;subst a;have f:z<(n:Int):=by omega
 simp[Instr.indexAt,asIntOf,RR hu,Instr.sureAddr,sizeOf,L4 w hi,h,f]
theorem A0H {f:Nat} {o:Option (Nat×Nat)} {x:AV} {xv:Value} {run:Value->Result Value} (y:∀k s ad,o=some (k,s)->run (.pointer (some ad))=.ok (.pointer (some (ad.add k))) w)
  (h:TG f o x=some (vc,v,obs)) (hx:B7 V x xv):obs=[]/\∃u,run xv=.ok u w/\B7 V v u:=by
 unfold TG at h;split at h
 .rename_i n F off;obtain⟨q,b,z,rfl⟩:=hx;cases o with
  | none=>simp[YU]at h
  | some p =>
   obtain⟨k,s⟩:=p;simp only[YU]at h;cases h;exact⟨rfl,_,y k s _ rfl,q,b,z,by rw[Js]⟩
 .rename_i n e i F off;obtain⟨q,g,m,c,z,E,rfl⟩:=hx;cases o with
  | none=>simp[YU]at h
  | some p =>
   obtain⟨k,s⟩:=p;simp only[YU]at h;cases h;exact⟨rfl,_,y k s _ rfl,q,g,m,c,z,E,by rw[Js,ACK]⟩
 .rename_i u d;obtain⟨ad,cs,rfl,C,D,t⟩:=hx;cases r:Hh u f d with
  | none=>rw[r]at h;simp[Kd]at h
  | some pv =>
   rw[r]at h;simp only[Kd]at h;split at h
   .rename_i l;cases h;have t:B1 V.w V.O u cs d:=t;obtain⟨h1,H,A,G,B⟩:=Pr r t;rw[A]at l;cases o with
    | none=>simp at l
    | some p =>
     obtain⟨k,s⟩:=p;simp only[ABj,AAJ]at l;subst l;refine⟨rfl,_,y k s _ rfl,ad.add k,_,rfl,by rw[CP];exact C,λj u a=>?_,B⟩;rw[DK];rw[TD,AAd]at a;split at a
     .exact D _ _ a
     cases a
   cases h
 cases h
theorem A4T (hT:EO P tb id ti) {f:Nat} {x:AV} {xv:Value} (w:World)
  (h:H8 f (some ti) (some x)=some (vc,v,obs)) (hx:B7 V x xv):obs=[]/\∃u,(Instr.fieldAt id xv f).run P w=.ok u w/\B7 V v u:=by
 unfold H8 at h;split at h
 .rename_i u offs b e a c;cases a;cases c;exact A0H (run:=λxv=>(Instr.fieldAt id xv f).run P w) (λk s ad d=>fO hT rfl rfl d ad w) h hx
 cases h
theorem TT {e:TypeId} (hu:P.underlying id=some (.slice e)) {size:Nat} (hs:(sizeOf e).run P w=.ok size w) (a:Addr) (n c:Nat) (k:IntKind) (i:Int) (h0:0<=i) (h1:i<n) :
  (Instr.indexAt id (.slice (some a) n c) (.int k i)).run P w=.ok (.pointer (some (a.add (i.toNat*size)))) w:=by
 simp[Instr.indexAt,asIntOf,RR hu,h0,h1,hs]
theorem AAr {el:TypeId} (hu:P.underlying id=some (.slice el)) (hs:(sizeOf el).run P V.w=.ok e.size V.w) {l:List e.den} {kd:IntKind} {k:Int} {xv:Value}
  (hx:BU V.w V.O (.slice e) xv l) (n:0<=k) (o:k<(l.length:Int)) :
  ∃u,(Instr.indexAt id xv (.int kd k)).run P V.w=.ok u V.w/\B7 V (.ip e (l.getD k.toNat e.dflt)) u:=by
 obtain⟨cs,h,rfl⟩:=hx;obtain⟨a,c,rfl,h1,s,b⟩:=h;have p:k.toNat<l.length:=by omega
 rcases b with b|⟨ad,rfl,f,i⟩
 .subst b;simp at p
 refine⟨_,TT hu hs _ _ _ _ _ n o,?_⟩;have r:l[k.toNat]?=some (l.getD k.toNat e.dflt):=by grind
 obtain⟨d,t,g,q⟩:=i _ _ r;exact⟨_,d,rfl,by rw[CP];exact f,λj u m=>by rw[DK];exact g j u m,q⟩
theorem AAs {el:TypeId} (hu:P.underlying id=some (.slice el)) (hs:(sizeOf el).run P V.w=.ok e.size V.w) {n lo hi:Nat} {kd:IntKind} {k:Int} {xv:Value}
  (hx:B7 V (.sr n e lo hi) xv) (h:∀n,V.L n->∃o,A6 V o (V.ρ n)) (j:0<=k) (l:k<((hi-lo:Nat):Int)) :
  ∃u,(Instr.indexAt id xv (.int kd k)).run P V.w=.ok u V.w/\B7 V (.ep n e (lo+k.toNat) [] 0) u:=by
 obtain⟨b,a,m,c,f,z,y,s,t,rfl,x,h0,h1⟩:=hx;have p:lo<hi:=by omega
 have i:=h1 p;obtain⟨o,q⟩:=h n b;obtain⟨g,rfl⟩:∃g,a=some ⟨g,0,none⟩:=by
  obtain⟨_,_,cells,r,_⟩:=Yn q f;rcases r.2 with ⟨d,hn⟩|⟨g,cap,v,d,_⟩
  .injection d;omega
  grind
 subst i;refine⟨_,TT hu hs _ _ _ _ _ j l,b,g,m,c,f,by omega,?_⟩;rw[DK,fC,ACd];rfl
theorem BI {O:Nat->Prop} {w:World} {kd:IntKind} {k:Int} {v:Value} (h:BU w O (.int kd) v k):v=.int kd k/\KS kd k:=by
 obtain⟨cs,⟨rfl,h1⟩,rfl⟩:=h;exact⟨rfl,h1⟩
theorem BN {O:Nat->Prop} {w:World} {kd:IntKind} {k:Int} (h:KS kd k):BU w O (.int kd) (.int kd k) k:=⟨_,⟨rfl,h⟩,rfl⟩
theorem EH {O:Nat->Prop} {w:World} {b:Bool} {v:Value} (h:BU w O .bool v b):v=.bool b:=by
 obtain⟨cs,h1,rfl⟩:=h;have h1:cs=_:=h1;subst h1;rfl
theorem Bq {O:Nat->Prop} {w:World} (b:Bool):BU w O .bool (.bool b) b:=⟨[.bool b],rfl,rfl⟩
theorem G8 {O:Nat->Prop} {w:World} {v:Value} (h:BU w O .str v s):v=.string s/\s.size<=AQ:=by
 obtain⟨cs,⟨rfl,h1⟩,rfl⟩:=h;exact⟨rfl,h1⟩
theorem Vk {O:Nat->Prop} {w:World} (h:s.size<=AQ):BU w O .str (.string s) s:=⟨_,⟨rfl,h⟩,rfl⟩
theorem CZ {offs:List (Nat×Nat)} {el:TypeId} {bytes:Nat} (hT:EO P tb id ⟨.slice e,offs,el,bytes⟩) (b:DC P tb) :
  P.underlying id=some (.slice el)/\(∀w,(sizeOf el).run P w=.ok e.size w)/\∃te,lk el tb.ty=some te/\te.ty=e:=by
 obtain⟨_,hu,te,a,rfl⟩:=hT;exact⟨hu,λw=>IB w (b _ _ a),te,a,rfl⟩
theorem A4U (hT:EO P tb id ti) (i:DC P tb) {x y:AV} {xv j:Value}
  (h:Gj (some ti) (some x) (some y)=some (vc,v,obs)) (f:vc) (hx:B7 V x xv) (hy:B7 V y j) (p:∀n,V.L n->∃o,A6 V o (V.ρ n)) :
  obs=[]/\∃u,(Instr.indexAt id xv j).run P V.w=.ok u V.w/\B7 V v u:=by
 unfold Gj at h;split at h
 .rename_i e offs el bytes m l kd k a c d;cases a;cases c;cases d;split at h
  .rename_i g;subst g;cases h;obtain⟨hu,hs,_⟩:=CZ hT i;obtain⟨rfl,_⟩:=BI hy;exact⟨rfl,AAr hu (hs _) hx f.1 f.2⟩
  cases h
 .rename_i e offs el bytes n m lo hi kd k a c d;cases a;cases c;cases d;split at h
  .rename_i g;subst g;cases h;obtain⟨hu,hs,_⟩:=CZ hT i;obtain⟨rfl,_⟩:=BI hy;exact⟨rfl,AAs hu (hs _) hx p f.1 f.2⟩
  cases h
 .rename_i u offs el b t z a c d;cases a;cases c;cases d;unfold ND at h;split at h
  .rename_i kd k;split at h
   .rename_i hk;obtain⟨rfl,_⟩:=BI hy;exact A0H (run:=λxv=>(Instr.indexAt id xv (.int kd k)).run P V.w) (λr s ad q=>fP hT rfl sc hk q ad V.w) h hx
   cases h
  cases h
 cases h
theorem Kj {n:Int} (h:KS k n):k.wrap n=n:=by
 obtain⟨h1,a⟩:=h;cases k<;>simp[IntKind.min,IntKind.max,IntKind.signed,IntKind.bits]at h1 a<;>simp[IntKind.wrap,IntKind.signed,IntKind.bits]<;>omega
theorem NG (k:IntKind) (n:Int):KS k (k.wrap n):=by
 cases k<;>simp only[KS,IntKind.min,IntKind.max,IntKind.wrap,IntKind.signed,IntKind.bits]<;>simp<;>omega
theorem A7A {op:BinOp} {t:TypeId} {d:IntKind} {a b:Int} (w:World) (c:(bin op k a d b).1) (ha:KS k a) :
  ∃u,(binOp op t (.int k a) (.int d b)).run P w=.ok u w/\B7 V (bin op k a d b).2 u:=by
 unfold bin at c ⊢;split at c
 .have hb:¬b<0:=by have h:0<=b:=c;omega
  exact⟨_,by simp[binOp,Op.shift,hb];rfl,BN (NG _ _)⟩
 .have hb:¬b<0:=by have h:0<=b:=c.1;omega
  exact⟨_,by simp[binOp,Op.shift,hb];rfl,BN c.2⟩
 split at c
 .rename_i e f hk;subst hk;cases op<;>simp only[wY]at c ⊢;case add=>exact⟨.int k (a+b),by simp[binOp,Op.intArith,Kj c],BN c⟩
  case sub=>exact⟨.int k (a-b),by simp[binOp,Op.intArith,Kj c],BN c⟩
  case mul=>exact⟨.int k (a*b),by simp[binOp,Op.intArith,Kj c],BN c⟩
  case quo=>exact⟨.int k (a.tdiv b),by simp[binOp,Op.intDiv,c.1,Kj c.2],BN c.2⟩
  case rem=>exact⟨.int k (a.tmod b),by simp[binOp,Op.intDiv,c.1],BN c.2⟩
  case and=>exact⟨.int k (Co .and k a b),by simp only[binOp,ne_eq,ACa,AAV,Op.intBits];rfl,BN (NG _ _)⟩
  case or=>exact⟨.int k (Co .or k a b),by simp only[binOp,ne_eq,ACa,AAV,Op.intBits];rfl,BN (NG _ _)⟩
  case xor=>exact⟨.int k (Co .xor k a b),by simp only[binOp,ne_eq,ACa,AAV,Op.intBits];rfl,BN (NG _ _)⟩
  case andNot=>exact⟨.int k (Co .andNot k a b),by simp only[binOp,ne_eq,ACa,AAV,Op.intBits];rfl,BN (NG _ _)⟩
  case eql=>exact⟨.bool (a==b),by simp[binOp,Op.intCmp],Bq _⟩
  case neq=>exact⟨.bool (a != b),by simp[binOp,Op.intCmp],Bq _⟩
  case lss=>exact⟨.bool (decide (a<b)),by simp[binOp,Op.intCmp],Bq _⟩
  case leq=>exact⟨.bool (decide (a<=b)),by simp[binOp,Op.intCmp],Bq _⟩
  case gtr=>exact⟨.bool (decide (b<a)),by simp[binOp,Op.intCmp],Bq _⟩
  case geq=>exact⟨.bool (decide (b<=a)),by simp[binOp,Op.intCmp],Bq _⟩
 exact c.elim
theorem A4V {op:BinOp} {t:TypeId} {a b:ByteArray} (w:World) (c:(aW a b op).1) :
  ∃u,(binOp op t (.string a) (.string b)).run P w=.ok u w/\B7 V (aW a b op).2 u:=by
 cases op<;>simp only[aW]at c ⊢;case add =>
  have hm:AQ=140737488355328:=rfl;have hh:¬(((a.size+b.size:Nat):Int) > IntKind.i64.max):=by
   have:IntKind.i64.max=9223372036854775807:=by decide
   omega
  exact⟨.string (a++b),by simp only[binOp,Op.stringOp,At hh];rfl,Vk (by simpa[ABF] using c)⟩
 case eql=>exact⟨.bool (Ae a b),by simp only[binOp,Op.stringOp];rfl,Bq _⟩
 case neq=>exact⟨.bool (!Ae a b),by simp only[binOp,Op.stringOp];rfl,Bq _⟩
 case lss=>exact⟨.bool (Cn a b),by simp only[binOp,Op.stringOp];rfl,Bq _⟩
 case leq=>exact⟨.bool (Cn a b||Ae a b),by simp only[binOp,Op.stringOp];rfl,Bq _⟩
 case gtr=>exact⟨.bool (!(Cn a b||Ae a b)),by simp only[binOp,Op.stringOp];rfl,Bq _⟩
 case geq=>exact⟨.bool (!Cn a b),by simp only[binOp,Op.stringOp];rfl,Bq _⟩
 all_goals exact c.elim
theorem A9j {op:BinOp} {t:TypeId} {ti:Option TI} (j:Vb ti=true->P.underlying t=some .bool) {x y:AV} {xv g:Value} (w:World)
  (h:UW op ti (some x) (some y)=some (vc,v,obs)) (i:vc) (hx:B7 V x xv) (hy:B7 V y g) :
  obs=[]/\(∀e f,(eqGuard op t e f xv g).run P w=.ok () w)/\∃u,(binOp op t xv g).run P w=.ok u w/\B7 V v u:=by
 unfold UW at h;split at h
 .rename_i k a l b c d;cases c;cases d;cases h;obtain⟨rfl,ha⟩:=BI hx;obtain⟨rfl,_⟩:=BI hy;refine⟨rfl,λe f=>?_,A7A w i ha⟩;cases op<;>simp[eqGuard]
 .rename_i a b c d;cases c;cases d;cases h;obtain⟨rfl,ha⟩:=G8 hx;obtain⟨rfl,_⟩:=G8 hy;refine⟨rfl,λe f=>?_,A4V w i⟩;cases op<;>simp[eqGuard]
 .rename_i a b c d;cases c;cases d;have ha:=EH hx;have hb:=EH hy;subst ha hb;split at h
  .rename_i hb;have hu:=j hb;cases op<;>simp only[w6]at h<;>cases h
   .exact⟨rfl,λe f=>by simp[eqGuard],.bool (a==b),by simp[binOp,run_equal_bool w t a b hu],Bq _⟩
   exact⟨rfl,λe f=>by simp[eqGuard],.bool (a != b),by simp[binOp,run_equal_bool w t a b hu,bne],Bq _⟩
  cases h
 cases h
theorem AAt {op:UnOp} {x:AV} {xv:Value} (w:World) (h:qUn op (some x)=some (vc,v,obs)) (c:vc) (hx:B7 V x xv) :
  obs=[]/\∃u,(Op.unary op xv).run P w=.ok u w/\B7 V v u:=by
 unfold qUn at h;split at h
 .rename_i b d;cases d;cases h;have:=EH hx;subst this;exact⟨rfl,.bool (!b),by simp[Op.unary],Bq _⟩
 .rename_i k a d;cases d;cases h;obtain⟨rfl,ha⟩:=BI hx;have c:KS k (0-a):=c;exact⟨rfl,_,by simp only[Op.unary,Op.intArith,Kj c];rfl,BN c⟩
 cases h
end
end
section
open Go Go.RowKit
section
variable {P:Program} {tb:Tb} {id:TypeId} {ti:TI} {w:World} {V:Vw} {vc:Prop} {v:AV} {obs:List (Nat×Obj)}
theorem nC (l:List Int):(TH l).size=l.length:=by
 show (TH l).data.size=l.length;unfold TH;simp
theorem A7B (D:DC P tb) (E:V.w=w) {s t:TypeId} {y ti:TI} (hs:EO P tb s y) (ht:EO P tb t ti) {x:AV} {xv:Value} (h:LQ (some y) (some ti) (some x)=some (vc,v,obs)) (i:vc) (hx:B7 V x xv) :
  obs=[]/\∃u,(convert s t xv).run P w=.ok u w/\B7 V v u:=by
 unfold LQ at h;split at h
 .rename_i O Q m b1 k R A b2 X a n o p;cases n;cases o;cases p;cases h;obtain⟨rfl,ha⟩:=BI hx;have i:KS k a:=i;have f:P.underlying s=some (.int O):=hs.2;have g:P.underlying t=some (.int k):=ht.2;refine⟨rfl,.int k a,?_,BN i⟩;simp[convert,RR f,RR g,Conv.intToInt,Kj i]
 .rename_i Q m b1 R A b2 l n o p;cases n;cases o;cases p;cases h;obtain⟨f,te,L,hty⟩:=hs.2;have g:P.underlying t=some .string:=ht.2;have r:P.underlying m=some (.int .u8):=by
   have:=(D _ _ L).2;rw[hty]at this;exact this
  obtain⟨cs,⟨a,c,rfl,h1,B,d⟩,rfl⟩:=hx;have K:(TH l).size<=AQ:=by rw[nC];exact B
  refine⟨rfl,.string (TH l),?_,⟨[.string (TH l)],⟨rfl,K⟩,rfl⟩⟩;have I:a=none->l=[]:=λe=>by grind
  cases a with
  | none =>
   have:=I rfl;subst this;show (convert s t (.slice none 0 c)).run P w=_;have z:TH []=ByteArray.empty:=rfl;rw[z];simp[convert,RR f,RR g,RR r,Conv.bytesToString]
  | some ad =>
   have hb:=run_convert_bytes_back (P:=P) w s t m ad c (l.map λx=>UInt8.ofNat x.toNat) f r g λj q=>by
    have b:j<List.length l:=by rw[No]at q;exact q
    rcases d with d|⟨S,d,U,C⟩
    .rw[d]at b;cases b
    cases d;obtain⟨T,-,G,J⟩:=C j l[j] (AT b);obtain⟨rfl,H⟩:=J;have F:=G 0 (.int .u8 l[j]) rfl;rw[E]at F;obtain⟨M,N⟩:(0:Int)<=(l:List Int)[j]'b/\(l:List Int)[j]'b<=255:=by
     simpa[KS,IntKind.min,IntKind.max,IntKind.signed,IntKind.bits] using H
    have e:(((List.map (λx:Int=>UInt8.ofNat x.toNat) l)[j]'q).toNat:Int)=l[j]:=by
     rw[ABA,UInt8.toNat_ofNat'];have W:((l:List Int)[j]'b).toNat % 2 ^ 8=((l:List Int)[j]'b).toNat:=Nat.mod_eq_of_lt ((ACC M).2 (AC9 N dc));grind
    grind [Ty.size]
   rw[No]at hb;exact hb
 cases h
theorem A9k (q:∀n,V.L n->∃o,A6 V o (V.ρ n)) {x:AV} {xv:Value} {t ty:TypeId} (hT:EO P tb t ti) (w:World) (h:Vc (some ti) (some x)=some (vc,v,obs)) (hx:B7 V x xv) :
  obs=[]/\∃u,(Builtin.len_ #[t] ty #[xv]).run P w=.ok u w/\B7 V v u:=by
 have g:∀n:Nat,n<=AQ->KS .i64 (n:Int):=λn hn=>by
  simp[KS,IntKind.min,IntKind.max,IntKind.signed,IntKind.bits];simp[AQ]at hn;omega
 unfold Vc at h;split at h
 .rename_i e o el b p l d f;cases d;cases f;cases h;obtain⟨cs,⟨a,c,rfl,h1,r,_⟩,rfl⟩:=hx;have hu:=hT.2.1;exact⟨rfl,.int .i64 (List.length l:Int),by simp[Builtin.len_,RR hu,goInt,Ty.wrap],BN (g _ r)⟩
 .rename_i e o el b n p lo hi d f;cases d;cases f;cases h;obtain⟨j,a,m,c,B,H,G,D,E,rfl,F,h0,h1⟩:=hx;have hu:=hT.2.1;obtain⟨C,k⟩:=q n j;obtain⟨_,_,_,_,this⟩:=Yn k B;exact⟨rfl,.int .i64 ((hi-lo:Nat):Int),by simp[Builtin.len_,RR hu,goInt],BN (g _ O1)⟩
 .rename_i e o el b n p i len d f;cases d;cases f;cases h;obtain⟨j,J,a,c,I,A,z,y,rfl⟩:=hx;have hu:=hT.2.1;obtain⟨C,k⟩:=q n j;have:=A4N k A z y rfl;exact⟨rfl,.int .i64 (len:Int),by simp[Builtin.len_,RR hu,goInt],BN (g _ this)⟩
 .rename_i e o el b d f;cases d;cases f;cases h;have hx:xv=_:=hx;subst hx;have hu:=hT.2.1;exact⟨rfl,.int .i64 0,by simp[Builtin.len_,RR hu,goInt],BN (g 0 sc)⟩
 .rename_i o el b s d f;cases d;cases f;cases h;obtain⟨rfl,h1⟩:=G8 hx;have hu:P.underlying t=some .string:=hT.2;exact⟨rfl,.int .i64 (s.size:Int),by simp[Builtin.len_,RR hu,goInt],BN (g _ h1)⟩
 cases h
theorem xA {i:Nat} {x:AV} {xv:Value} (w:World) (h:FE i (some x)=some (vc,v,obs)) (hx:B7 V x xv) :
  obs=[]/\∃u,(Instr.extract xv i).run P w=.ok u w/\B7 V v u:=by
 have get:∀(l:List AV) (a:List Value) (i:Nat) (y:AV),H9 V l a->l[i]?=some y->∃u,a[i]?=some u/\B7 V y u:=by
  intro l;induction l with
  | nil=>intro a i y _ h;simp at h
  | cons z r f =>
   intro a i y b h;obtain⟨u,g,rfl,h1,c⟩:=b;cases i with
   | zero =>
    simp at h;subst h;exact⟨u,rfl,A0y h1⟩
   | succ i=>exact f g i y c (by simpa using h)
 unfold FE at h;split at h
 .rename_i l d;cases d;obtain⟨a,rfl,b⟩:=hx;cases hl:l[i]? with
  | none=>rw[hl]at h;simp[HN]at h
  | some y =>
   rw[hl]at h;simp only[HN]at h;cases h;obtain⟨u,hu,e⟩:=get l a i _ b hl;exact⟨rfl,u,by simp[Instr.extract,hu],e⟩
 cases h
theorem A9l {x y:AV} {xv:Value} {ts:Array TypeId} {ty:TypeId} (w:World) (h:UX (some x) (some y)=some (vc,v,obs)) (hx:B7 V x xv) (hy:B7 V y c) :
  obs=[]/\∃u,(Builtin.min_ ts ty #[xv,c]).run P w=.ok u w/\B7 V v u:=by
 unfold UX at h;split at h
 .rename_i k a f b d e;cases d;cases e;split at h
  .rename_i hk;subst hk;cases h;obtain⟨rfl,ha⟩:=BI hx;obtain⟨rfl,hb⟩:=BI hy;have ha:KS k a:=ha;have hb:KS k b:=hb;refine⟨rfl,.int k (if (b:Int)<a then b else a),by simp[Builtin.min_,Builtin.min2],BN ?_⟩;split
   .exact hb
   exact ha
  cases h
 cases h
theorem A7C {x y z:AV} {xv e f:Value} {ts:Array TypeId} {ty:TypeId} (w:World) (h:Ju (some x) (some y) (some z)=some (vc,v,obs)) (hx:B7 V x xv) (hy:B7 V y e) (n:B7 V z f) :
  obs=[]/\∃u,(Builtin.min_ ts ty #[xv,e,f]).run P w=.ok u w/\B7 V v u:=by
 unfold Ju at h;split at h
 .rename_i k a p b q c g i j;cases g;cases i;cases j;split at h
  .rename_i hk;obtain⟨l,m⟩:=hk;subst l;subst m;cases h;obtain⟨rfl,ha⟩:=BI hx;obtain⟨rfl,hb⟩:=BI hy;obtain⟨rfl,d⟩:=BI n;have ha:KS k a:=ha;have hb:KS k b:=hb;have d:KS k c:=d;refine⟨rfl,.int k (if (c:Int)<(if (b:Int)<a then b else a) then c else (if (b:Int)<a then b else a)),by simp[Builtin.min_,Builtin.min2],BN ?_⟩;by_cases o:(b:Int)<a
   .grind
   grind
  cases h
 cases h
theorem A9m {x y:AV} {xv:Value} {ts:Array TypeId} {ty:TypeId} (w:World) (h:UY (some x) (some y)=some (vc,v,obs)) (hx:B7 V x xv) (hy:B7 V y c) :
  obs=[]/\∃u,(Builtin.max_ ts ty #[xv,c]).run P w=.ok u w/\B7 V v u:=by
 unfold UY at h;split at h
 .rename_i k a f b d e;cases d;cases e;split at h
  .rename_i hk;subst hk;cases h;obtain⟨rfl,ha⟩:=BI hx;obtain⟨rfl,hb⟩:=BI hy;have ha:KS k a:=ha;have hb:KS k b:=hb;refine⟨rfl,.int k (if (a:Int)<b then b else a),by simp[Builtin.max_,Builtin.max2],BN ?_⟩;split
   .exact hb
   exact ha
  cases h
 cases h
theorem A7D {t:TypeId} (hu:P.underlying t=some .string) (w:World) {kd:IntKind} {k:Int} (h0:0<=k) (h1:k<(s.size:Int)) :
  (Instr.index t (.string s) (.int kd k)).run P w=.ok (.int .u8 ((s.data.getD k.toNat 0).toNat:Int)) w/\KS .u8 ((s.data.getD k.toNat 0).toNat:Int):=by
 have a:k.toNat<s.size:=by omega
 have d:k.toNat<s.data.size:=a;have c:s[k.toNat]?=some (s.data.getD k.toNat 0):=by
  rw[getElem?_pos s k.toNat a];simp only[Array.getD,d,dite_true];rfl
 refine⟨by simp[Instr.index,asIntOf,RR hu,h0,c],?_⟩;generalize s.data.getD k.toNat 0=b;have:=b.toNat_lt;simp[KS,IntKind.min,IntKind.max,IntKind.signed,IntKind.bits];omega
theorem A0I {t:TypeId} {x y:AV} {xv:Value} (hT:EO P tb t ti) (w:World) (h:Ey (some ti) (some x) (some y)=some (vc,v,obs)) (a:vc) (hx:B7 V x xv) (hy:B7 V y c) :
  obs=[]/\∃u,(Instr.index t xv c).run P w=.ok u w/\B7 V v u:=by
 unfold Ey at h;split at h
 .rename_i o el b s kd k e f g;cases e;cases f;cases g;cases h;obtain⟨rfl,_⟩:=G8 hx;obtain⟨rfl,_⟩:=BI hy;have hu:P.underlying t=some .string:=hT.2;obtain⟨h1,d⟩:=A7D (P:=P) hu w (kd:=kd) a.1 a.2;exact⟨rfl,_,h1,BN d⟩
 cases h
theorem A9n {x:AV} {xv:Value} (h:YV (some x)=some (vc,v,obs)) (hx:B7 V x xv):obs=[]/\(∃ad,xv=.pointer (some ad))/\B7 V v xv:=by
 unfold YV at h;split at h
 .rename_i a;cases a;cases h;obtain⟨d,b,e,rfl⟩:=hx;exact⟨rfl,⟨_,rfl⟩,d,b,e,rfl⟩
 .rename_i a;cases a;cases h;obtain⟨ad,cs,rfl,r⟩:=hx;exact⟨rfl,⟨_,rfl⟩,ad,cs,rfl,r⟩
 .rename_i a;cases a;cases h;obtain⟨d,g,m,c,e,f,rfl⟩:=hx;exact⟨rfl,⟨_,rfl⟩,d,g,m,c,e,f,rfl⟩
 cases h
end
end
section
open Go Go.RowKit
section
variable {P:Program} {tb:Tb} {id:TypeId} {ti:TI} {V:Vw} {vc:Prop} {v:AV} {obs:List (Nat×Obj)}
def FT (a:Option Addr) (c l sz:Nat):Option Addr:=if c=l then a else a.map (·.add (l*sz))
inductive sS:Option Value->Nat->Nat->Prop
 | none (d:Nat):sS none d d
 | some (k:IntKind) (z:Int) (d:Nat) (h:0<=z):sS (some (.int k z)) d z.toNat
theorem A0J {el:TypeId} (hu:P.underlying id=some (.slice el)) {sz:Nat} (w:World) (hs:(sizeOf el).run P w=.ok sz w) {n c l h:Nat} {lo:Option Value}
  (hl:sS lo 0 l) (hh:sS B n h) (h1:l<=h) (j:h<=c) :
  (Instr.sliceAt id (.slice a n c) lo B none).run P w=.ok (.slice (FT a c l sz) (h-l) (c-l)) w:=by
 cases hl with
 | none =>
  cases hh with
  | none=>simp[Instr.sliceAt,RR hu,Instr.slice,Instr.sliceBounds,hs,FT]
  | some k z _ b =>
   have e:z<=(c:Int):=by omega
   simp[Instr.sliceAt,RR hu,Instr.slice,Instr.sliceBounds,Instr.sliceBound,asIntOf,hs,FT,b,e]
 | some k z _ b =>
  cases hh with
  | none =>
   have e:z<=(n:Int):=by omega
   simp[Instr.sliceAt,RR hu,Instr.slice,Instr.sliceBounds,Instr.sliceBound,asIntOf,hs,FT,b,e]
  | some m d _ i =>
   have e:d<=(c:Int):=by omega
   have f:max d 0=d:=by omega
   have g:z<=d:=by omega
   simp[Instr.sliceAt,RR hu,Instr.slice,Instr.sliceBounds,Instr.sliceBound,asIntOf,hs,FT,b,i,e,f,g]
theorem A7E (hu:P.underlying id=some .string) (w:World) {l h:Nat} {lo:Option Value} (hl:sS lo 0 l) (hh:sS B s.size h) (h1:l<=h) (g:h<=s.size) :
  (Instr.sliceAt id (.string s) lo B none).run P w=.ok (.string (s.extract l h)) w:=by
 cases hl with
 | none =>
  cases hh with
  | none=>simp[Instr.sliceAt,RR hu,Instr.slice,Instr.sliceBounds]
  | some k z _ a =>
   have e:z<=(s.size:Int):=by omega
   simp[Instr.sliceAt,RR hu,Instr.slice,Instr.sliceBounds,Instr.sliceBound,asIntOf,a,e]
 | some k z _ a =>
  cases hh with
  | none =>
   have e:z<=(s.size:Int):=by omega
   simp[Instr.sliceAt,RR hu,Instr.slice,Instr.sliceBounds,Instr.sliceBound,asIntOf,a,e]
  | some i b _ f =>
   have e:b<=(s.size:Int):=by omega
   have c:max b 0=b:=by omega
   have d:z<=b:=by omega
   simp[Instr.sliceAt,RR hu,Instr.slice,Instr.sliceBounds,Instr.sliceBound,asIntOf,a,f,e,c,d]
theorem A4W {xs:List e.den} {n c l h:Nat} (o:B1 V.w V.O (.slice e) [.slice a n c] xs) (h1:l<=h) (f:h<=xs.length) :
  BU V.w V.O (.slice e) (.slice (FT a c l e.size) (h-l) (c-l)) (sub xs l h)/\n=xs.length/\h<=c:=by
 obtain⟨p,q,d,r,s,b⟩:=o;injection d with d
 injection d with g j k
 subst g;subst j;subst k;have hl:=Om xs (lo:=l) f;refine⟨⟨_,⟨FT a c l e.size,c-l,by rw[hl],by rw[hl];omega,by rw[hl];omega,?_⟩,rfl⟩,rfl,by omega⟩;by_cases u:l<h
 .right;rcases b with b|⟨ad,rfl,m,t⟩
  .subst b;simp at f;omega
  refine⟨ad.add (l*e.size),?_,by rw[CP];exact m,λi x hi=>?_⟩
  .grind [FT]
  obtain⟨hx,_⟩:=bA xs l h i hi;grind [DK]
 simp_all
theorem A0K {loc:Value} {sz b c0 l h:Nat} {n c:Nat} (s:DM loc sz b c0 (.slice a n c)) (h1:l<=h) (x:h<=c0-b) :
  DM loc sz (b+l) (b+h) (.slice (FT a c l sz) (h-l) (c-l))/\n=c0-b/\h<=c:=by
 obtain⟨d,m,e,q,hb,z,v,w,t,y,j,k⟩:=s;injection t with f g i
 subst f;subst g;subst i;refine⟨⟨d,m,e,q,by omega,by omega,FT a c l sz,c-l,by rw[show b+h-(b+l)=h-l by omega],by omega,λB=>?_,λA=>?_⟩,rfl,by omega⟩
 .have o:b=0:=by omega
  have p:l=0:=by omega
  subst o;subst p;obtain⟨u,C⟩:=j rfl;refine⟨?_,by omega⟩;rw[<-u];unfold FT;split
  .rfl
  simp only[ACU];cases a<;>rfl
 have:=k O1;subst this;have r:¬c=l:=by omega
 simp only[FT,At r,Option.map_map]
 congr 1
 grind [DK]
theorem UZ (s:ByteArray) (l h:Nat):(s.extract l h).size<=s.size:=by
 simp only[ByteArray.size_extract];omega
theorem Vl (hT:EO P tb id ti) (k:DC P tb) (f:ti.ty=.slice e) {l:List e.den} {xv:Value} {lo:Option Value} {a h:Nat}
  (hx:BU V.w V.O (.slice e) xv l) (hl:sS lo 0 a) (hh:sS B l.length h) (h1:a<=h) (g:h<=l.length) :
  ∃u,(Instr.sliceAt id xv lo B none).run P V.w=.ok u V.w/\B7 V (.p (.slice e) (sub l a h)) u:=by
 obtain⟨ty,offs,el,bytes⟩:=ti;simp only at f;subst f;obtain⟨hu,hs,_⟩:=CZ hT k;obtain⟨cs,b,rfl⟩:=hx;obtain⟨d,c,rfl,r⟩:=b;have b:B1 V.w V.O (.slice e) [.slice d l.length c] l:=⟨d,c,rfl,r⟩;obtain⟨i,_,j⟩:=A4W b h1 g;exact⟨_,A0J hu _ (hs _) hl hh h1 j,i⟩
theorem Vm (hT:EO P tb id ti) (k:DC P tb) {n b c0:Nat} (c:ti.ty=.slice e) {xv:Value} {lo:Option Value} {a h:Nat}
  (hx:B7 V (.sr n e b c0) xv) (hl:sS lo 0 a) (hh:sS B (c0-b) h) (h1:a<=h) (f:h<=c0-b) :
  ∃u,(Instr.sliceAt id xv lo B none).run P V.w=.ok u V.w/\B7 V (.sr n e (b+a) (b+h)) u:=by
 obtain⟨ty,offs,el,bytes⟩:=ti;simp only at c;subst c;obtain⟨hu,hs,_⟩:=CZ hT k;obtain⟨j,d⟩:=hx;have l:=d;obtain⟨_,_,_,_,_,_,m,o,rfl,_⟩:=l;obtain⟨g,p,i⟩:=A0K d h1 f;exact⟨_,A0J hu _ (hs _) hl hh h1 i,j,g⟩
theorem Vn (hT:EO P tb id ti) (c:ti.ty=.str) {xv:Value} {lo:Option Value} {a h:Nat}
  (hx:BU V.w V.O .str xv s) (hl:sS lo 0 a) (hh:sS B s.size h) (h1:a<=h) (b:h<=s.size) :
  ∃u,(Instr.sliceAt id xv lo B none).run P V.w=.ok u V.w/\B7 V (.p .str (s.extract a h)) u:=by
 obtain⟨rfl,hm⟩:=G8 hx;have hu:=hT.2;rw[c]at hu;exact⟨_,A7E hu _ hl hh h1 b,Vk (RF (UZ s a h) hm)⟩
theorem JU {n:Nat} (_h:0<=z) (a:z<=(n:Int)):z.toNat<=n:=by omega
theorem bF {a b:Int} (h:a<=b):a.toNat<=b.toNat:=by omega
def fQ:Option AV->Option Value->Prop
 | none,none=>True
 | some x,some v=>B7 V x v
 | _,_=>False
theorem A0L (hT:EO P tb id ti) (m:DC P tb) {x ha i:AV} {xv f g:Value} (h:EY (some ti) (some x) (some ha) (some i)=some (vc,v,obs)) (A:vc) (hx:B7 V x xv) (hh:B7 V ha f) (hm:B7 V i g) :
  obs=[]/\∃u,(Instr.sliceAt id xv none (some f) (some g)).run P V.w=.ok u V.w/\B7 V v u:=by
 unfold EY at h;split at h
 .rename_i e offs el bytes D l B a C b n o p q;cases n;cases o;cases p;cases q;split at h
  .rename_i r;subst r;cases h;obtain⟨hu,hs,_⟩:=CZ hT m;obtain⟨rfl,rfl⟩:=A;obtain⟨rfl,_⟩:=BI (hh:BU V.w V.O (.int B) f _);obtain⟨rfl,_⟩:=BI (hm:BU V.w V.O (.int C) g _);obtain⟨cs,z,rfl⟩:=(hx:BU V.w V.O (.slice e) xv l);obtain⟨d,c,rfl,t,y,s⟩:=z;refine⟨rfl,.slice d (List.length l) (List.length l),?_,⟨_,⟨d,_,rfl,IN _,y,s⟩,rfl⟩,d,rfl⟩;have j:((List.length l:Nat):Int)<=(c:Int):=by omega
   have k:(0:Int)<=((List.length l:Nat):Int):=by omega
   simp[Ty.wrap,Instr.sliceAt,RR hu,Instr.slice,Instr.sliceBounds,Instr.sliceBound,asIntOf,hs V.w,j,k,Addr.add];intro E;exact absurd t O1
  cases h
 cases h
theorem A4X (hT:EO P tb id ti) (i:DC P tb) {x:AV} {xv:Value} {lo hi:Option AV} 
  (h:F2 (some ti) (some x) (some lo) (some hi)=some (vc,v,obs)) (a:vc) (hx:B7 V x xv) (f:fQ (V:=V) lo C) (c:fQ (V:=V) hi B) :
  obs=[]/\∃u,(Instr.sliceAt id xv C B none).run P V.w=.ok u V.w/\B7 V v u:=by
 have g:∀ {o:Option Value} (d:Nat),fQ (V:=V) none o->sS o d d:=λ{o} d h=>by
  cases o with
  | none=>exact .none d
  | some v=>exact h.elim
 have b1:∀ {o:Option Value} {k:IntKind} {z:Int} (d:Nat),fQ (V:=V) (some (.p (.int k) z)) o->0<=z->sS o d z.toNat:=λ{o k z} d h E=>by
  cases o with
  | none=>exact h.elim
  | some v =>
   obtain⟨rfl,_⟩:=BI (h:BU V.w V.O (.int k) v z);exact .some k z d E
 unfold F2 at h;split at h
 .rename_i e offs el bytes D l A h0 m q r t;cases m;cases q;cases r;cases t;split at h
  .rename_i y;subst y;have hx:BU V.w V.O (.slice e) xv l:=hx;unfold JQ at h;split at h<;>first|(cases h;done)|(rename_i j;cases j<;>cases h)
   .exact⟨rfl,Vl hT i rfl hx (g 0 f) (b1 _ c a.1) (OF _) (JU a.1 a.2)⟩
   .exact⟨rfl,Vl hT i rfl hx (b1 0 f a.1) (g _ c) (JU a.1 a.2) (IN _)⟩
   exact⟨rfl,Vl hT i rfl hx (b1 0 f a.1) (b1 _ c (AB5 a.1 a.2.1)) (bF a.2.1) (JU (AB5 a.1 a.2.1) a.2.2)⟩
  cases h
 .rename_i e offs el bytes n D b c0 A h0 m q r t;cases m;cases q;cases r;cases t;split at h
  .rename_i y;subst y;unfold JQ at h;split at h<;>first|(cases h;done)|(rename_i j;cases j<;>cases h)
   .refine⟨rfl,?_⟩;have:=Vm (P:=P) hT i rfl hx (g 0 f) (b1 _ c a.1) (OF _) (JU a.1 a.2);simpa using this
   .refine⟨rfl,?_⟩;have:=Vm (P:=P) hT i rfl hx (b1 0 f a.1) (g _ c) (JU a.1 a.2) (IN _);have G:=JU a.1 a.2;obtain⟨_,_,_,_,_,F,_⟩:=hx;grind
   exact⟨rfl,Vm hT i rfl hx (b1 0 f a.1) (b1 _ c (AB5 a.1 a.2.1)) (bF a.2.1) (JU (AB5 a.1 a.2.1) a.2.2)⟩
  cases h
 .rename_i offs el bytes s A h0 m q r t;cases m;cases q;cases r;cases t;have hx:BU V.w V.O .str xv s:=hx;unfold JQ at h;split at h<;>first|(cases h;done)|(rename_i j;cases j<;>cases h)
  .exact⟨rfl,Vn hT rfl hx (g 0 f) (b1 _ c a.1) (OF _) (JU a.1 a.2)⟩
  .exact⟨rfl,Vn hT rfl hx (b1 0 f a.1) (g _ c) (JU a.1 a.2) (IN _)⟩
  exact⟨rfl,Vn hT rfl hx (b1 0 f a.1) (b1 _ c (AB5 a.1 a.2.1)) (bF a.2.1) (JU (AB5 a.1 a.2.1) a.2.2)⟩
 cases h
end
end
end Go.Proofs.YtcmadlghkcjcbaaGreat.Fw
