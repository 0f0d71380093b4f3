/- The executor's quiet operations are sound, first part. -/
import Derived.Test.YtapkhdkbkodbjaaGreatDZA
import Derived.Laws.IdiomStrings
set_option linter.unusedVariables false
set_option linter.unusedSimpArgs false
namespace Go.Proofs.YtapkhdkbkodbjaaGreat.Fw
section
open Go Go.RowKit
theorem Pq {w:World} {O:Nat->Prop}:∀ {t:Ty} {k:Nat} {d:t.den} {pv:PV} {cs:List Value},HI t k d=some pv->B0 w O t cs d ->
  Z5 t k=some pv.t/\∃o,KZ t k=some o/\o+pv.t.size<=t.size/\B0 w O pv.t ((cs.drop o).take pv.t.size) pv.d
 | .prod a b,0,d,pv,cs,h,c=>by
  simp only[HI]at h;cases h;obtain⟨c1,c2,rfl,h1,e⟩:=c;refine⟨rfl,0,rfl,by simp[Ty.size],?_⟩;have hl:=h1.length;simp only[To,<-hl,List.take_left];exact h1
 | .prod a b,k+1,d,pv,cs,h,c=>by
  simp only[HI]at h;obtain⟨c1,c2,rfl,h1,e⟩:=c;obtain⟨f,o,g,j,i⟩:=Pq h e;refine⟨f,a.size+o,by simp[KZ,g],by simp[Ty.size];omega,?_⟩;have hl:=h1.length;rw[<-hl,<-AER,AEG];exact i
 | .int _,0,d,pv,cs,h,c=>by
  simp only[HI]at h;cases h;refine⟨rfl,0,rfl,by simp,?_⟩;have hl:=c.length;simp only[To,<-hl,RD];exact c
 | .bool,0,d,pv,cs,h,c=>by
  simp only[HI]at h;cases h;refine⟨rfl,0,rfl,by simp,?_⟩;have hl:=c.length;simp only[To,<-hl,RD];exact c
 | .str,0,d,pv,cs,h,c=>by
  simp only[HI]at h;cases h;refine⟨rfl,0,rfl,by simp,?_⟩;have hl:=c.length;simp only[To,<-hl,RD];exact c
 | .slice _,0,d,pv,cs,h,c=>by
  simp only[HI]at h;cases h;refine⟨rfl,0,rfl,by simp,?_⟩;have hl:=c.length;simp only[To,<-hl,RD];exact c
 | .ref _,0,d,pv,cs,h,c=>by
  simp only[HI]at h;cases h;refine⟨rfl,0,rfl,by simp,?_⟩;have hl:=c.length;simp only[To,<-hl,RD];exact c
 | .ref _,_+1,d,pv,cs,h,c=>by simp[HI]at h
 | .agg _,0,d,pv,cs,h,c=>by
  simp only[HI]at h;cases h;refine⟨rfl,0,rfl,by simp,?_⟩;have hl:=c.length;simp only[To,<-hl,RD];exact c
 | .int _,_+1,d,pv,cs,h,c=>by simp[HI]at h
 | .bool,_+1,d,pv,cs,h,c=>by simp[HI]at h
 | .str,_+1,d,pv,cs,h,c=>by simp[HI]at h
 | .slice _,_+1,d,pv,cs,h,c=>by simp[HI]at h
 | .agg _,_+1,d,pv,cs,h,c=>by simp[HI]at h
theorem p8 {α:Type} (cs:List α) (o m a n:Nat) (h:a+n<=m):(((cs.drop o).take m).drop a).take n=(cs.drop (o+a)).take n:=by
 rw[List.drop_take,List.take_take,AER]
 congr 1
 omega
theorem VP {w:World} {O:Nat->Prop}:∀ {e:List Nat} {t:Ty} {d:t.den} {pv:PV} {cs:List Value} {off:Nat},UI e t d=some pv->Lj e t=some off->B0 w O t cs d ->
  off+pv.t.size<=t.size/\B0 w O pv.t ((cs.drop off).take pv.t.size) pv.d
 | [],t,d,pv,cs,off,h,a,b=>by
  simp only[UI]at h;simp only[Lj]at a;cases h;cases a;have hl:=b.length;simp only[To,<-hl,RD];exact⟨by simp[hl],b⟩
 | k :: r,t,d,pv,cs,off,h,a,b=>by
  cases t<;>simp only[UI,Lj]at h a<;>try(cases h;done)
  rename_i t;split at h
  .rename_i p hp;have b:B0 w O t cs d:=b;obtain⟨h1,o,f,l,g⟩:=Pq hp b;rw[h1,f]at a;simp only[OF]at a;obtain⟨m,j,rfl⟩:=a;obtain⟨i,c⟩:=VP h j g;refine⟨by simp only[Ty.size];omega,?_⟩;rw[p8 _ _ _ _ _ i]at c;exact c
  cases h
def Ax {α:Type} (cs:List α) (o:Nat) (a:List α):List α:=cs.take o++a++cs.drop (o+a.length)
theorem FD {α:Type} {cs:List α} {o:Nat} {a:List α} (h:o+a.length<=cs.length):(Ax cs o a).length=cs.length:=by
 simp[Ax];omega
theorem Dv {α:Type} {cs a:List α} (h:a.length=cs.length):Ax cs 0 a=a:=by
 simp[Ax,h]
theorem Pr {α:Type} (a b:List α) (o:Nat) (c:List α):Ax (a++b) (a.length+o) c=a++Ax b o c:=by
 simp only[Ax,List.take_append,AFz,RN];have h1:List.take (a.length+o) a=a:=At (by omega);have d:List.drop (a.length+o+c.length) a=[]:=RC (by omega);have e:a.length+o-a.length=o:=by omega
 have f:a.length+o+c.length-a.length=o+c.length:=by omega
 rw[h1,d,e,f];simp
theorem TD {α:Type} (a b:List α) (c:List α) (h:c.length=a.length):Ax (a++b) 0 c=c++b:=by
 simp[Ax,h]
theorem d6 {w:World} {O:Nat->Prop}:∀ {t:Ty} {k:Nat} {d i:t.den} {pv:PV} {cs g:List Value} {o:Nat},Nf t k d pv=some i->KZ t k=some o->B0 w O t cs d->B0 w O pv.t g pv.d ->
  B0 w O t (Ax cs o g) i/\Z5 t k=some pv.t
 | .prod a b,0,d,i,pv,cs,g,o,h,c,f,e=>by
  simp only[Nf,OF]at h;obtain⟨y,l,rfl⟩:=h;have:=A8 l;subst this;simp only[KZ]at c;cases c;obtain⟨c1,c2,rfl,h1,j⟩:=f;rw[TD _ _ _ (by rw[e.length,h1.length])];exact⟨⟨g,c2,rfl,e,j⟩,rfl⟩
 | .prod a b,k+1,d,i,pv,cs,g,o,h,c,f,e=>by
  simp only[Nf,OF]at h;obtain⟨y,l,rfl⟩:=h;simp only[KZ,OF]at c;obtain⟨q,p,rfl⟩:=c;obtain⟨c1,c2,rfl,h1,j⟩:=f;obtain⟨m,n⟩:=d6 l p j e;rw[<-h1.length,Pr];exact⟨⟨c1,_,rfl,h1,m⟩,n⟩
 | .int _,0,d,i,pv,cs,g,o,h,c,f,e=>by
  have:=A8 h;subst this;simp only[KZ]at c;cases c;rw[Dv (by rw[e.length,f.length])];exact⟨e,rfl⟩
 | .bool,0,d,i,pv,cs,g,o,h,c,f,e=>by
  have:=A8 h;subst this;simp only[KZ]at c;cases c;rw[Dv (by rw[e.length,f.length])];exact⟨e,rfl⟩
 | .str,0,d,i,pv,cs,g,o,h,c,f,e=>by
  have:=A8 h;subst this;simp only[KZ]at c;cases c;rw[Dv (by rw[e.length,f.length])];exact⟨e,rfl⟩
 | .slice _,0,d,i,pv,cs,g,o,h,c,f,e=>by
  have:=A8 h;subst this;simp only[KZ]at c;cases c;rw[Dv (by rw[e.length,f.length])];exact⟨e,rfl⟩
 | .ref _,0,d,i,pv,cs,g,o,h,c,f,e=>by
  have:=A8 h;subst this;simp only[KZ]at c;cases c;rw[Dv (by rw[e.length,f.length])];exact⟨e,rfl⟩
 | .ref _,_+1,d,i,pv,cs,g,o,h,c,f,e=>by simp[Nf]at h
 | .agg _,0,d,i,pv,cs,g,o,h,c,f,e=>by
  have:=A8 h;subst this;simp only[KZ]at c;cases c;rw[Dv (by rw[e.length,f.length])];exact⟨e,rfl⟩
 | .int _,_+1,d,i,pv,cs,g,o,h,c,f,e=>by simp[Nf]at h
 | .bool,_+1,d,i,pv,cs,g,o,h,c,f,e=>by simp[Nf]at h
 | .str,_+1,d,i,pv,cs,g,o,h,c,f,e=>by simp[Nf]at h
 | .slice _,_+1,d,i,pv,cs,g,o,h,c,f,e=>by simp[Nf]at h
 | .agg _,_+1,d,i,pv,cs,g,o,h,c,f,e=>by simp[Nf]at h
theorem Nt {α:Type} (cs:List α) (o m a:Nat) (b:List α) (h:a+b.length<=m) (e:o+m<=cs.length) :
  Ax cs o (Ax ((cs.drop o).take m) a b)=Ax cs (o+a) b:=by
 apply AF1;intro j;have hl:(Ax ((cs.drop o).take m) a b).length=m:=by rw[FD]<;>simp<;>omega
 simp only[Ax]at hl ⊢;rw[hl];simp only[AAi,By,OS,S0,Sz,AAk];have e1:min o cs.length=o:=by omega
 have e2:min m (cs.length-o)=m:=by omega
 have c:min a m=a:=by omega
 have d:min (o+a) cs.length=o+a:=by omega
 rw[e1,e2,c,d];by_cases c1:j<o
 .grind
 grind
theorem VQ {w:World} {O:Nat->Prop}:∀ {l:List Nat} {t:Ty} {d f:t.den} {pv:PV} {cs c:List Value} {off:Nat},VI l t d pv=some f->Lj l t=some off->B0 w O t cs d->B0 w O pv.t c pv.d ->
  B0 w O t (Ax cs off c) f/\off+c.length<=cs.length
 | [],t,d,f,pv,cs,c,off,h,b,a,e=>by
  have:=A8 h;subst this;simp only[Lj]at b;cases b;rw[Dv (by rw[e.length,a.length])];exact⟨e,by simp[e.length,a.length]⟩
 | k :: r,t,d,f,pv,cs,c,off,h,b,a,e=>by
  cases t<;>simp only[VI,Lj]at h b<;>try(cases h;done)
  rename_i t;have a:B0 w O t cs d:=a;split at h
  .rename_i p hp;obtain⟨h1,o,g,u,m⟩:=Pq hp a;rw[h1,g]at b;simp only[OF]at b;obtain⟨x,q,rfl⟩:=b;split at h
   .rename_i y s;obtain⟨n,i⟩:=VQ s q m e;have v:=a.length;have hl:((cs.drop o).take p.t.size).length=p.t.size:=by simp;omega
    rw[hl]at i;obtain⟨j,_⟩:=d6 (pv:=⟨p.t,y⟩) h g a n;rw[Nt _ _ _ _ _ i (by omega)]at j;exact⟨j,by omega⟩
   cases h
  cases h
end
section
open Go Go.RowKit
section
variable {V:Vw}
theorem Ng.length {x:AV} {cs:List Value} (h:Ng V x cs):cs.length=x.cells:=by
 cases x;case p t d=>exact B0.length (show B0 V.w V.O t cs d from h)
 case ag l=>obtain⟨v,_,_,hf⟩:=h;exact hf.elim
 case tup l=>obtain⟨v,_,_,hf⟩:=h;exact hf.elim
 all_goals(obtain⟨v,rfl,_⟩:=h;rfl)
theorem Ng.one {x:AV} {cs:List Value} (h:Ng V x cs):∀u∈cs,u.oneCell'=true:=by
 cases x;case p t d=>exact B0.one (show B0 V.w V.O t cs d from h)
 all_goals(obtain⟨v,rfl,h1,_⟩:=h;intro u hu;simp at hu;subst hu;exact h1)
theorem Dc.one:∀ {l:List AV} {cs:List Value},Dc V l cs->∀u∈cs,u.oneCell'=true
 | [],cs,h=>by have h:cs=[]:=h;subst h;simp
 | x :: r,cs,h=>by
  obtain⟨c1,c2,rfl,h1,a⟩:=h;intro u hu;rcases Is.1 hu with hu|hu
  .exact h1.one u hu
  exact a.one u hu
theorem Dc.length:∀ {l:List AV} {cs:List Value},Dc V l cs->cs.length=CF l l.length
 | [],cs,h=>by have h:cs=[]:=h;subst h;rfl
 | x :: r,cs,h=>by
  obtain⟨c1,c2,rfl,h1,a⟩:=h;simp only[By,No,CF];rw[h1.length,a.length]
theorem Dc.get:∀ {l:List AV} {cs:List Value} {k:Nat} {x:AV},Dc V l cs->l[k]?=some x ->
  CF l k+x.cells<=cs.length/\Ng V x ((cs.drop (CF l k)).take x.cells)
 | [],cs,k,x,h,hk=>by simp at hk
 | y :: r,cs,0,x,h,hk=>by
  obtain⟨c1,c2,rfl,h1,a⟩:=h;simp at hk;subst hk;have:=h1.length;grind [CF]
 | y :: r,cs,k+1,x,h,hk=>by
  obtain⟨c1,c2,rfl,h1,a⟩:=h;have hk:r[k]?=some x:=by simpa using hk
  obtain⟨c,b⟩:=Dc.get a hk;have:=h1.length;refine⟨by simp only[CF,By];omega,?_⟩;simp only[CF,<-this];rw[<-AER,AEG];exact b
theorem Dc.set:∀ {l:List AV} {cs:List Value} {k:Nat} {x y:AV} {a:List Value},Dc V l cs->l[k]?=some x->Ng V y a->y.cells=x.cells ->
  Dc V (l.set k y) (Ax cs (CF l k) a)
 | [],cs,k,x,y,a,h,hk,b,c=>by simp at hk
 | z :: r,cs,0,x,y,a,h,hk,b,c=>by
  obtain⟨c1,c2,rfl,h1,d⟩:=h;simp at hk;subst hk;simp only[CF,AEV];rw[TD _ _ _ (by rw[b.length,h1.length,c])];exact⟨a,c2,rfl,b,d⟩
 | z :: r,cs,k+1,x,y,a,h,hk,b,c=>by
  obtain⟨c1,c2,rfl,h1,d⟩:=h;have hk:r[k]?=some x:=by simpa using hk
  have:=h1.length;simp only[CF,AFg,<-this];rw[Pr];exact⟨c1,_,rfl,h1,Dc.set d hk b c⟩
theorem lN {ty:Ty} {x:AV} {a:List Value} (hx:Ng V x a) (hf:CT ty x=true):a.length=ty.size/\B3 V x (ty.wrap a):=by
 cases x;case p t d =>
  simp only[CT,Do]at hf;subst hf;have hx:B0 V.w V.O ty a d:=hx;exact⟨B0.length hx,a,hx,rfl⟩
 case ag l=>obtain⟨v,_,_,hf⟩:=hx;exact hf.elim
 case tup l=>obtain⟨v,_,_,hf⟩:=hx;exact hf.elim
 all_goals
  obtain⟨v,rfl,_,h1⟩:=hx;have b:ty.cell1=true:=by simp only[CT]at hf;first|exact hf|(simp only[An]at hf;exact hf.2)|exact absurd hf (by decide)
  cases ty<;>first|(cases b;done)|exact⟨rfl,h1⟩
theorem A1U {ty:Ty} {x:AV} {v:Value} (hx:B3 V x v) (hf:CT ty x=true) (m:ty.cell1=true->v.oneCell'=true):v.cells.size=ty.size/\((∀l,x≠.ag l)->Ng V x v.cells.toList):=by
 cases x;case p t d =>
  simp only[CT,Do]at hf;subst hf;obtain⟨cs,f,rfl⟩:=hx;have hl:=f.length;cases ty;case agg t=>exact⟨by simpa[Ty.wrap,Value.cells] using hl,λ_=>by simpa[Ty.wrap,Value.cells,Ng] using f⟩
  case prod a b=>exact⟨by simpa[Ty.wrap,Value.cells] using hl,λ_=>by simpa[Ty.wrap,Value.cells,Ng] using f⟩
  case slice e =>
   obtain⟨a,c,rfl,h⟩:=f;exact⟨rfl,λ_=>⟨a,c,rfl,h⟩⟩
  case int k =>
   obtain⟨rfl,h⟩:=f;exact⟨rfl,λ_=>⟨rfl,h⟩⟩
  case bool =>
   have f:cs=_:=f;subst f;exact⟨rfl,λ_=>rfl⟩
  case str =>
   obtain⟨rfl,h⟩:=f;exact⟨rfl,λ_=>⟨rfl,h⟩⟩
  case ref k =>
   have f:cs=[Lg k]:=f;subst f;have n:(Ty.ref k).wrap [Lg k]=Lg k:=rfl;rw[n];match k with
   | 0=>exact⟨rfl,λ_=>rfl⟩
   | 1=>exact⟨rfl,λ_=>rfl⟩
   | _+2=>exact⟨rfl,λ_=>rfl⟩
 case ag l =>
  obtain⟨cs,rfl,j⟩:=hx;have hl:=j.length;cases ty<;>simp only[CT]at hf<;>try(cases hf;done)
  rename_i t;simp only[S1]at hf;exact⟨by simp[Value.cells,Ty.size,hl,hf],λh=>absurd rfl (h l)⟩
 case tup l=>simp[CT]at hf
 all_goals
  have h1:ty.cell1=true:=by simp only[CT]at hf;first|exact hf|(simp only[An]at hf;exact hf.2)|exact absurd hf (by decide)
  have g:v.oneCell'=true:=m h1;have i:v.cells=#[v]:=by cases v<;>first|rfl|simp[Value.oneCell']at g
  have hs:ty.size=1:=by cases ty<;>simp[Ty.cell1]at h1<;>rfl
  rw[i];exact⟨by simp[hs],λ_=>⟨v,rfl,g,hx⟩⟩
end
end
section
open Go Go.RowKit
section
variable {P:Program} {tb:Tb} {id:TypeId} {ti:TI} {w:World} {O0:Nat->Prop} {σ:St} {ρ:Nat->Value} {vc:Prop} {v:AV} {obs:List (Nat×Obj)}
theorem YW {w:World} {base:Nat} {et:TypeId} {size:Nat} {g m c n:Nat} {cells:List Value} (h:w.ownsRow base et size (.slice (some ⟨g,0,none⟩) m c) n cells) :
  m=n/\∀(j:Nat) (u:Value),cells[j]?=some u->w.cell? ⟨g,j,none⟩=some u:=by
 constructor
 .rcases h.2 with ⟨a,_⟩|⟨e,cap,d,a,_⟩
  .injection a with h1;cases h1
  injection a
 intro j u b;have:=h.cells (g:=g) rfl j u b
 rwa [dX]at this
theorem A1V (hT:EU P tb id ti) (R:∀n o,lk n σ.objs=some o->A3 (vw w O0 σ ρ) o (ρ n)) {x:AV} {xv:Value}
  (h:Jr σ (some ti) (some x)=some (vc,v,obs)) (hx:B3 (vw w O0 σ ρ) x xv):obs=[]/\∃u,(Instr.loadAt id xv).run P w=.ok u w/\B3 (vw w O0 σ ρ) v u:=by
 unfold Jr at h;split at h
 .rename_i n U off K M;cases K;cases M;obtain⟨W,b,q,rfl⟩:=hx;cases hn:lk n σ.objs with
  | none=>rw[hn]at h;simp[Eb]at h
  | some o =>
   rw[hn]at h;cases o with
   | arr et e xs=>simp[Eb]at h
   | mapo k v l=>simp[Eb]at h
   | frame bc fs=>simp[Eb]at h
   | loop L=>simp[Eb]at h
   | itr ax ba ay az av=>simp[Eb]at h
   | dfr=>simp[Eb]at h
   | nest et aw k e xs hl=>simp[Eb]at h
   | box et st fs =>
    simp only[Eb]at h;cases hl:Jq st fs U with
    | none=>rw[hl]at h;simp[Ir]at h
    | some y =>
     rw[hl]at h;simp only[Ir]at h;split at h
     .rename_i F;obtain⟨z,A⟩:=F;cases h;obtain⟨bh,b',cs,p,aj,J⟩:=R n _ hn;have q:ρ n=_:=q;rw[q]at p;injection p with p
      injection p with p
      injection p with p
      subst p;have B:∀(G:List Value) (o:Nat),G=(cs.drop o).take G.length->∀(j:Nat) (u:Value),G[j]?=some u->w.cell? ((⟨b,o,none⟩:Addr).add j)=some u:=by
       intro G o Y j u a;rw[Jp,cell_of_row w b (o+j) cs.toArray et (0,0) aj];rw[Y,Sz,AAk]at a;split at a
       .simpa using a
       cases a
      refine⟨rfl,?_⟩;unfold Jq at hl;split at hl
      . -- the whole
       simp only[Pg]at A;cases A;cases st with
       | true =>
        simp only[ADv]at hl;cases hl;have bf:=J.length;cases hty:ti.ty<;>rw[hty]at z<;>simp only[CT]at z<;>try(cases z;done)
        rename_i t;simp only[S1]at z;have aq:cs.length=ti.ty.size:=by rw[hty];simp only[Ty.size];omega
        have:=Ej w hT aq (B cs 0 (by simp));refine⟨_,this,cs,?_,J⟩;rw[hty];rfl
       | false =>
        simp only[iN,ADz]at hl;have au:CF fs 0=0:=by cases fs<;>rfl
        obtain⟨h1,f⟩:=J.get hl;rw[au]at f;obtain⟨D,H⟩:=lN f z;have:=Ej w hT D (B _ 0 (by rw[f.length]));exact⟨_,this,H⟩
      . -- a field
       rename_i k;cases st with
       | false=>simp at hl
       | true =>
        simp only[ADv]at hl;obtain⟨h1,f⟩:=J.get hl;obtain⟨D,H⟩:=lN f z;have ao:off=CF fs k:=by
         simp only[Pg,hl]at A;cases v<;>simp only[Lj,AEm,List.isEmpty_nil,ADv]at A<;>cases A<;>rfl
        subst ao;have:=Ej w hT D (B _ (CF fs k) (by rw[f.length]));exact⟨_,this,H⟩
      rename_i k r S;cases st with
      | false=>simp at hl
      | true =>
       simp only[ADv]at hl;split at hl
       .rename_i t d hk;simp only[OF]at hl;obtain⟨pv,ap,rfl⟩:=hl;simp only[Pg,hk,OF]at A;obtain⟨bb,an,rfl⟩:=A;obtain⟨h1,f⟩:=J.get hk;have f:B0 w (own O0 σ ρ) t _ d:=f;obtain⟨V,E⟩:=VP ap an f;simp only[AV.cells]at h1 E;rw[p8 _ _ _ _ _ V]at E;simp only[CT,Do]at z;have N:=E.length;have:=Ej w hT (by rw[z];exact N) (B _ (CF fs k+bb) (by rw[N]));rw[z]at this;exact⟨_,this,_,E,rfl⟩
       cases hl
     cases h
 .rename_i n e i U off K M;cases K;cases M;obtain⟨W,g,m,c,q,al,rfl⟩:=hx;cases hn:lk n σ.objs with
  | none=>rw[hn]at h;simp[Ec]at h
  | some o =>
   rw[hn]at h;cases o with
   | box et st fs=>simp[Ec]at h
   | mapo k v l=>simp[Ec]at h
   | frame bc fs=>simp[Ec]at h
   | loop L=>simp[Ec]at h
   | itr ax ba ay az av=>simp[Ec]at h
   | dfr=>simp[Ec]at h
   | nest et aw k s xs hl =>
    cases hl with
    | some j=>simp[Ec]at h
    | none =>
     simp only[Ec]at h;split at h
     .rename_i ag;subst ag;obtain⟨o,ins,cells,p,Q⟩:=R n _ hn;have q:plc (ρ n)=_:=q;have am:plc (ρ n)=o:=p.plc;have C:=Q.own;rw[<-am,q]at C;obtain⟨rfl,B⟩:=YW C;have T:xs[i]?=some (xs.getD i (k.dflt,[])):=by grind
      have O:i<ins.length:=by rw[Q.len];exact al
      obtain⟨c1,v1,X,aa,D⟩:=Q.row i _ ins[i] T (AT O);rcases D with ⟨D,_⟩|⟨_,ab,H⟩
      .cases D
      have Z:c1.length=k.size:=aa.length;unfold OO at h;split at h
      .split at h
       .rename_i I;obtain⟨hty,rfl⟩:=I;cases h;have:=Ej (ad:=⟨g,i*(Ty.agg (.prod k (.slice s))).size+0,none⟩) w hT (by rw[hty];exact Z) (λj u a=>by
         rw[Jp];refine B _ _ (X j u ?_);rw[RZ (RF.1 a).1];exact a)
        rw[hty]at this;exact⟨rfl,_,this,c1,aa,rfl⟩
       cases h
      .split at h
       .rename_i I;obtain⟨hty,rfl⟩:=I;cases h;have:=Ej (ad:=⟨g,i*(Ty.agg (.prod k (.slice s))).size+k.size,none⟩) (cs:=[v1]) w hT (by rw[hty];rfl) (λj u a=>by
         have ak:j=0:=by have:=(RF.1 a).1;simpa using this
         subst ak;rw[Jp];refine B _ _ (X k.size u ?_);rw[RW (by omega),Z,AE5];exact a)
        rw[hty]at this;obtain⟨ae,af,ar⟩:=A1O ab H;exact⟨rfl,_,this,W,_,ae,af,ins[i],p.resolve_right (λh=>by rw[h.2.2]at O;simp at O),by simp[O],ab,ar⟩
       cases h
      cases h
     cases h
   | arr et s xs =>
    simp only[Ec]at h;cases F:BO (.slice e) ⟨.slice s,xs⟩ with
    | none=>rw[F]at h;simp[Iu]at h
    | some ys =>
     obtain⟨rfl,f⟩:=Bh F;cases f;rw[F]at h;simp only[Iu]at h;cases hp:UI U s (xs.getD i s.dflt) with
     | none=>rw[hp]at h;simp[It]at h
     | some pv =>
      rw[hp]at h;simp only[It]at h;split at h
      .rename_i I;obtain⟨hty,A⟩:=I;cases h;obtain⟨bg,cells,C,ah⟩:=R n _ hn;have q:plc (ρ n)=_:=q;have C:w.ownsRow 0 et s.size (ρ n) xs.length cells:=C;rw[HZ C]at q;rw[q]at C;obtain⟨rfl,B⟩:=YW C;have T:xs[i]?=some (xs.getD i s.dflt):=by grind
       obtain⟨G,Y,be,ai⟩:=ah i _ T;obtain⟨V,E⟩:=VP hp A ai;have N:=E.length;have:=Ej (ad:=⟨g,i*s.size+off,none⟩) w hT (by rw[hty];exact N) (λj u a=>by
        rw[Jp,AFv];rw[Sz,AAk]at a;split at a
        .grind
        cases a)
       rw[hty]at this;exact⟨rfl,_,this,_,E,rfl⟩
      cases h
 .rename_i u d K M;cases K;cases M;obtain⟨ad,cs,rfl,bd,F,S⟩:=hx;split at h
  .rename_i hty;cases h;have:=Ej w hT (by rw[hty];exact S.length) F;rw[hty]at this;exact⟨rfl,_,this,cs,S,rfl⟩
  cases h
 cases h
end
end
section
open Go Go.RowKit
section
variable {P:Program} {tb:Tb} {id:TypeId} {ti:TI} {w:World} {V:Vw} {vc:Prop} {v:AV} {obs:List (Nat×Obj)}
theorem lO {α:Type} {l:List α} {k:Nat} {x:α} (h:l[k]?=some x):x∈l:=oF h
theorem d7 (hT:EU P tb id ti) {u:Ty} (q:ti.ty=.agg u) (g:ti.el=0) {f k s:Nat} (hf:ti.offs[f]?=some (k,s)) (ad:Addr) (w:World) :
  (Instr.fieldAt id (.pointer (some ad)) f).run P w=.ok (.pointer (some (ad.add k))) w:=by
 obtain⟨⟨⟨o,_⟩,_⟩,a⟩:=hT;rw[q]at a;simp only at a;rcases a with ⟨fs,_,hu,p⟩|⟨n,e,i,m,_⟩
 .have b:(ti.offs.map some)[f]?=some (some (k,s)):=by simp[hf]
  rw[p]at b;simp only[gO,OF]at b;obtain⟨c,j,h⟩:=b;obtain⟨i,hi,d⟩:=h;cases d;have l:fs[f]?=some c:=by simpa using j
  have hs:i.size≠0:=o _ (lO hf);simp[Instr.fieldAt,RL hu,l,Instr.sureAddr,fieldPlace,sizeOf,Lt w hi,hs]
 exact absurd g m
theorem d8 (hT:EU P tb id ti) {u:Ty} (h:ti.ty=.agg u) (c:ti.el≠0) {k s:Nat} {z:Int} {kd:IntKind} (j:0<=z) (hf:ti.offs[z.toNat]?=some (k,s)) (ad:Addr) (w:World) :
  (Instr.indexAt id (.pointer (some ad)) (.int kd z)).run P w=.ok (.pointer (some (ad.add k))) w:=by
 obtain⟨_,a⟩:=hT;rw[h]at a;simp only at a;rcases a with ⟨fs,h0,_⟩|⟨n,e,i,_,hu,hi,g⟩
 .exact absurd h0 c
 rw[g]at hf;simp only[gO,OF]at hf;obtain⟨l,d,b⟩:=hf;cases b;obtain⟨h1,a⟩:=RF.1 d;simp only[AEO]at h1;simp only[AEt]at a;subst a;have f:z<(n:Int):=by omega
 simp[Instr.indexAt,asIntOf,RL hu,Instr.sureAddr,sizeOf,Lt w hi,j,f]
theorem A1W {f:Nat} {o:Option (Nat×Nat)} {x:AV} {xv:Value} {run:Value->Result Value} (y:∀k s ad,o=some (k,s)->run (.pointer (some ad))=.ok (.pointer (some (ad.add k))) w)
  (h:Ph f o x=some (vc,v,obs)) (hx:B3 V x xv):obs=[]/\∃u,run xv=.ok u w/\B3 V v u:=by
 unfold Ph at h;split at h
 .rename_i n F off;obtain⟨q,b,z,rfl⟩:=hx;cases o with
  | none=>simp[VJ]at h
  | some p =>
   obtain⟨k,s⟩:=p;simp only[VJ]at h;cases h;exact⟨rfl,_,y k s _ rfl,q,b,z,by rw[Jp]⟩
 .rename_i n e i F off;obtain⟨q,g,m,c,z,E,rfl⟩:=hx;cases o with
  | none=>simp[VJ]at h
  | some p =>
   obtain⟨k,s⟩:=p;simp only[VJ]at h;cases h;exact⟨rfl,_,y k s _ rfl,q,g,m,c,z,E,by rw[Jp,AFv]⟩
 .rename_i u d;obtain⟨ad,cs,rfl,C,D,t⟩:=hx;cases r:HI u f d with
  | none=>rw[r]at h;simp[Iv]at h
  | some pv =>
   rw[r]at h;simp only[Iv]at h;split at h
   .rename_i l;cases h;have t:B0 V.w V.O u cs d:=t;obtain⟨h1,H,A,G,B⟩:=Pq r t;rw[A]at l;cases o with
    | none=>simp at l
    | some p =>
     obtain⟨k,s⟩:=p;simp only[AEm,ADj]at l;subst l;refine⟨rfl,_,y k s _ rfl,ad.add k,_,rfl,by rw[CJ];exact C,λj u a=>?_,B⟩;rw[DQ];rw[Sz,AAk]at a;split at a
     .exact D _ _ a
     cases a
   cases h
 cases h
theorem A5s (hT:EU P tb id ti) {f:Nat} {x:AV} {xv:Value} (w:World)
  (h:HJ f (some ti) (some x)=some (vc,v,obs)) (hx:B3 V x xv):obs=[]/\∃u,(Instr.fieldAt id xv f).run P w=.ok u w/\B3 V v u:=by
 unfold HJ at h;split at h
 .rename_i u offs b e a c;cases a;cases c;exact A1W (run:=λxv=>(Instr.fieldAt id xv f).run P w) (λk s ad d=>d7 hT rfl rfl d ad w) h hx
 cases h
theorem TE {e:TypeId} (hu:P.underlying id=some (.slice e)) {size:Nat} (hs:(sizeOf e).run P w=.ok size w) (a:Addr) (n c:Nat) (k:IntKind) (i:Int) (h0:0<=i) (h1:i<n) :
  (Instr.indexAt id (.slice (some a) n c) (.int k i)).run P w=.ok (.pointer (some (a.add (i.toNat*size)))) w:=by
 simp[Instr.indexAt,asIntOf,RL hu,h0,h1,hs]
theorem ADI {e:Ty} {el:TypeId} (hu:P.underlying id=some (.slice el)) (hs:(sizeOf el).run P V.w=.ok e.size V.w) {l:List e.den} {kd:IntKind} {k:Int} {xv:Value}
  (hx:BR V.w V.O (.slice e) xv l) (n:0<=k) (o:k<(l.length:Int)) :
  ∃u,(Instr.indexAt id xv (.int kd k)).run P V.w=.ok u V.w/\B3 V (.ip e (l.getD k.toNat e.dflt)) u:=by
 obtain⟨cs,h,rfl⟩:=hx;obtain⟨a,c,rfl,h1,s,b⟩:=h;have p:k.toNat<l.length:=by omega
 rcases b with b|⟨ad,rfl,f,i⟩
 .subst b;simp at p
 refine⟨_,TE hu hs _ _ _ _ _ n o,?_⟩;have r:l[k.toNat]?=some (l.getD k.toNat e.dflt):=by grind
 obtain⟨d,t,g,q⟩:=i _ _ r;exact⟨_,d,rfl,by rw[CJ];exact f,λj u m=>by rw[DQ];exact g j u m,q⟩
theorem ADJ {e:Ty} {el:TypeId} (hu:P.underlying id=some (.slice el)) (hs:(sizeOf el).run P V.w=.ok e.size V.w) {n lo hi:Nat} {kd:IntKind} {k:Int} {xv:Value}
  (hx:B3 V (.sr n e lo hi) xv) (h:∀n,V.L n->∃o,A3 V o (V.ρ n)) (j:0<=k) (l:k<((hi-lo:Nat):Int)) :
  ∃u,(Instr.indexAt id xv (.int kd k)).run P V.w=.ok u V.w/\B3 V (.ep n e (lo+k.toNat) [] 0) u:=by
 obtain⟨b,a,m,c,f,z,y,s,t,rfl,x,h0,h1⟩:=hx;have p:lo<hi:=by omega
 have i:=h1 p;obtain⟨o,q⟩:=h n b;obtain⟨g,rfl⟩:∃g,a=some ⟨g,0,none⟩:=by
  obtain⟨_,_,cells,r,_⟩:=YV q f;rcases r.2 with ⟨d,hn⟩|⟨g,cap,v,d,_⟩
  .injection d;omega
  grind
 subst i;refine⟨_,TE hu hs _ _ _ _ _ j l,b,g,m,c,f,by omega,?_⟩;rw[DQ,dX,AF0];rfl
theorem BF {O:Nat->Prop} {w:World} {kd:IntKind} {k:Int} {v:Value} (h:BR w O (.int kd) v k):v=.int kd k/\KW kd k:=by
 obtain⟨cs,⟨rfl,h1⟩,rfl⟩:=h;exact⟨rfl,h1⟩
theorem BL {O:Nat->Prop} {w:World} {kd:IntKind} {k:Int} (h:KW kd k):BR w O (.int kd) (.int kd k) k:=⟨_,⟨rfl,h⟩,rfl⟩
theorem EL {O:Nat->Prop} {w:World} {b:Bool} {v:Value} (h:BR w O .bool v b):v=.bool b:=by
 obtain⟨cs,h1,rfl⟩:=h;have h1:cs=_:=h1;subst h1;rfl
theorem Bp {O:Nat->Prop} {w:World} (b:Bool):BR w O .bool (.bool b) b:=⟨[.bool b],rfl,rfl⟩
theorem Gv {O:Nat->Prop} {w:World} {s:ByteArray} {v:Value} (h:BR w O .str v s):v=.string s/\s.size<=AO:=by
 obtain⟨cs,⟨rfl,h1⟩,rfl⟩:=h;exact⟨rfl,h1⟩
theorem VR {O:Nat->Prop} {w:World} {s:ByteArray} (h:s.size<=AO):BR w O .str (.string s) s:=⟨_,⟨rfl,h⟩,rfl⟩
theorem CU {e:Ty} {offs:List (Nat×Nat)} {el:TypeId} {bytes:Nat} (hT:EU P tb id ⟨.slice e,offs,el,bytes⟩) (b:DH P tb) :
  P.underlying id=some (.slice el)/\(∀w,(sizeOf el).run P w=.ok e.size w)/\∃te,lk el tb.ty=some te/\te.ty=e:=by
 obtain⟨_,hu,te,a,rfl⟩:=hT;exact⟨hu,λw=>Hz w (b _ _ a),te,a,rfl⟩
theorem A5t (hT:EU P tb id ti) (j:DH P tb) {x y:AV} {xv m:Value}
  (h:Fm (some ti) (some x) (some y)=some (vc,v,obs)) (f:vc) (hx:B3 V x xv) (i:B3 V y m) (q:∀n,V.L n->∃o,A3 V o (V.ρ n)) :
  obs=[]/\∃u,(Instr.indexAt id xv m).run P V.w=.ok u V.w/\B3 V v u:=by
 unfold Fm at h;split at h
 .rename_i e offs el bytes p l kd k a c d;cases a;cases c;cases d;split at h
  .rename_i g;subst g;cases h;obtain⟨hu,hs,_⟩:=CU hT j;obtain⟨rfl,_⟩:=BF i;exact⟨rfl,ADI hu (hs _) hx f.1 f.2⟩
  cases h
 .rename_i e offs el bytes n p lo hi kd k a c d;cases a;cases c;cases d;split at h
  .rename_i g;subst g;cases h;obtain⟨hu,hs,_⟩:=CU hT j;obtain⟨rfl,_⟩:=BF i;exact⟨rfl,ADJ hu (hs _) hx q f.1 f.2⟩
  cases h
 .rename_i u offs el b z A a c d;cases a;cases c;cases d;unfold Kg at h;split at h
  .rename_i kd k;split at h
   .rename_i hk;obtain⟨rfl,_⟩:=BF i;exact A1W (run:=λxv=>(Instr.indexAt id xv (.int kd k)).run P V.w) (λt s ad r=>d8 hT rfl (by simp) hk r ad V.w) h hx
   cases h
  cases h
 cases h
theorem Kr {k:IntKind} {n:Int} (h:KW k n):k.wrap n=n:=by
 obtain⟨h1,a⟩:=h;cases k<;>simp[IntKind.min,IntKind.max,IntKind.signed,IntKind.bits]at h1 a<;>simp[IntKind.wrap,IntKind.signed,IntKind.bits]<;>omega
theorem M3 (k:IntKind) (n:Int):KW k (k.wrap n):=by
 cases k<;>simp only[KW,IntKind.min,IntKind.max,IntKind.wrap,IntKind.signed,IntKind.bits]<;>simp<;>omega
theorem A9a {op:BinOp} {t:TypeId} {k e:IntKind} {a b:Int} (w:World) (c:(bin op k a e b).1) (ha:KW k a) :
  ∃u,(binOp op t (.int k a) (.int e b)).run P w=.ok u w/\B3 V (bin op k a e b).2 u:=by
 unfold bin at c ⊢;split at c
 .have d:¬b<0:=by have h:0<=b:=c;omega
  exact⟨_,by simp[binOp,Op.shift,d];rfl,BL (M3 _ _)⟩
 .have d:¬b<0:=by have h:0<=b:=c.1;omega
  exact⟨_,by simp[binOp,Op.shift,d];rfl,BL c.2⟩
 split at c
 .rename_i f g hk;subst hk;cases op<;>simp only[lJ]at c ⊢;case add=>exact⟨.int k (a+b),by simp[binOp,Op.intArith,Kr c],BL c⟩
  case sub=>exact⟨.int k (a-b),by simp[binOp,Op.intArith,Kr c],BL c⟩
  case mul=>exact⟨.int k (a*b),by simp[binOp,Op.intArith,Kr c],BL c⟩
  case quo=>exact⟨.int k (a.tdiv b),by simp[binOp,Op.intDiv,c.1,Kr c.2],BL c.2⟩
  case rem=>exact⟨.int k (a.tmod b),by simp[binOp,Op.intDiv,c.1],BL c.2⟩
  case and=>exact⟨.int k (B6 .and k a b),by simp only[binOp,ne_eq,AEX,ADz,Op.intBits];rfl,BL (M3 _ _)⟩
  case or=>exact⟨.int k (B6 .or k a b),by simp only[binOp,ne_eq,AEX,ADz,Op.intBits];rfl,BL (M3 _ _)⟩
  case xor=>exact⟨.int k (B6 .xor k a b),by simp only[binOp,ne_eq,AEX,ADz,Op.intBits];rfl,BL (M3 _ _)⟩
  case andNot=>exact⟨.int k (B6 .andNot k a b),by simp only[binOp,ne_eq,AEX,ADz,Op.intBits];rfl,BL (M3 _ _)⟩
  case eql=>exact⟨.bool (a==b),by simp[binOp,Op.intCmp],Bp _⟩
  case neq=>exact⟨.bool (a != b),by simp[binOp,Op.intCmp],Bp _⟩
  case lss=>exact⟨.bool (decide (a<b)),by simp[binOp,Op.intCmp],Bp _⟩
  case leq=>exact⟨.bool (decide (a<=b)),by simp[binOp,Op.intCmp],Bp _⟩
  case gtr=>exact⟨.bool (decide (b<a)),by simp[binOp,Op.intCmp],Bp _⟩
  case geq=>exact⟨.bool (decide (b<=a)),by simp[binOp,Op.intCmp],Bp _⟩
 exact c.elim
theorem A5u {op:BinOp} {t:TypeId} {a b:ByteArray} (w:World) (c:(YD a b op).1) :
  ∃u,(binOp op t (.string a) (.string b)).run P w=.ok u w/\B3 V (YD a b op).2 u:=by
 cases op<;>simp only[YD]at c ⊢;case add =>
  have d:AO=140737488355328:=rfl;have hh:¬(((a.size+b.size:Nat):Int) > IntKind.i64.max):=by
   have:IntKind.i64.max=9223372036854775807:=by decide
   omega
  exact⟨.string (a++b),by simp only[binOp,Op.stringOp,As hh];rfl,VR (by simpa[AEu] using c)⟩
 case eql=>exact⟨.bool (Ac a b),by simp only[binOp,Op.stringOp];rfl,Bp _⟩
 case neq=>exact⟨.bool (!Ac a b),by simp only[binOp,Op.stringOp];rfl,Bp _⟩
 case lss=>exact⟨.bool (Cf a b),by simp only[binOp,Op.stringOp];rfl,Bp _⟩
 case leq=>exact⟨.bool (Cf a b||Ac a b),by simp only[binOp,Op.stringOp];rfl,Bp _⟩
 case gtr=>exact⟨.bool (!(Cf a b||Ac a b)),by simp only[binOp,Op.stringOp];rfl,Bp _⟩
 case geq=>exact⟨.bool (!Cf a b),by simp only[binOp,Op.stringOp];rfl,Bp _⟩
 all_goals exact c.elim
theorem AAn {op:BinOp} {t:TypeId} {ti:Option TI} (m:S7 ti=true->P.underlying t=some .bool) {x y:AV} {xv j:Value} (w:World)
  (h:Ri op ti (some x) (some y)=some (vc,v,obs)) (l:vc) (hx:B3 V x xv) (i:B3 V y j) :
  obs=[]/\(∀e f,(eqGuard op t e f xv j).run P w=.ok () w)/\∃u,(binOp op t xv j).run P w=.ok u w/\B3 V v u:=by
 unfold Ri at h;split at h
 .rename_i k a n b c d;cases c;cases d;cases h;obtain⟨rfl,ha⟩:=BF hx;obtain⟨rfl,_⟩:=BF i;refine⟨rfl,λe f=>?_,A9a w l ha⟩;cases op<;>simp[eqGuard]
 .rename_i a b c d;cases c;cases d;cases h;obtain⟨rfl,ha⟩:=Gv hx;obtain⟨rfl,_⟩:=Gv i;refine⟨rfl,λe f=>?_,A5u w l⟩;cases op<;>simp[eqGuard]
 .rename_i a b c d;cases c;cases d;have ha:=EL hx;have g:=EL i;subst ha g;split at h
  .rename_i g;have hu:=m g;cases op<;>simp only[lM]at h<;>cases h
   .exact⟨rfl,λe f=>by simp[eqGuard],.bool (a==b),by simp[binOp,run_equal_bool w t a b hu],Bp _⟩
   exact⟨rfl,λe f=>by simp[eqGuard],.bool (a != b),by simp[binOp,run_equal_bool w t a b hu,bne],Bp _⟩
  cases h
 cases h
theorem ADK {op:UnOp} {x:AV} {xv:Value} (w:World) (h:qUn op (some x)=some (vc,v,obs)) (c:vc) (hx:B3 V x xv) :
  obs=[]/\∃u,(Op.unary op xv).run P w=.ok u w/\B3 V v u:=by
 unfold qUn at h;split at h
 .rename_i b d;cases d;cases h;have:=EL hx;subst this;exact⟨rfl,.bool (!b),by simp[Op.unary],Bp _⟩
 .rename_i k a d;cases d;cases h;obtain⟨rfl,ha⟩:=BF hx;have c:KW k (0-a):=c;exact⟨rfl,_,by simp only[Op.unary,Op.intArith,Kr c];rfl,BL c⟩
 cases h
end
end
section
open Go Go.RowKit
section
variable {P:Program} {tb:Tb} {id:TypeId} {ti:TI} {w:World} {V:Vw} {vc:Prop} {v:AV} {obs:List (Nat×Obj)}
theorem lQ (l:List Int):(S8 l).size=l.length:=by
 show (S8 l).data.size=l.length;unfold S8;simp
theorem A9b (D:DH P tb) (E:V.w=w) {s t:TypeId} {z ti:TI} (hs:EU P tb s z) (r:EU P tb t ti) {x:AV} {xv:Value} (h:Js (some z) (some ti) (some x)=some (vc,v,obs)) (i:vc) (hx:B3 V x xv) :
  obs=[]/\∃u,(convert s t xv).run P w=.ok u w/\B3 V v u:=by
 unfold Js at h;split at h
 .rename_i O Q e1 b1 k R e2 b2 X a m n o;cases m;cases n;cases o;cases h;obtain⟨rfl,ha⟩:=BF hx;have i:KW k a:=i;have f:P.underlying s=some (.int O):=hs.2;have g:P.underlying t=some (.int k):=r.2;refine⟨rfl,.int k a,?_,BL i⟩;simp[convert,RL f,RL g,Conv.intToInt,Kr i]
 .rename_i Q e1 b1 R e2 b2 l m n o;cases m;cases n;cases o;cases h;obtain⟨f,te,L,hty⟩:=hs.2;have g:P.underlying t=some .string:=r.2;have y:P.underlying e1=some (.int .u8):=by
   have:=(D _ _ L).2;rw[hty]at this;exact this
  obtain⟨cs,⟨a,c,rfl,h1,B,d⟩,rfl⟩:=hx;have K:(S8 l).size<=AO:=by rw[lQ];exact B
  refine⟨rfl,.string (S8 l),?_,⟨[.string (S8 l)],⟨rfl,K⟩,rfl⟩⟩;have I:a=none->l=[]:=λe=>by grind
  cases a with
  | none =>
   have:=I rfl;subst this;show (convert s t (.slice none 0 c)).run P w=_;have A:S8 []=ByteArray.empty:=rfl;rw[A];simp[convert,RL f,RL g,RL y,Conv.bytesToString]
  | some ad =>
   have q:=run_convert_bytes_back (P:=P) w s t e1 ad c (l.map λx=>UInt8.ofNat x.toNat) f y g λj p=>by
    have b:j<List.length l:=by rw[OR]at p;exact p
    rcases d with d|⟨S,d,U,C⟩
    .rw[d]at b;cases b
    cases d;obtain⟨T,-,G,J⟩:=C j l[j] (AT b);obtain⟨rfl,H⟩:=J;have F:=G 0 (.int .u8 l[j]) rfl;rw[E]at F;obtain⟨M,N⟩:(0:Int)<=(l:List Int)[j]'b/\(l:List Int)[j]'b<=255:=by
     simpa[KW,IntKind.min,IntKind.max,IntKind.signed,IntKind.bits] using H
    have e:(((List.map (λx:Int=>UInt8.ofNat x.toNat) l)[j]'p).toNat:Int)=l[j]:=by
     rw[AEq,UInt8.toNat_ofNat'];have W:((l:List Int)[j]'b).toNat % 2 ^ 8=((l:List Int)[j]'b).toNat:=Nat.mod_eq_of_lt ((AFD M).2 (AFm N (by decide)));grind
    grind [Ty.size]
   rw[OR]at q;exact q
 cases h
theorem AAo (p:∀n,V.L n->∃o,A3 V o (V.ρ n)) {x:AV} {xv:Value} {t ty:TypeId} (hT:EU P tb t ti) (w:World) (h:UL (some ti) (some x)=some (vc,v,obs)) (hx:B3 V x xv) :
  obs=[]/\∃u,(Builtin.len_ #[t] ty #[xv]).run P w=.ok u w/\B3 V v u:=by
 have g:∀n:Nat,n<=AO->KW .i64 (n:Int):=λn hn=>by
  simp[KW,IntKind.min,IntKind.max,IntKind.signed,IntKind.bits];simp[AO]at hn;omega
 unfold UL at h;split at h
 .rename_i e o el b e2 l d f;cases d;cases f;cases h;obtain⟨cs,⟨a,c,rfl,h1,q,_⟩,rfl⟩:=hx;have hu:=hT.2.1;exact⟨rfl,.int .i64 (List.length l:Int),by simp[Builtin.len_,RL hu,goInt,Ty.wrap],BL (g _ q)⟩
 .rename_i e o el b n e2 lo hi d f;cases d;cases f;cases h;obtain⟨j,a,m,c,A,G,F,C,D,rfl,E,h0,h1⟩:=hx;have hu:=hT.2.1;obtain⟨B,k⟩:=p n j;obtain⟨_,_,_,_,this⟩:=YV k A;exact⟨rfl,.int .i64 ((hi-lo:Nat):Int),by simp[Builtin.len_,RL hu,goInt],BL (g _ (by omega))⟩
 .rename_i e o el b n e2 i len d f;cases d;cases f;cases h;obtain⟨j,I,a,c,H,z,y,r,rfl⟩:=hx;have hu:=hT.2.1;obtain⟨B,k⟩:=p n j;have:=A5m k z y r rfl;exact⟨rfl,.int .i64 (len:Int),by simp[Builtin.len_,RL hu,goInt],BL (g _ this)⟩
 .rename_i e o el b d f;cases d;cases f;cases h;have hx:xv=_:=hx;subst hx;have hu:=hT.2.1;exact⟨rfl,.int .i64 0,by simp[Builtin.len_,RL hu,goInt],BL (g 0 (by simp))⟩
 .rename_i o el b s d f;cases d;cases f;cases h;obtain⟨rfl,h1⟩:=Gv hx;have hu:P.underlying t=some .string:=hT.2;exact⟨rfl,.int .i64 (s.size:Int),by simp[Builtin.len_,RL hu,goInt],BL (g _ h1)⟩
 cases h
theorem zS {i:Nat} {x:AV} {xv:Value} (w:World) (h:Ed i (some x)=some (vc,v,obs)) (hx:B3 V x xv) :
  obs=[]/\∃u,(Instr.extract xv i).run P w=.ok u w/\B3 V v u:=by
 have get:∀(l:List AV) (a:List Value) (i:Nat) (y:AV),Hx V l a->l[i]?=some y->∃u,a[i]?=some u/\B3 V y u:=by
  intro l;induction l with
  | nil=>intro a i y _ h;simp at h
  | cons z r f =>
   intro a i y b h;obtain⟨u,g,rfl,h1,c⟩:=b;cases i with
   | zero =>
    simp at h;subst h;exact⟨u,rfl,A1N h1⟩
   | succ i=>exact f g i y c (by simpa using h)
 unfold Ed at h;split at h
 .rename_i l d;cases d;obtain⟨a,rfl,b⟩:=hx;cases hl:l[i]? with
  | none=>rw[hl]at h;simp[Gu]at h
  | some y =>
   rw[hl]at h;simp only[Gu]at h;cases h;obtain⟨u,hu,e⟩:=get l a i _ b hl;exact⟨rfl,u,by simp[Instr.extract,hu],e⟩
 cases h
theorem AAp {x y:AV} {xv d:Value} {ts:Array TypeId} {ty:TypeId} (w:World) (h:Rj (some x) (some y)=some (vc,v,obs)) (hx:B3 V x xv) (g:B3 V y d) :
  obs=[]/\∃u,(Builtin.min_ ts ty #[xv,d]).run P w=.ok u w/\B3 V v u:=by
 unfold Rj at h;split at h
 .rename_i k a i b e f;cases e;cases f;split at h
  .rename_i hk;subst hk;cases h;obtain⟨rfl,ha⟩:=BF hx;obtain⟨rfl,c⟩:=BF g;have ha:KW k a:=ha;have c:KW k b:=c;refine⟨rfl,.int k (if (b:Int)<a then b else a),by simp[Builtin.min_,Builtin.min2],BL ?_⟩;split
   .exact c
   exact ha
  cases h
 cases h
theorem A9c {x y z:AV} {xv f g:Value} {ts:Array TypeId} {ty:TypeId} (w:World) (h:Ix (some x) (some y) (some z)=some (vc,v,obs)) (hx:B3 V x xv) (o:B3 V y f) (p:B3 V z g) :
  obs=[]/\∃u,(Builtin.min_ ts ty #[xv,f,g]).run P w=.ok u w/\B3 V v u:=by
 unfold Ix at h;split at h
 .rename_i k a q b r c i j l;cases i;cases j;cases l;split at h
  .rename_i hk;obtain⟨m,n⟩:=hk;subst m;subst n;cases h;obtain⟨rfl,ha⟩:=BF hx;obtain⟨rfl,d⟩:=BF o;obtain⟨rfl,e⟩:=BF p;have ha:KW k a:=ha;have d:KW k b:=d;have e:KW k c:=e;refine⟨rfl,.int k (if (c:Int)<(if (b:Int)<a then b else a) then c else (if (b:Int)<a then b else a)),by simp[Builtin.min_,Builtin.min2],BL ?_⟩;by_cases e1:(b:Int)<a
   .grind
   grind
  cases h
 cases h
theorem AAq {x y:AV} {xv d:Value} {ts:Array TypeId} {ty:TypeId} (w:World) (h:Rk (some x) (some y)=some (vc,v,obs)) (hx:B3 V x xv) (g:B3 V y d) :
  obs=[]/\∃u,(Builtin.max_ ts ty #[xv,d]).run P w=.ok u w/\B3 V v u:=by
 unfold Rk at h;split at h
 .rename_i k a i b e f;cases e;cases f;split at h
  .rename_i hk;subst hk;cases h;obtain⟨rfl,ha⟩:=BF hx;obtain⟨rfl,c⟩:=BF g;have ha:KW k a:=ha;have c:KW k b:=c;refine⟨rfl,.int k (if (a:Int)<b then b else a),by simp[Builtin.max_,Builtin.max2],BL ?_⟩;split
   .exact c
   exact ha
  cases h
 cases h
theorem A9d {t:TypeId} (hu:P.underlying t=some .string) (w:World) {s:ByteArray} {kd:IntKind} {k:Int} (h0:0<=k) (h1:k<(s.size:Int)) :
  (Instr.index t (.string s) (.int kd k)).run P w=.ok (.int .u8 ((s.data.getD k.toNat 0).toNat:Int)) w/\KW .u8 ((s.data.getD k.toNat 0).toNat:Int):=by
 have a:k.toNat<s.size:=by omega
 have d:k.toNat<s.data.size:=a;have c:s[k.toNat]?=some (s.data.getD k.toNat 0):=by
  rw[getElem?_pos s k.toNat a];simp only[Array.getD,d,dite_true];rfl
 refine⟨by simp[Instr.index,asIntOf,RL hu,h0,c],?_⟩;generalize s.data.getD k.toNat 0=b;have:=b.toNat_lt;simp[KW,IntKind.min,IntKind.max,IntKind.signed,IntKind.bits];omega
theorem A1X {t:TypeId} {x y:AV} {xv c:Value} (hT:EU P tb t ti) (w:World) (h:EW (some ti) (some x) (some y)=some (vc,v,obs)) (a:vc) (hx:B3 V x xv) (i:B3 V y c) :
  obs=[]/\∃u,(Instr.index t xv c).run P w=.ok u w/\B3 V v u:=by
 unfold EW at h;split at h
 .rename_i o el b s kd k e f g;cases e;cases f;cases g;cases h;obtain⟨rfl,_⟩:=Gv hx;obtain⟨rfl,_⟩:=BF i;have hu:P.underlying t=some .string:=hT.2;obtain⟨h1,d⟩:=A9d (P:=P) hu w (kd:=kd) a.1 a.2;exact⟨rfl,_,h1,BL d⟩
 cases h
theorem AAr {x:AV} {xv:Value} (h:VK (some x)=some (vc,v,obs)) (hx:B3 V x xv):obs=[]/\(∃ad,xv=.pointer (some ad))/\B3 V v xv:=by
 unfold VK at h;split at h
 .rename_i a;cases a;cases h;obtain⟨d,b,e,rfl⟩:=hx;exact⟨rfl,⟨_,rfl⟩,d,b,e,rfl⟩
 .rename_i a;cases a;cases h;obtain⟨ad,cs,rfl,r⟩:=hx;exact⟨rfl,⟨_,rfl⟩,ad,cs,rfl,r⟩
 .rename_i a;cases a;cases h;obtain⟨d,g,m,c,e,f,rfl⟩:=hx;exact⟨rfl,⟨_,rfl⟩,d,g,m,c,e,f,rfl⟩
 cases h
end
end
section
open Go Go.RowKit
section
variable {P:Program} {tb:Tb} {id:TypeId} {ti:TI} {V:Vw} {vc:Prop} {v:AV} {obs:List (Nat×Obj)}
def FI (a:Option Addr) (c l sz:Nat):Option Addr:=if c=l then a else a.map (·.add (l*sz))
inductive p9:Option Value->Nat->Nat->Prop
 | none (d:Nat):p9 none d d
 | some (k:IntKind) (z:Int) (d:Nat) (h:0<=z):p9 (some (.int k z)) d z.toNat
theorem A1Y {el:TypeId} (hu:P.underlying id=some (.slice el)) {sz:Nat} (w:World) (hs:(sizeOf el).run P w=.ok sz w) {a:Option Addr} {n c l h:Nat} {lo hi:Option Value}
  (hl:p9 lo 0 l) (hh:p9 hi n h) (h1:l<=h) (i:h<=c) :
  (Instr.sliceAt id (.slice a n c) lo hi none).run P w=.ok (.slice (FI a c l sz) (h-l) (c-l)) w:=by
 cases hl with
 | none =>
  cases hh with
  | none=>simp[Instr.sliceAt,RL hu,Instr.slice,Instr.sliceBounds,hs,FI]
  | some k z _ b =>
   have e:z<=(c:Int):=by omega
   simp[Instr.sliceAt,RL hu,Instr.slice,Instr.sliceBounds,Instr.sliceBound,asIntOf,hs,FI,b,e]
 | some k z _ b =>
  cases hh with
  | none =>
   have e:z<=(n:Int):=by omega
   simp[Instr.sliceAt,RL hu,Instr.slice,Instr.sliceBounds,Instr.sliceBound,asIntOf,hs,FI,b,e]
  | some j d _ g =>
   have e:d<=(c:Int):=by omega
   have e2:max d 0=d:=by omega
   have f:z<=d:=by omega
   simp[Instr.sliceAt,RL hu,Instr.slice,Instr.sliceBounds,Instr.sliceBound,asIntOf,hs,FI,b,g,e,e2,f]
theorem A9e (hu:P.underlying id=some .string) (w:World) {s:ByteArray} {l h:Nat} {lo hi:Option Value} (hl:p9 lo 0 l) (hh:p9 hi s.size h) (h1:l<=h) (f:h<=s.size) :
  (Instr.sliceAt id (.string s) lo hi none).run P w=.ok (.string (s.extract l h)) w:=by
 cases hl with
 | none =>
  cases hh with
  | none=>simp[Instr.sliceAt,RL hu,Instr.slice,Instr.sliceBounds]
  | some k z _ a =>
   have e:z<=(s.size:Int):=by omega
   simp[Instr.sliceAt,RL hu,Instr.slice,Instr.sliceBounds,Instr.sliceBound,asIntOf,a,e]
 | some k z _ a =>
  cases hh with
  | none =>
   have e:z<=(s.size:Int):=by omega
   simp[Instr.sliceAt,RL hu,Instr.slice,Instr.sliceBounds,Instr.sliceBound,asIntOf,a,e]
  | some g b _ d =>
   have e:b<=(s.size:Int):=by omega
   have e2:max b 0=b:=by omega
   have c:z<=b:=by omega
   simp[Instr.sliceAt,RL hu,Instr.slice,Instr.sliceBounds,Instr.sliceBound,asIntOf,a,d,e,e2,c]
theorem A5v {e:Ty} {xs:List e.den} {a:Option Addr} {n c l h:Nat} (k:B0 V.w V.O (.slice e) [.slice a n c] xs) (h1:l<=h) (f:h<=xs.length) :
  BR V.w V.O (.slice e) (.slice (FI a c l e.size) (h-l) (c-l)) (sub xs l h)/\n=xs.length/\h<=c:=by
 obtain⟨m,o,d,p,q,b⟩:=k;injection d with d
 injection d with e1 e2 g
 subst e1;subst e2;subst g;have hl:=OT xs (lo:=l) f;refine⟨⟨_,⟨FI a c l e.size,c-l,by rw[hl],by rw[hl];omega,by rw[hl];omega,?_⟩,rfl⟩,rfl,by omega⟩;by_cases s:l<h
 .right;rcases b with b|⟨ad,rfl,j,r⟩
  .subst b;simp at f;omega
  refine⟨ad.add (l*e.size),?_,by rw[CJ];exact j,λi x hi=>?_⟩
  .grind [FI]
  obtain⟨hx,_⟩:=aB xs l h i hi;grind [DQ]
 simp_all
theorem A1Z {loc:Value} {sz b c0 l h:Nat} {a:Option Addr} {n c:Nat} (q:DT loc sz b c0 (.slice a n c)) (h1:l<=h) (v:h<=c0-b) :
  DT loc sz (b+l) (b+h) (.slice (FI a c l sz) (h-l) (c-l))/\n=c0-b/\h<=c:=by
 obtain⟨d,m,e,o,w,y,t,u,r,x,g,i⟩:=q;injection r with e1 e2 f
 subst e1;subst e2;subst f;refine⟨⟨d,m,e,o,by omega,by omega,FI a c l sz,c-l,by rw[show b+h-(b+l)=h-l by omega],by omega,λA=>?_,λz=>?_⟩,rfl,by omega⟩
 .have j:b=0:=by omega
  have k:l=0:=by omega
  subst j;subst k;obtain⟨s,B⟩:=g rfl;refine⟨?_,by omega⟩;rw[<-s];unfold FI;split
  .rfl
  simp only[AFA];cases a<;>rfl
 have:=i (by omega);subst this;have p:¬c=l:=by omega
 simp only[FI,As p,Option.map_map]
 congr 1
 grind [DQ]
theorem UM (s:ByteArray) (l h:Nat):(s.extract l h).size<=s.size:=by
 simp only[ByteArray.size_extract];omega
theorem VS (hT:EU P tb id ti) (k:DH P tb) {e:Ty} (f:ti.ty=.slice e) {l:List e.den} {xv:Value} {lo hi:Option Value} {a h:Nat}
  (hx:BR V.w V.O (.slice e) xv l) (hl:p9 lo 0 a) (hh:p9 hi l.length h) (h1:a<=h) (g:h<=l.length) :
  ∃u,(Instr.sliceAt id xv lo hi none).run P V.w=.ok u V.w/\B3 V (.p (.slice e) (sub l a h)) u:=by
 obtain⟨ty,offs,el,bytes⟩:=ti;simp only at f;subst f;obtain⟨hu,hs,_⟩:=CU hT k;obtain⟨cs,b,rfl⟩:=hx;obtain⟨d,c,rfl,r⟩:=b;have b:B0 V.w V.O (.slice e) [.slice d l.length c] l:=⟨d,c,rfl,r⟩;obtain⟨i,_,j⟩:=A5v b h1 g;exact⟨_,A1Y hu _ (hs _) hl hh h1 j,i⟩
theorem VT (hT:EU P tb id ti) (k:DH P tb) {n b c0:Nat} {e:Ty} (c:ti.ty=.slice e) {xv:Value} {lo hi:Option Value} {a h:Nat}
  (hx:B3 V (.sr n e b c0) xv) (hl:p9 lo 0 a) (hh:p9 hi (c0-b) h) (h1:a<=h) (f:h<=c0-b) :
  ∃u,(Instr.sliceAt id xv lo hi none).run P V.w=.ok u V.w/\B3 V (.sr n e (b+a) (b+h)) u:=by
 obtain⟨ty,offs,el,bytes⟩:=ti;simp only at c;subst c;obtain⟨hu,hs,_⟩:=CU hT k;obtain⟨j,d⟩:=hx;have l:=d;obtain⟨_,_,_,_,_,_,m,o,rfl,_⟩:=l;obtain⟨g,p,i⟩:=A1Z d h1 f;exact⟨_,A1Y hu _ (hs _) hl hh h1 i,j,g⟩
theorem VU (hT:EU P tb id ti) (c:ti.ty=.str) {s:ByteArray} {xv:Value} {lo hi:Option Value} {a h:Nat}
  (hx:BR V.w V.O .str xv s) (hl:p9 lo 0 a) (hh:p9 hi s.size h) (h1:a<=h) (b:h<=s.size) :
  ∃u,(Instr.sliceAt id xv lo hi none).run P V.w=.ok u V.w/\B3 V (.p .str (s.extract a h)) u:=by
 obtain⟨rfl,d⟩:=Gv hx;have hu:=hT.2;rw[c]at hu;exact⟨_,A9e hu _ hl hh h1 b,VR (RG (UM s a h) d)⟩
theorem JY {z:Int} {n:Nat} (_h:0<=z) (a:z<=(n:Int)):z.toNat<=n:=by omega
theorem aG {a b:Int} (h:a<=b):a.toNat<=b.toNat:=by omega
def d9:Option AV->Option Value->Prop
 | none,none=>True
 | some x,some v=>B3 V x v
 | _,_=>False
theorem A20 (hT:EU P tb id ti) (j:DH P tb) {x ha i:AV} {xv f g:Value} (h:Dr (some ti) (some x) (some ha) (some i)=some (vc,v,obs)) (z:vc) (hx:B3 V x xv) (hh:B3 V ha f) (s:B3 V i g) :
  obs=[]/\∃u,(Instr.sliceAt id xv none (some f) (some g)).run P V.w=.ok u V.w/\B3 V v u:=by
 unfold Dr at h;split at h
 .rename_i e offs el bytes C l A a B b k m n o;cases k;cases m;cases n;cases o;split at h
  .rename_i p;subst p;cases h;obtain⟨hu,hs,_⟩:=CU hT j;obtain⟨rfl,rfl⟩:=z;obtain⟨rfl,_⟩:=BF (hh:BR V.w V.O (.int A) f _);obtain⟨rfl,_⟩:=BF (s:BR V.w V.O (.int B) g _);obtain⟨cs,y,rfl⟩:=(hx:BR V.w V.O (.slice e) xv l);obtain⟨d,c,rfl,r,t,q⟩:=y;refine⟨rfl,.slice d (List.length l) (List.length l),?_,⟨_,⟨d,_,rfl,If _,t,q⟩,rfl⟩,d,rfl⟩;have e1:((List.length l:Nat):Int)<=(c:Int):=by omega
   have e2:(0:Int)<=((List.length l:Nat):Int):=by omega
   simp[Ty.wrap,Instr.sliceAt,RL hu,Instr.slice,Instr.sliceBounds,Instr.sliceBound,asIntOf,hs V.w,e1,e2,Addr.add];intro D;exact absurd r (by omega)
  cases h
 cases h
theorem A5w (hT:EU P tb id ti) (i:DH P tb) {x:AV} {xv:Value} {lo hi:Option AV} {C B:Option Value}
  (h:FJ (some ti) (some x) (some lo) (some hi)=some (vc,v,obs)) (a:vc) (hx:B3 V x xv) (f:d9 (V:=V) lo C) (c:d9 (V:=V) hi B) :
  obs=[]/\∃u,(Instr.sliceAt id xv C B none).run P V.w=.ok u V.w/\B3 V v u:=by
 have g:∀ {o:Option Value} (d:Nat),d9 (V:=V) none o->p9 o d d:=λ{o} d h=>by
  cases o with
  | none=>exact .none d
  | some v=>exact h.elim
 have b1:∀ {o:Option Value} {k:IntKind} {z:Int} (d:Nat),d9 (V:=V) (some (.p (.int k) z)) o->0<=z->p9 o d z.toNat:=λ{o k z} d h E=>by
  cases o with
  | none=>exact h.elim
  | some v =>
   obtain⟨rfl,_⟩:=BF (h:BR V.w V.O (.int k) v z);exact .some k z d E
 unfold FJ at h;split at h
 .rename_i e offs el bytes D l A h0 m q r t;cases m;cases q;cases r;cases t;split at h
  .rename_i y;subst y;have hx:BR V.w V.O (.slice e) xv l:=hx;unfold Hs at h;split at h<;>first|(cases h;done)|(rename_i j;cases j<;>cases h)
   .exact⟨rfl,VS hT i rfl hx (g 0 f) (b1 _ c a.1) (NO _) (JY a.1 a.2)⟩
   .exact⟨rfl,VS hT i rfl hx (b1 0 f a.1) (g _ c) (JY a.1 a.2) (If _)⟩
   exact⟨rfl,VS hT i rfl hx (b1 0 f a.1) (b1 _ c (ADL a.1 a.2.1)) (aG a.2.1) (JY (ADL a.1 a.2.1) a.2.2)⟩
  cases h
 .rename_i e offs el bytes n D b c0 A h0 m q r t;cases m;cases q;cases r;cases t;split at h
  .rename_i y;subst y;unfold Hs at h;split at h<;>first|(cases h;done)|(rename_i j;cases j<;>cases h)
   .refine⟨rfl,?_⟩;have:=VT (P:=P) hT i rfl hx (g 0 f) (b1 _ c a.1) (NO _) (JY a.1 a.2);simpa using this
   .refine⟨rfl,?_⟩;have:=VT (P:=P) hT i rfl hx (b1 0 f a.1) (g _ c) (JY a.1 a.2) (If _);have G:=JY a.1 a.2;obtain⟨_,_,_,_,_,F,_⟩:=hx;grind
   exact⟨rfl,VT hT i rfl hx (b1 0 f a.1) (b1 _ c (ADL a.1 a.2.1)) (aG a.2.1) (JY (ADL a.1 a.2.1) a.2.2)⟩
  cases h
 .rename_i offs el bytes s A h0 m q r t;cases m;cases q;cases r;cases t;have hx:BR V.w V.O .str xv s:=hx;unfold Hs at h;split at h<;>first|(cases h;done)|(rename_i j;cases j<;>cases h)
  .exact⟨rfl,VU hT rfl hx (g 0 f) (b1 _ c a.1) (NO _) (JY a.1 a.2)⟩
  .exact⟨rfl,VU hT rfl hx (b1 0 f a.1) (g _ c) (JY a.1 a.2) (If _)⟩
  exact⟨rfl,VU hT rfl hx (b1 0 f a.1) (b1 _ c (ADL a.1 a.2.1)) (aG a.2.1) (JY (ADL a.1 a.2.1) a.2.2)⟩
 cases h
end
end
end Go.Proofs.YtapkhdkbkodbjaaGreat.Fw
