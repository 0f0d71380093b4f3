/- The executor's quiet operations are sound, first part. -/
import Derived.Test.YtapkhdkbkodbjaaGreatBZA
import Derived.Laws.IdiomStrings
set_option linter.unusedVariables false
set_option linter.unusedSimpArgs false
namespace Go.Proofs.YtapkhdkbkodbjaaGreat.Fw
section
open Go Go.RowKit
theorem Pj {w:World} {O:Nat->Prop}:∀ {t:Ty} {k:Nat} {d:t.den} {pv:PV} {cs:List Value},Gt t k d=some pv->Bv w O t cs d ->
  b5 t k=some pv.t/\∃o,KD t k=some o/\o+pv.t.size<=t.size/\Bv w O pv.t ((cs.drop o).take pv.t.size) pv.d
 | .prod a b,0,d,pv,cs,h,c=>by
  simp only[Gt]at h;cases h;obtain⟨c1,c2,rfl,h1,f⟩:=c;refine⟨rfl,0,rfl,by simp[Ty.size],?_⟩;have e:=h1.length;simp only[UR,<-e,List.take_left];exact h1
 | .prod a b,k+1,d,pv,cs,h,c=>by
  simp only[Gt]at h;obtain⟨c1,c2,rfl,h1,f⟩:=c;obtain⟨g,o,i,l,j⟩:=Pj h f;refine⟨g,a.size+o,by simp[KD,i],by simp[Ty.size];omega,?_⟩;have e:=h1.length;rw[<-e,<-ADj,AA3];exact j
 | .int _,0,d,pv,cs,h,c=>by
  simp only[Gt]at h;cases h;refine⟨rfl,0,rfl,by simp,?_⟩;have e:=c.length;simp only[UR,<-e,Tl];exact c
 | .bool,0,d,pv,cs,h,c=>by
  simp only[Gt]at h;cases h;refine⟨rfl,0,rfl,by simp,?_⟩;have e:=c.length;simp only[UR,<-e,Tl];exact c
 | .str,0,d,pv,cs,h,c=>by
  simp only[Gt]at h;cases h;refine⟨rfl,0,rfl,by simp,?_⟩;have e:=c.length;simp only[UR,<-e,Tl];exact c
 | .slice _,0,d,pv,cs,h,c=>by
  simp only[Gt]at h;cases h;refine⟨rfl,0,rfl,by simp,?_⟩;have e:=c.length;simp only[UR,<-e,Tl];exact c
 | .ref _,0,d,pv,cs,h,c=>by
  simp only[Gt]at h;cases h;refine⟨rfl,0,rfl,by simp,?_⟩;have e:=c.length;simp only[UR,<-e,Tl];exact c
 | .ref _,_+1,d,pv,cs,h,c=>by simp[Gt]at h
 | .agg _,0,d,pv,cs,h,c=>by
  simp only[Gt]at h;cases h;refine⟨rfl,0,rfl,by simp,?_⟩;have e:=c.length;simp only[UR,<-e,Tl];exact c
 | .int _,_+1,d,pv,cs,h,c=>by simp[Gt]at h
 | .bool,_+1,d,pv,cs,h,c=>by simp[Gt]at h
 | .str,_+1,d,pv,cs,h,c=>by simp[Gt]at h
 | .slice _,_+1,d,pv,cs,h,c=>by simp[Gt]at h
 | .agg _,_+1,d,pv,cs,h,c=>by simp[Gt]at h
theorem rD {α:Type} (cs:List α) (o m a n:Nat) (h:a+n<=m):(((cs.drop o).take m).drop a).take n=(cs.drop (o+a)).take n:=by
 rw[List.drop_take,List.take_take,ADj]
 congr 1
 omega
theorem Vq {w:World} {O:Nat->Prop}:∀ {f:List Nat} {t:Ty} {d:t.den} {pv:PV} {cs:List Value} {off:Nat},TR f t d=some pv->LS f t=some off->Bv w O t cs d ->
  off+pv.t.size<=t.size/\Bv w O pv.t ((cs.drop off).take pv.t.size) pv.d
 | [],t,d,pv,cs,off,h,a,b=>by
  simp only[TR]at h;simp only[LS]at a;cases h;cases a;have e:=b.length;simp only[UR,<-e,Tl];exact⟨by simp[e],b⟩
 | k :: r,t,d,pv,cs,off,h,a,b=>by
  cases t<;>simp only[TR,LS]at h a<;>try(cases h;done)
  rename_i t;split at h
  .rename_i p hp;have b:Bv w O t cs d:=b;obtain⟨h1,o,g,m,i⟩:=Pj hp b;rw[h1,g]at a;simp only[No]at a;obtain⟨n,l,rfl⟩:=a;obtain⟨j,c⟩:=Vq h l i;refine⟨by simp only[Ty.size];omega,?_⟩;rw[rD _ _ _ _ _ j]at c;exact c
  cases h
def Ay {α:Type} (cs:List α) (o:Nat) (a:List α):List α:=cs.take o++a++cs.drop (o+a.length)
theorem E2 {α:Type} {cs:List α} {o:Nat} {a:List α} (h:o+a.length<=cs.length):(Ay cs o a).length=cs.length:=by
 simp[Ay];omega
theorem Df {α:Type} {cs a:List α} (h:a.length=cs.length):Ay cs 0 a=a:=by
 simp[Ay,h]
theorem Pk {α:Type} (a b:List α) (o:Nat) (c:List α):Ay (a++b) (a.length+o) c=a++Ay b o c:=by
 simp only[Ay,List.take_append,AEl,Tt];have h1:List.take (a.length+o) a=a:=At (by omega);have d:List.drop (a.length+o+c.length) a=[]:=On (by omega);have e:a.length+o-a.length=o:=by omega
 have f:a.length+o+c.length-a.length=o+c.length:=by omega
 rw[h1,d,e,f];simp
theorem Sa {α:Type} (a b:List α) (c:List α) (h:c.length=a.length):Ay (a++b) 0 c=c++b:=by
 simp[Ay,h]
theorem gD {w:World} {O:Nat->Prop}:∀ {t:Ty} {k:Nat} {d i:t.den} {pv:PV} {cs g:List Value} {o:Nat},NU t k d pv=some i->KD t k=some o->Bv w O t cs d->Bv w O pv.t g pv.d ->
  Bv w O t (Ay cs o g) i/\b5 t k=some pv.t
 | .prod a b,0,d,i,pv,cs,g,o,h,c,f,e=>by
  simp only[NU,No]at h;obtain⟨y,l,rfl⟩:=h;have:=A6 l;subst this;simp only[KD]at c;cases c;obtain⟨c1,c2,rfl,h1,j⟩:=f;rw[Sa _ _ _ (by rw[e.length,h1.length])];exact⟨⟨g,c2,rfl,e,j⟩,rfl⟩
 | .prod a b,k+1,d,i,pv,cs,g,o,h,c,f,e=>by
  simp only[NU,No]at h;obtain⟨y,l,rfl⟩:=h;simp only[KD,No]at c;obtain⟨q,p,rfl⟩:=c;obtain⟨c1,c2,rfl,h1,j⟩:=f;obtain⟨m,n⟩:=gD l p j e;rw[<-h1.length,Pk];exact⟨⟨c1,_,rfl,h1,m⟩,n⟩
 | .int _,0,d,i,pv,cs,g,o,h,c,f,e=>by
  have:=A6 h;subst this;simp only[KD]at c;cases c;rw[Df (by rw[e.length,f.length])];exact⟨e,rfl⟩
 | .bool,0,d,i,pv,cs,g,o,h,c,f,e=>by
  have:=A6 h;subst this;simp only[KD]at c;cases c;rw[Df (by rw[e.length,f.length])];exact⟨e,rfl⟩
 | .str,0,d,i,pv,cs,g,o,h,c,f,e=>by
  have:=A6 h;subst this;simp only[KD]at c;cases c;rw[Df (by rw[e.length,f.length])];exact⟨e,rfl⟩
 | .slice _,0,d,i,pv,cs,g,o,h,c,f,e=>by
  have:=A6 h;subst this;simp only[KD]at c;cases c;rw[Df (by rw[e.length,f.length])];exact⟨e,rfl⟩
 | .ref _,0,d,i,pv,cs,g,o,h,c,f,e=>by
  have:=A6 h;subst this;simp only[KD]at c;cases c;rw[Df (by rw[e.length,f.length])];exact⟨e,rfl⟩
 | .ref _,_+1,d,i,pv,cs,g,o,h,c,f,e=>by simp[NU]at h
 | .agg _,0,d,i,pv,cs,g,o,h,c,f,e=>by
  have:=A6 h;subst this;simp only[KD]at c;cases c;rw[Df (by rw[e.length,f.length])];exact⟨e,rfl⟩
 | .int _,_+1,d,i,pv,cs,g,o,h,c,f,e=>by simp[NU]at h
 | .bool,_+1,d,i,pv,cs,g,o,h,c,f,e=>by simp[NU]at h
 | .str,_+1,d,i,pv,cs,g,o,h,c,f,e=>by simp[NU]at h
 | .slice _,_+1,d,i,pv,cs,g,o,h,c,f,e=>by simp[NU]at h
 | .agg _,_+1,d,i,pv,cs,g,o,h,c,f,e=>by simp[NU]at h
theorem Nj {α:Type} (cs:List α) (o m a:Nat) (b:List α) (h:a+b.length<=m) (i:o+m<=cs.length) :
  Ay cs o (Ay ((cs.drop o).take m) a b)=Ay cs (o+a) b:=by
 apply ADN;intro j;have c:(Ay ((cs.drop o).take m) a b).length=m:=by rw[E2]<;>simp<;>omega
 simp only[Ay]at c ⊢;rw[c];simp only[Ui,A0,OR,UL,UE,Uk];have d:min o cs.length=o:=by omega
 have e:min m (cs.length-o)=m:=by omega
 have f:min a m=a:=by omega
 have g:min (o+a) cs.length=o+a:=by omega
 rw[d,e,f,g];by_cases c1:j<o
 .grind
 grind
theorem Vr {w:World} {O:Nat->Prop}:∀ {l:List Nat} {t:Ty} {d f:t.den} {pv:PV} {cs c:List Value} {off:Nat},Vj l t d pv=some f->LS l t=some off->Bv w O t cs d->Bv w O pv.t c pv.d ->
  Bv w O t (Ay cs off c) f/\off+c.length<=cs.length
 | [],t,d,f,pv,cs,c,off,h,b,a,e=>by
  have:=A6 h;subst this;simp only[LS]at b;cases b;rw[Df (by rw[e.length,a.length])];exact⟨e,by simp[e.length,a.length]⟩
 | k :: r,t,d,f,pv,cs,c,off,h,b,a,e=>by
  cases t<;>simp only[Vj,LS]at h b<;>try(cases h;done)
  rename_i t;have a:Bv w O t cs d:=a;split at h
  .rename_i p hp;obtain⟨h1,o,g,v,m⟩:=Pj hp a;rw[h1,g]at b;simp only[No]at b;obtain⟨z,s,rfl⟩:=b;split at h
   .rename_i y u;obtain⟨n,i⟩:=Vr u s m e;have x:=a.length;have q:((cs.drop o).take p.t.size).length=p.t.size:=by simp;omega
    rw[q]at i;obtain⟨j,_⟩:=gD (pv:=⟨p.t,y⟩) h g a n;rw[Nj _ _ _ _ _ i (by omega)]at j;exact⟨j,by omega⟩
   cases h
  cases h
end
section
open Go Go.RowKit
section
variable {V:Vw}
theorem NV.length {x:AV} {cs:List Value} (h:NV V x cs):cs.length=x.cells:=by
 cases x;case p t d=>exact Bv.length (show Bv V.w V.O t cs d from h)
 case ag l=>obtain⟨v,_,_,hf⟩:=h;exact hf.elim
 case tup l=>obtain⟨v,_,_,hf⟩:=h;exact hf.elim
 all_goals(obtain⟨v,rfl,_⟩:=h;rfl)
theorem NV.one {x:AV} {cs:List Value} (h:NV V x cs):∀u∈cs,u.oneCell'=true:=by
 cases x;case p t d=>exact Bv.one (show Bv V.w V.O t cs d from h)
 all_goals(obtain⟨v,rfl,h1,_⟩:=h;intro u hu;simp at hu;subst hu;exact h1)
theorem DQ.one:∀ {l:List AV} {cs:List Value},DQ V l cs->∀u∈cs,u.oneCell'=true
 | [],cs,h=>by have h:cs=[]:=h;subst h;simp
 | x :: r,cs,h=>by
  obtain⟨c1,c2,rfl,h1,a⟩:=h;intro u hu;rcases IF.1 hu with hu|hu
  .exact h1.one u hu
  exact a.one u hu
theorem DQ.length:∀ {l:List AV} {cs:List Value},DQ V l cs->cs.length=CA l l.length
 | [],cs,h=>by have h:cs=[]:=h;subst h;rfl
 | x :: r,cs,h=>by
  obtain⟨c1,c2,rfl,h1,a⟩:=h;simp only[A0,OS,CA];rw[h1.length,a.length]
theorem DQ.get:∀ {l:List AV} {cs:List Value} {k:Nat} {x:AV},DQ V l cs->l[k]?=some x ->
  CA l k+x.cells<=cs.length/\NV V x ((cs.drop (CA l k)).take x.cells)
 | [],cs,k,x,h,hk=>by simp at hk
 | y :: r,cs,0,x,h,hk=>by
  obtain⟨c1,c2,rfl,h1,a⟩:=h;simp at hk;subst hk;have:=h1.length;grind [CA]
 | y :: r,cs,k+1,x,h,hk=>by
  obtain⟨c1,c2,rfl,h1,a⟩:=h;have hk:r[k]?=some x:=by simpa using hk
  obtain⟨c,b⟩:=DQ.get a hk;have:=h1.length;refine⟨by simp only[CA,A0];omega,?_⟩;simp only[CA,<-this];rw[<-ADj,AA3];exact b
theorem DQ.set:∀ {l:List AV} {cs:List Value} {k:Nat} {x y:AV} {a:List Value},DQ V l cs->l[k]?=some x->NV V y a->y.cells=x.cells ->
  DQ V (l.set k y) (Ay cs (CA l k) a)
 | [],cs,k,x,y,a,h,hk,b,c=>by simp at hk
 | z :: r,cs,0,x,y,a,h,hk,b,c=>by
  obtain⟨c1,c2,rfl,h1,d⟩:=h;simp at hk;subst hk;simp only[CA,ADp];rw[Sa _ _ _ (by rw[b.length,h1.length,c])];exact⟨a,c2,rfl,b,d⟩
 | z :: r,cs,k+1,x,y,a,h,hk,b,c=>by
  obtain⟨c1,c2,rfl,h1,d⟩:=h;have hk:r[k]?=some x:=by simpa using hk
  have:=h1.length;simp only[CA,AE1,<-this];rw[Pk];exact⟨c1,_,rfl,h1,DQ.set d hk b c⟩
theorem mY {ty:Ty} {x:AV} {b:List Value} (a:NV V x b) (hf:CS ty x=true):b.length=ty.size/\Bz V x (ty.wrap b):=by
 cases x;case p t d =>
  simp only[CS,DO]at hf;subst hf;have a:Bv V.w V.O ty b d:=a;exact⟨Bv.length a,b,a,rfl⟩
 case ag l=>obtain⟨v,_,_,hf⟩:=a;exact hf.elim
 case tup l=>obtain⟨v,_,_,hf⟩:=a;exact hf.elim
 all_goals
  obtain⟨v,rfl,_,h1⟩:=a;have c:ty.cell1=true:=by simp only[CS]at hf;first|exact hf|(simp only[An]at hf;exact hf.2)|exact absurd hf (by decide)
  cases ty<;>first|(cases c;done)|exact⟨rfl,h1⟩
theorem A25 {ty:Ty} {x:AV} {v:Value} (i:Bz V x v) (hf:CS ty x=true) (o:ty.cell1=true->v.oneCell'=true):v.cells.size=ty.size/\((∀l,x≠.ag l)->NV V x v.cells.toList):=by
 cases x;case p t d =>
  simp only[CS,DO]at hf;subst hf;obtain⟨cs,f,rfl⟩:=i;have g:=f.length;cases ty;case agg t=>exact⟨by simpa[Ty.wrap,Value.cells] using g,λ_=>by simpa[Ty.wrap,Value.cells,NV] using f⟩
  case prod a b=>exact⟨by simpa[Ty.wrap,Value.cells] using g,λ_=>by simpa[Ty.wrap,Value.cells,NV] using f⟩
  case slice e =>
   obtain⟨a,c,rfl,h⟩:=f;exact⟨rfl,λ_=>⟨a,c,rfl,h⟩⟩
  case int k =>
   obtain⟨rfl,h⟩:=f;exact⟨rfl,λ_=>⟨rfl,h⟩⟩
  case bool =>
   have f:cs=_:=f;subst f;exact⟨rfl,λ_=>rfl⟩
  case str =>
   obtain⟨rfl,h⟩:=f;exact⟨rfl,λ_=>⟨rfl,h⟩⟩
  case ref k =>
   have f:cs=[LP k]:=f;subst f;have q:(Ty.ref k).wrap [LP k]=LP k:=rfl;rw[q];match k with
   | 0=>exact⟨rfl,λ_=>rfl⟩
   | 1=>exact⟨rfl,λ_=>rfl⟩
   | _+2=>exact⟨rfl,λ_=>rfl⟩
 case ag l =>
  obtain⟨cs,rfl,n⟩:=i;have g:=n.length;cases ty<;>simp only[CS]at hf<;>try(cases hf;done)
  rename_i t;simp only[UP]at hf;exact⟨by simp[Value.cells,Ty.size,g,hf],λh=>absurd rfl (h l)⟩
 case tup l=>simp[CS]at hf
 all_goals
  have h1:ty.cell1=true:=by simp only[CS]at hf;first|exact hf|(simp only[An]at hf;exact hf.2)|exact absurd hf (by decide)
  have j:v.oneCell'=true:=o h1;have m:v.cells=#[v]:=by cases v<;>first|rfl|simp[Value.oneCell']at j
  have hs:ty.size=1:=by cases ty<;>simp[Ty.cell1]at h1<;>rfl
  rw[m];exact⟨by simp[hs],λ_=>⟨v,rfl,j,i⟩⟩
end
end
section
open Go Go.RowKit
section
variable {P:Program} {tb:Tb} {id:TypeId} {ti:TI} {w:World} {O0:Nat->Prop} {σ:St} {ρ:Nat->Value} {vc:Prop} {v:AV} {obs:List (Nat×Obj)}
theorem ZP {w:World} {base:Nat} {et:TypeId} {size:Nat} {g m c n:Nat} {cells:List Value} (h:w.ownsRow base et size (.slice (some ⟨g,0,none⟩) m c) n cells) :
  m=n/\∀(j:Nat) (u:Value),cells[j]?=some u->w.cell? ⟨g,j,none⟩=some u:=by
 constructor
 .rcases h.2 with ⟨a,_⟩|⟨e,cap,d,a,_⟩
  .injection a with h1;cases h1
  injection a
 intro j u b;have:=h.cells (g:=g) rfl j u b
 rwa [f7]at this
theorem A26 (hT:D8 P tb id ti) (T:∀n o,lk n σ.objs=some o->A1 (vw w O0 σ ρ) o (ρ n)) {x:AV} {xv:Value}
  (h:JY σ (some ti) (some x)=some (vc,v,obs)) (V:Bz (vw w O0 σ ρ) x xv):obs=[]/\∃u,(Instr.loadAt id xv).run P w=.ok u w/\Bz (vw w O0 σ ρ) v u:=by
 unfold JY at h;split at h
 .rename_i n X off N O;cases N;cases O;obtain⟨Z,b,z,rfl⟩:=V;cases hn:lk n σ.objs with
  | none=>rw[hn]at h;simp[EI]at h
  | some o =>
   rw[hn]at h;cases o with
   | arr et e xs=>simp[EI]at h
   | mapo k v l=>simp[EI]at h
   | frame bf fs=>simp[EI]at h
   | loop L=>simp[EI]at h
   | itr ba bd bb bc ay=>simp[EI]at h
   | dfr=>simp[EI]at h
   | nest et az k e xs a=>simp[EI]at h
   | box et st fs =>
    simp only[EI]at h;cases a:JW st fs X with
    | none=>rw[a]at h;simp[Ib]at h
    | some y =>
     rw[a]at h;simp only[Ib]at h;split at h
     .rename_i H;obtain⟨B,C⟩:=H;cases h;obtain⟨bk,b',cs,s,am,M⟩:=T n _ hn;have z:ρ n=_:=z;rw[z]at s;injection s with s
      injection s with s
      injection s with s
      subst s;have D:∀(I:List Value) (o:Nat),I=(cs.drop o).take I.length->∀(j:Nat) (u:Value),I[j]?=some u->w.cell? ((⟨b,o,none⟩:Addr).add j)=some u:=by
       intro I o ab j u p;rw[JV,cell_of_row w b (o+j) cs.toArray et (0,0) am];rw[ab,UE,Uk]at p;split at p
       .simpa using p
       cases p
      refine⟨rfl,?_⟩;unfold JW at a;split at a
      . -- the whole
       simp only[PZ]at C;cases C;cases st with
       | true =>
        simp only[Ut]at a;cases a;have bi:=M.length;cases f:ti.ty<;>rw[f]at B<;>simp only[CS]at B<;>try(cases B;done)
        rename_i t;simp only[UP]at B;have av:cs.length=ti.ty.size:=by rw[f];simp only[Ty.size];omega
        have:=ET w hT av (D cs 0 (by simp));refine⟨_,this,cs,?_,M⟩;rw[f];rfl
       | false =>
        simp only[Ua,YZ]at a;have ax:CA fs 0=0:=by cases fs<;>rfl
        obtain⟨h1,q⟩:=M.get a;rw[ax]at q;obtain⟨F,J⟩:=mY q B;have:=ET w hT F (D _ 0 (by rw[q.length]));exact⟨_,this,J⟩
      . -- a field
       rename_i k;cases st with
       | false=>simp at a
       | true =>
        simp only[Ut]at a;obtain⟨h1,q⟩:=M.get a;obtain⟨F,J⟩:=mY q B;have ar:off=CA fs k:=by
         simp only[PZ,a]at C;cases v<;>simp only[LS,Yz,List.isEmpty_nil,Ut]at C<;>cases C<;>rfl
        subst ar;have:=ET w hT F (D _ (CA fs k) (by rw[q.length]));exact⟨_,this,J⟩
      rename_i k r U;cases st with
      | false=>simp at a
      | true =>
       simp only[Ut]at a;split at a
       .rename_i t d hk;simp only[No]at a;obtain⟨pv,au,rfl⟩:=a;simp only[PZ,hk,No]at C;obtain⟨be,aq,rfl⟩:=C;obtain⟨h1,q⟩:=M.get hk;have q:Bv w (own O0 σ ρ) t _ d:=q;obtain⟨Y,G⟩:=Vq au aq q;simp only[AV.cells]at h1 G;rw[rD _ _ _ _ _ Y]at G;simp only[CS,DO]at B;have Q:=G.length;have:=ET w hT (by rw[B];exact Q) (D _ (CA fs k+be) (by rw[Q]));rw[B]at this;exact⟨_,this,_,G,rfl⟩
       cases a
     cases h
 .rename_i n e i X off N O;cases N;cases O;obtain⟨Z,g,m,c,z,ao,rfl⟩:=V;cases hn:lk n σ.objs with
  | none=>rw[hn]at h;simp[EJ]at h
  | some o =>
   rw[hn]at h;cases o with
   | box et st fs=>simp[EJ]at h
   | mapo k v l=>simp[EJ]at h
   | frame bf fs=>simp[EJ]at h
   | loop L=>simp[EJ]at h
   | itr ba bd bb bc ay=>simp[EJ]at h
   | dfr=>simp[EJ]at h
   | nest et az k A xs a =>
    cases a with
    | some j=>simp[EJ]at h
    | none =>
     simp only[EJ]at h;split at h
     .rename_i aj;subst aj;obtain⟨o,ins,cells,s,S⟩:=T n _ hn;have z:plc (ρ n)=_:=z;have ap:plc (ρ n)=o:=s.plc;have E:=S.own;rw[<-ap,z]at E;obtain⟨rfl,D⟩:=ZP E;have W:xs[i]?=some (xs.getD i (k.dflt,[])):=by grind
      have R:i<ins.length:=by rw[S.len];exact ao
      obtain⟨c1,v1,aa,af,F⟩:=S.row i _ ins[i] W (AT R);rcases F with ⟨F,_⟩|⟨_,ag,J⟩
      .cases F
      have ae:c1.length=k.size:=af.length;unfold OC at h;split at h
      .split at h
       .rename_i K;obtain⟨f,rfl⟩:=K;cases h;have:=ET (ad:=⟨g,i*(Ty.agg (.prod k (.slice A))).size+0,none⟩) w hT (by rw[f];exact ae) (λj u p=>by
         rw[JV];refine D _ _ (aa j u ?_);rw[Tz (Tm.1 p).1];exact p)
        rw[f]at this;exact⟨rfl,_,this,c1,af,rfl⟩
       cases h
      .split at h
       .rename_i K;obtain⟨f,rfl⟩:=K;cases h;have:=ET (ad:=⟨g,i*(Ty.agg (.prod k (.slice A))).size+k.size,none⟩) (cs:=[v1]) w hT (by rw[f];rfl) (λj u p=>by
         have an:j=0:=by have:=(Tm.1 p).1;simpa using this
         subst an;rw[JV];refine D _ _ (aa k.size u ?_);rw[UC (by omega),ae,Yq];exact p)
        rw[f]at this;obtain⟨ah,ai,aw⟩:=A1Z ag J;exact⟨rfl,_,this,Z,_,ah,ai,ins[i],s.resolve_right (λh=>by rw[h.2.2]at R;simp at R),by simp[R],ag,aw⟩
       cases h
      cases h
     cases h
   | arr et A xs =>
    simp only[EJ]at h;cases H:BP (.slice e) ⟨.slice A,xs⟩ with
    | none=>rw[H]at h;simp[Id]at h
    | some ys =>
     obtain⟨rfl,q⟩:=Be H;cases q;rw[H]at h;simp only[Id]at h;cases hp:TR X A (xs.getD i A.dflt) with
     | none=>rw[hp]at h;simp[Ic]at h
     | some pv =>
      rw[hp]at h;simp only[Ic]at h;split at h
      .rename_i K;obtain⟨f,C⟩:=K;cases h;obtain⟨bj,cells,E,ak⟩:=T n _ hn;have z:plc (ρ n)=_:=z;have E:w.ownsRow 0 et A.size (ρ n) xs.length cells:=E;rw[HH E]at z;rw[z]at E;obtain⟨rfl,D⟩:=ZP E;have W:xs[i]?=some (xs.getD i A.dflt):=by grind
       obtain⟨I,ab,bh,al⟩:=ak i _ W;obtain⟨Y,G⟩:=Vq hp C al;have Q:=G.length;have:=ET (ad:=⟨g,i*A.size+off,none⟩) w hT (by rw[f];exact Q) (λj u p=>by
        rw[JV,AEe];rw[UE,Uk]at p;split at p
        .grind
        cases p)
       rw[f]at this;exact⟨rfl,_,this,_,G,rfl⟩
      cases h
 .rename_i u d N O;cases N;cases O;obtain⟨ad,cs,rfl,bg,H,U⟩:=V;split at h
  .rename_i f;cases h;have:=ET w hT (by rw[f];exact U.length) H;rw[f]at this;exact⟨rfl,_,this,cs,U,rfl⟩
  cases h
 cases h
end
end
section
open Go Go.RowKit
section
variable {P:Program} {tb:Tb} {id:TypeId} {ti:TI} {w:World} {V:Vw} {vc:Prop} {v:AV} {obs:List (Nat×Obj)}
theorem mZ {α:Type} {l:List α} {k:Nat} {x:α} (h:l[k]?=some x):x∈l:=UW h
theorem gE (hT:D8 P tb id ti) {u:Ty} (q:ti.ty=.agg u) (g:ti.el=0) {f k s:Nat} (hf:ti.offs[f]?=some (k,s)) (ad:Addr) (w:World) :
  (Instr.fieldAt id (.pointer (some ad)) f).run P w=.ok (.pointer (some (ad.add k))) w:=by
 obtain⟨⟨⟨o,_⟩,_⟩,a⟩:=hT;rw[q]at a;simp only at a;rcases a with ⟨fs,_,hu,p⟩|⟨n,e,i,m,_⟩
 .have b:(ti.offs.map some)[f]?=some (some (k,s)):=by simp[hf]
  rw[p]at b;simp only[UO,No]at b;obtain⟨c,j,h⟩:=b;obtain⟨i,hi,d⟩:=h;cases d;have l:fs[f]?=some c:=by simpa using j
  have hs:i.size≠0:=o _ (mZ hf);simp[Instr.fieldAt,Tr hu,l,Instr.sureAddr,fieldPlace,sizeOf,Ld w hi,hs]
 exact absurd g m
theorem gF (hT:D8 P tb id ti) {u:Ty} (h:ti.ty=.agg u) (c:ti.el≠0) {k s:Nat} {z:Int} {kd:IntKind} (j:0<=z) (hf:ti.offs[z.toNat]?=some (k,s)) (ad:Addr) (w:World) :
  (Instr.indexAt id (.pointer (some ad)) (.int kd z)).run P w=.ok (.pointer (some (ad.add k))) w:=by
 obtain⟨_,a⟩:=hT;rw[h]at a;simp only at a;rcases a with ⟨fs,h0,_⟩|⟨n,e,i,_,hu,hi,g⟩
 .exact absurd h0 c
 rw[g]at hf;simp only[UO,No]at hf;obtain⟨l,d,b⟩:=hf;cases b;obtain⟨h1,a⟩:=Tm.1 d;simp only[ADf]at h1;simp only[iF]at a;subst a;have f:z<(n:Int):=by omega
 simp[Instr.indexAt,asIntOf,Tr hu,Instr.sureAddr,sizeOf,Ld w hi,j,f]
theorem A27 {f:Nat} {o:Option (Nat×Nat)} {x:AV} {xv:Value} {run:Value->Result Value} (y:∀k s ad,o=some (k,s)->run (.pointer (some ad))=.ok (.pointer (some (ad.add k))) w)
  (h:Pa f o x=some (vc,v,obs)) (z:Bz V x xv):obs=[]/\∃u,run xv=.ok u w/\Bz V v u:=by
 unfold Pa at h;split at h
 .rename_i n G off;obtain⟨q,b,A,rfl⟩:=z;cases o with
  | none=>simp[Vk]at h
  | some p =>
   obtain⟨k,s⟩:=p;simp only[Vk]at h;cases h;exact⟨rfl,_,y k s _ rfl,q,b,A,by rw[JV]⟩
 .rename_i n e i G off;obtain⟨q,g,m,c,A,F,rfl⟩:=z;cases o with
  | none=>simp[Vk]at h
  | some p =>
   obtain⟨k,s⟩:=p;simp only[Vk]at h;cases h;exact⟨rfl,_,y k s _ rfl,q,g,m,c,A,F,by rw[JV,AEe]⟩
 .rename_i u d;obtain⟨ad,cs,rfl,D,E,t⟩:=z;cases r:Gt u f d with
  | none=>rw[r]at h;simp[Ie]at h
  | some pv =>
   rw[r]at h;simp only[Ie]at h;split at h
   .rename_i l;cases h;have t:Bv V.w V.O u cs d:=t;obtain⟨h1,I,B,H,C⟩:=Pj r t;rw[B]at l;cases o with
    | none=>simp at l
    | some p =>
     obtain⟨k,s⟩:=p;simp only[Yz,Un]at l;subst l;refine⟨rfl,_,y k s _ rfl,ad.add k,_,rfl,by rw[CD];exact D,λj u a=>?_,C⟩;rw[DF];rw[UE,Uk]at a;split at a
     .exact E _ _ a
     cases a
   cases h
 cases h
theorem A5o (hT:D8 P tb id ti) {f:Nat} {x:AV} {xv:Value} (w:World)
  (h:Gu f (some ti) (some x)=some (vc,v,obs)) (e:Bz V x xv):obs=[]/\∃u,(Instr.fieldAt id xv f).run P w=.ok u w/\Bz V v u:=by
 unfold Gu at h;split at h
 .rename_i u offs b g a c;cases a;cases c;exact A27 (run:=λxv=>(Instr.fieldAt id xv f).run P w) (λk s ad d=>gE hT rfl rfl d ad w) h e
 cases h
theorem Sb {e:TypeId} (hu:P.underlying id=some (.slice e)) {size:Nat} (hs:(sizeOf e).run P w=.ok size w) (a:Addr) (n c:Nat) (k:IntKind) (i:Int) (h0:0<=i) (h1:i<n) :
  (Instr.indexAt id (.slice (some a) n c) (.int k i)).run P w=.ok (.pointer (some (a.add (i.toNat*size)))) w:=by
 simp[Instr.indexAt,asIntOf,Tr hu,h0,h1,hs]
theorem ADq {e:Ty} {el:TypeId} (hu:P.underlying id=some (.slice el)) (hs:(sizeOf el).run P V.w=.ok e.size V.w) {l:List e.den} {kd:IntKind} {k:Int} {xv:Value}
  (r:BS V.w V.O (.slice e) xv l) (n:0<=k) (o:k<(l.length:Int)) :
  ∃u,(Instr.indexAt id xv (.int kd k)).run P V.w=.ok u V.w/\Bz V (.ip e (l.getD k.toNat e.dflt)) u:=by
 obtain⟨cs,h,rfl⟩:=r;obtain⟨a,c,rfl,h1,t,b⟩:=h;have p:k.toNat<l.length:=by omega
 rcases b with b|⟨ad,rfl,f,i⟩
 .subst b;simp at p
 refine⟨_,Sb hu hs _ _ _ _ _ n o,?_⟩;have s:l[k.toNat]?=some (l.getD k.toNat e.dflt):=by grind
 obtain⟨d,v,g,q⟩:=i _ _ s;exact⟨_,d,rfl,by rw[CD];exact f,λj u m=>by rw[DF];exact g j u m,q⟩
theorem ADr {e:Ty} {el:TypeId} (hu:P.underlying id=some (.slice el)) (hs:(sizeOf el).run P V.w=.ok e.size V.w) {n lo hi:Nat} {kd:IntKind} {k:Int} {xv:Value}
  (s:Bz V (.sr n e lo hi) xv) (h:∀n,V.L n->∃o,A1 V o (V.ρ n)) (j:0<=k) (l:k<((hi-lo:Nat):Int)) :
  ∃u,(Instr.indexAt id xv (.int kd k)).run P V.w=.ok u V.w/\Bz V (.ep n e (lo+k.toNat) [] 0) u:=by
 obtain⟨b,a,m,c,f,A,z,t,v,rfl,y,h0,h1⟩:=s;have p:lo<hi:=by omega
 have i:=h1 p;obtain⟨o,q⟩:=h n b;obtain⟨g,rfl⟩:∃g,a=some ⟨g,0,none⟩:=by
  obtain⟨_,_,cells,r,_⟩:=ZO q f;rcases r.2 with ⟨d,hn⟩|⟨g,cap,x,d,_⟩
  .injection d;omega
  grind
 subst i;refine⟨_,Sb hu hs _ _ _ _ _ j l,b,g,m,c,f,by omega,?_⟩;rw[DF,f7,ADC];rfl
theorem BH {O:Nat->Prop} {w:World} {kd:IntKind} {k:Int} {v:Value} (h:BS w O (.int kd) v k):v=.int kd k/\KC kd k:=by
 obtain⟨cs,⟨rfl,h1⟩,rfl⟩:=h;exact⟨rfl,h1⟩
theorem BN {O:Nat->Prop} {w:World} {kd:IntKind} {k:Int} (h:KC kd k):BS w O (.int kd) (.int kd k) k:=⟨_,⟨rfl,h⟩,rfl⟩
theorem Dy {O:Nat->Prop} {w:World} {b:Bool} {v:Value} (h:BS w O .bool v b):v=.bool b:=by
 obtain⟨cs,h1,rfl⟩:=h;have h1:cs=_:=h1;subst h1;rfl
theorem Bp {O:Nat->Prop} {w:World} (b:Bool):BS w O .bool (.bool b) b:=⟨[.bool b],rfl,rfl⟩
theorem Gd {O:Nat->Prop} {w:World} {s:ByteArray} {v:Value} (h:BS w O .str v s):v=.string s/\s.size<=AO:=by
 obtain⟨cs,⟨rfl,h1⟩,rfl⟩:=h;exact⟨rfl,h1⟩
theorem Vs {O:Nat->Prop} {w:World} {s:ByteArray} (h:s.size<=AO):BS w O .str (.string s) s:=⟨_,⟨rfl,h⟩,rfl⟩
theorem CT {e:Ty} {offs:List (Nat×Nat)} {el:TypeId} {bytes:Nat} (hT:D8 P tb id ⟨.slice e,offs,el,bytes⟩) (b:Cw P tb) :
  P.underlying id=some (.slice el)/\(∀w,(sizeOf el).run P w=.ok e.size w)/\∃te,lk el tb.ty=some te/\te.ty=e:=by
 obtain⟨_,hu,te,a,rfl⟩:=hT;exact⟨hu,λw=>Hm w (b _ _ a),te,a,rfl⟩
theorem A5p (hT:D8 P tb id ti) (m:Cw P tb) {x y:AV} {xv p:Value}
  (h:Fb (some ti) (some x) (some y)=some (vc,v,obs)) (f:vc) (i:Bz V x xv) (j:Bz V y p) (r:∀n,V.L n->∃o,A1 V o (V.ρ n)) :
  obs=[]/\∃u,(Instr.indexAt id xv p).run P V.w=.ok u V.w/\Bz V v u:=by
 unfold Fb at h;split at h
 .rename_i e offs el bytes q l kd k a c d;cases a;cases c;cases d;split at h
  .rename_i g;subst g;cases h;obtain⟨hu,hs,_⟩:=CT hT m;obtain⟨rfl,_⟩:=BH j;exact⟨rfl,ADq hu (hs _) i f.1 f.2⟩
  cases h
 .rename_i e offs el bytes n q lo hi kd k a c d;cases a;cases c;cases d;split at h
  .rename_i g;subst g;cases h;obtain⟨hu,hs,_⟩:=CT hT m;obtain⟨rfl,_⟩:=BH j;exact⟨rfl,ADr hu (hs _) i r f.1 f.2⟩
  cases h
 .rename_i u offs el b A B a c d;cases a;cases c;cases d;unfold KI at h;split at h
  .rename_i kd k;split at h
   .rename_i hk;obtain⟨rfl,_⟩:=BH j;exact A27 (run:=λxv=>(Instr.indexAt id xv (.int kd k)).run P V.w) (λz s ad t=>gF hT rfl (by simp) hk t ad V.w) h i
   cases h
  cases h
 cases h
theorem KT {k:IntKind} {n:Int} (h:KC k n):k.wrap n=n:=by
 obtain⟨h1,a⟩:=h;cases k<;>simp[IntKind.min,IntKind.max,IntKind.signed,IntKind.bits]at h1 a<;>simp[IntKind.wrap,IntKind.signed,IntKind.bits]<;>omega
theorem Mr (k:IntKind) (n:Int):KC k (k.wrap n):=by
 cases k<;>simp only[KC,IntKind.min,IntKind.max,IntKind.wrap,IntKind.signed,IntKind.bits]<;>simp<;>omega
theorem A8Z {op:BinOp} {t:TypeId} {k e:IntKind} {a b:Int} (w:World) (c:(bin op k a e b).1) (ha:KC k a) :
  ∃u,(binOp op t (.int k a) (.int e b)).run P w=.ok u w/\Bz V (bin op k a e b).2 u:=by
 unfold bin at c ⊢;split at c
 .have d:¬b<0:=by have h:0<=b:=c;omega
  exact⟨_,by simp[binOp,Op.shift,d];rfl,BN (Mr _ _)⟩
 .have d:¬b<0:=by have h:0<=b:=c.1;omega
  exact⟨_,by simp[binOp,Op.shift,d];rfl,BN c.2⟩
 split at c
 .rename_i f g hk;subst hk;cases op<;>simp only[mU]at c ⊢;case add=>exact⟨.int k (a+b),by simp[binOp,Op.intArith,KT c],BN c⟩
  case sub=>exact⟨.int k (a-b),by simp[binOp,Op.intArith,KT c],BN c⟩
  case mul=>exact⟨.int k (a*b),by simp[binOp,Op.intArith,KT c],BN c⟩
  case quo=>exact⟨.int k (a.tdiv b),by simp[binOp,Op.intDiv,c.1,KT c.2],BN c.2⟩
  case rem=>exact⟨.int k (a.tmod b),by simp[binOp,Op.intDiv,c.1],BN c.2⟩
  case and=>exact⟨.int k (B2 .and k a b),by simp only[binOp,ne_eq,ADx,YZ,Op.intBits];rfl,BN (Mr _ _)⟩
  case or=>exact⟨.int k (B2 .or k a b),by simp only[binOp,ne_eq,ADx,YZ,Op.intBits];rfl,BN (Mr _ _)⟩
  case xor=>exact⟨.int k (B2 .xor k a b),by simp only[binOp,ne_eq,ADx,YZ,Op.intBits];rfl,BN (Mr _ _)⟩
  case andNot=>exact⟨.int k (B2 .andNot k a b),by simp only[binOp,ne_eq,ADx,YZ,Op.intBits];rfl,BN (Mr _ _)⟩
  case eql=>exact⟨.bool (a==b),by simp[binOp,Op.intCmp],Bp _⟩
  case neq=>exact⟨.bool (a != b),by simp[binOp,Op.intCmp],Bp _⟩
  case lss=>exact⟨.bool (decide (a<b)),by simp[binOp,Op.intCmp],Bp _⟩
  case leq=>exact⟨.bool (decide (a<=b)),by simp[binOp,Op.intCmp],Bp _⟩
  case gtr=>exact⟨.bool (decide (b<a)),by simp[binOp,Op.intCmp],Bp _⟩
  case geq=>exact⟨.bool (decide (b<=a)),by simp[binOp,Op.intCmp],Bp _⟩
 exact c.elim
theorem A5q {op:BinOp} {t:TypeId} {a b:ByteArray} (w:World) (c:(Y7 a b op).1) :
  ∃u,(binOp op t (.string a) (.string b)).run P w=.ok u w/\Bz V (Y7 a b op).2 u:=by
 cases op<;>simp only[Y7]at c ⊢;case add =>
  have d:AO=140737488355328:=rfl;have hh:¬(((a.size+b.size:Nat):Int) > IntKind.i64.max):=by
   have:IntKind.i64.max=9223372036854775807:=by decide
   omega
  exact⟨.string (a++b),by simp only[binOp,Op.stringOp,As hh];rfl,Vs (by simpa[iN] using c)⟩
 case eql=>exact⟨.bool (Ah a b),by simp only[binOp,Op.stringOp];rfl,Bp _⟩
 case neq=>exact⟨.bool (!Ah a b),by simp only[binOp,Op.stringOp];rfl,Bp _⟩
 case lss=>exact⟨.bool (G8 a b),by simp only[binOp,Op.stringOp];rfl,Bp _⟩
 case leq=>exact⟨.bool (G8 a b||Ah a b),by simp only[binOp,Op.stringOp];rfl,Bp _⟩
 case gtr=>exact⟨.bool (!(G8 a b||Ah a b)),by simp only[binOp,Op.stringOp];rfl,Bp _⟩
 case geq=>exact⟨.bool (!G8 a b),by simp only[binOp,Op.stringOp];rfl,Bp _⟩
 all_goals exact c.elim
theorem AA8 {op:BinOp} {t:TypeId} {ti:Option TI} (n:SU ti=true->P.underlying t=some .bool) {x y:AV} {xv l:Value} (w:World)
  (h:RI op ti (some x) (some y)=some (vc,v,obs)) (m:vc) (i:Bz V x xv) (j:Bz V y l) :
  obs=[]/\(∀e f,(eqGuard op t e f xv l).run P w=.ok () w)/\∃u,(binOp op t xv l).run P w=.ok u w/\Bz V v u:=by
 unfold RI at h;split at h
 .rename_i k a o b c d;cases c;cases d;cases h;obtain⟨rfl,ha⟩:=BH i;obtain⟨rfl,_⟩:=BH j;refine⟨rfl,λe f=>?_,A8Z w m ha⟩;cases op<;>simp[eqGuard]
 .rename_i a b c d;cases c;cases d;cases h;obtain⟨rfl,ha⟩:=Gd i;obtain⟨rfl,_⟩:=Gd j;refine⟨rfl,λe f=>?_,A5q w m⟩;cases op<;>simp[eqGuard]
 .rename_i a b c d;cases c;cases d;have ha:=Dy i;have g:=Dy j;subst ha g;split at h
  .rename_i g;have hu:=n g;cases op<;>simp only[mX]at h<;>cases h
   .exact⟨rfl,λe f=>by simp[eqGuard],.bool (a==b),by simp[binOp,run_equal_bool w t a b hu],Bp _⟩
   exact⟨rfl,λe f=>by simp[eqGuard],.bool (a != b),by simp[binOp,run_equal_bool w t a b hu,bne],Bp _⟩
  cases h
 cases h
theorem ADs {op:UnOp} {x:AV} {xv:Value} (w:World) (h:qUn op (some x)=some (vc,v,obs)) (c:vc) (e:Bz V x xv) :
  obs=[]/\∃u,(Op.unary op xv).run P w=.ok u w/\Bz V v u:=by
 unfold qUn at h;split at h
 .rename_i b d;cases d;cases h;have:=Dy e;subst this;exact⟨rfl,.bool (!b),by simp[Op.unary],Bp _⟩
 .rename_i k a d;cases d;cases h;obtain⟨rfl,ha⟩:=BH e;have c:KC k (0-a):=c;exact⟨rfl,_,by simp only[Op.unary,Op.intArith,KT c];rfl,BN c⟩
 cases h
end
end
section
open Go Go.RowKit
section
variable {P:Program} {tb:Tb} {id:TypeId} {ti:TI} {w:World} {V:Vw} {vc:Prop} {v:AV} {obs:List (Nat×Obj)}
theorem m8 (l:List Int):(SV l).size=l.length:=by
 show (SV l).data.size=l.length;unfold SV;simp
theorem A90 (G:Cw P tb) (H:V.w=w) {s t:TypeId} {B ti:TI} (hs:D8 P tb s B) (y:D8 P tb t ti) {x:AV} {xv:Value} (h:JZ (some B) (some ti) (some x)=some (vc,v,obs)) (i:vc) (A:Bz V x xv) :
  obs=[]/\∃u,(convert s t xv).run P w=.ok u w/\Bz V v u:=by
 unfold JZ at h;split at h
 .rename_i T U m b1 k W D b2 ab a n o p;cases n;cases o;cases p;cases h;obtain⟨rfl,ha⟩:=BH A;have i:KC k a:=i;have f:P.underlying s=some (.int T):=hs.2;have g:P.underlying t=some (.int k):=y.2;refine⟨rfl,.int k a,?_,BN i⟩;simp[convert,Tr f,Tr g,Conv.intToInt,KT i]
 .rename_i U m b1 W D b2 l n o p;cases n;cases o;cases p;cases h;obtain⟨f,te,O,Q⟩:=hs.2;have g:P.underlying t=some .string:=y.2;have z:P.underlying m=some (.int .u8):=by
   have:=(G _ _ O).2;rw[Q]at this;exact this
  obtain⟨cs,⟨a,c,rfl,h1,E,d⟩,rfl⟩:=A;have N:(SV l).size<=AO:=by rw[m8];exact E
  refine⟨rfl,.string (SV l),?_,⟨[.string (SV l)],⟨rfl,N⟩,rfl⟩⟩;have L:a=none->l=[]:=λe=>by grind
  cases a with
  | none =>
   have:=L rfl;subst this;show (convert s t (.slice none 0 c)).run P w=_;have C:SV []=ByteArray.empty:=rfl;rw[C];simp[convert,Tr f,Tr g,Tr z,Conv.bytesToString]
  | some ad =>
   have r:=run_convert_bytes_back (P:=P) w s t m ad c (l.map λx=>UInt8.ofNat x.toNat) f z g λj q=>by
    have b:j<List.length l:=by rw[OF]at q;exact q
    rcases d with d|⟨X,d,Z,F⟩
    .rw[d]at b;cases b
    cases d;obtain⟨Y,-,J,M⟩:=F j l[j] (AT b);obtain⟨rfl,K⟩:=M;have I:=J 0 (.int .u8 l[j]) rfl;rw[H]at I;obtain⟨R,S⟩:(0:Int)<=(l:List Int)[j]'b/\(l:List Int)[j]'b<=255:=by
     simpa[KC,IntKind.min,IntKind.max,IntKind.signed,IntKind.bits] using K
    have e:(((List.map (λx:Int=>UInt8.ofNat x.toNat) l)[j]'q).toNat:Int)=l[j]:=by
     rw[aT,UInt8.toNat_ofNat'];have aa:((l:List Int)[j]'b).toNat % 2 ^ 8=((l:List Int)[j]'b).toNat:=Nat.mod_eq_of_lt ((Int.toNat_lt R).2 (AE6 S (by decide)));grind
    grind [Ty.size]
   rw[OF]at r;exact r
 cases h
theorem AA9 (r:∀n,V.L n->∃o,A1 V o (V.ρ n)) {x:AV} {xv:Value} {t ty:TypeId} (hT:D8 P tb t ti) (w:World) (h:TV (some ti) (some x)=some (vc,v,obs)) (g:Bz V x xv) :
  obs=[]/\∃u,(Builtin.len_ #[t] ty #[xv]).run P w=.ok u w/\Bz V v u:=by
 have j:∀n:Nat,n<=AO->KC .i64 (n:Int):=λn hn=>by
  simp[KC,IntKind.min,IntKind.max,IntKind.signed,IntKind.bits];simp[AO]at hn;omega
 unfold TV at h;split at h
 .rename_i e o el b q l d f;cases d;cases f;cases h;obtain⟨cs,⟨a,c,rfl,h1,y,_⟩,rfl⟩:=g;have hu:=hT.2.1;exact⟨rfl,.int .i64 (List.length l:Int),by simp[Builtin.len_,Tr hu,goInt,Ty.wrap],BN (j _ y)⟩
 .rename_i e o el b n q lo hi d f;cases d;cases f;cases h;obtain⟨k,a,m,c,C,I,H,E,F,rfl,G,h0,h1⟩:=g;have hu:=hT.2.1;obtain⟨D,p⟩:=r n k;obtain⟨_,_,_,_,this⟩:=ZO p C;exact⟨rfl,.int .i64 ((hi-lo:Nat):Int),by simp[Builtin.len_,Tr hu,goInt],BN (j _ (by omega))⟩
 .rename_i e o el b n q i len d f;cases d;cases f;cases h;obtain⟨k,K,a,c,J,B,A,z,rfl⟩:=g;have hu:=hT.2.1;obtain⟨D,p⟩:=r n k;have:=A5i p B A z rfl;exact⟨rfl,.int .i64 (len:Int),by simp[Builtin.len_,Tr hu,goInt],BN (j _ this)⟩
 .rename_i e o el b d f;cases d;cases f;cases h;have g:xv=_:=g;subst g;have hu:=hT.2.1;exact⟨rfl,.int .i64 0,by simp[Builtin.len_,Tr hu,goInt],BN (j 0 (by simp))⟩
 .rename_i o el b s d f;cases d;cases f;cases h;obtain⟨rfl,h1⟩:=Gd g;have hu:P.underlying t=some .string:=hT.2;exact⟨rfl,.int .i64 (s.size:Int),by simp[Builtin.len_,Tr hu,goInt],BN (j _ h1)⟩
 cases h
theorem A08 {i:Nat} {x:AV} {xv:Value} (w:World) (h:EK i (some x)=some (vc,v,obs)) (g:Bz V x xv) :
  obs=[]/\∃u,(Instr.extract xv i).run P w=.ok u w/\Bz V v u:=by
 have get:∀(l:List AV) (a:List Value) (i:Nat) (y:AV),Hk V l a->l[i]?=some y->∃u,a[i]?=some u/\Bz V y u:=by
  intro l;induction l with
  | nil=>intro a i y _ h;simp at h
  | cons z r j =>
   intro a i y c h;obtain⟨u,k,rfl,h1,d⟩:=c;cases i with
   | zero =>
    simp at h;subst h;exact⟨u,rfl,A1Y h1⟩
   | succ i=>exact j k i y d (by simpa using h)
 unfold EK at h;split at h
 .rename_i l e;cases e;obtain⟨a,rfl,c⟩:=g;cases b:l[i]? with
  | none=>rw[b]at h;simp[Gc]at h
  | some y =>
   rw[b]at h;simp only[Gc]at h;cases h;obtain⟨u,hu,f⟩:=get l a i _ c b;exact⟨rfl,u,by simp[Instr.extract,hu],f⟩
 cases h
theorem AAa {x y:AV} {xv d:Value} {ts:Array TypeId} {ty:TypeId} (w:World) (h:RJ (some x) (some y)=some (vc,v,obs)) (g:Bz V x xv) (i:Bz V y d) :
  obs=[]/\∃u,(Builtin.min_ ts ty #[xv,d]).run P w=.ok u w/\Bz V v u:=by
 unfold RJ at h;split at h
 .rename_i k a j b e f;cases e;cases f;split at h
  .rename_i hk;subst hk;cases h;obtain⟨rfl,ha⟩:=BH g;obtain⟨rfl,c⟩:=BH i;have ha:KC k a:=ha;have c:KC k b:=c;refine⟨rfl,.int k (if (b:Int)<a then b else a),by simp[Builtin.min_,Builtin.min2],BN ?_⟩;split
   .exact c
   exact ha
  cases h
 cases h
theorem A91 {x y z:AV} {xv f g:Value} {ts:Array TypeId} {ty:TypeId} (w:World) (h:Ih (some x) (some y) (some z)=some (vc,v,obs)) (o:Bz V x xv) (p:Bz V y f) (q:Bz V z g) :
  obs=[]/\∃u,(Builtin.min_ ts ty #[xv,f,g]).run P w=.ok u w/\Bz V v u:=by
 unfold Ih at h;split at h
 .rename_i k a s b t c i j l;cases i;cases j;cases l;split at h
  .rename_i hk;obtain⟨m,n⟩:=hk;subst m;subst n;cases h;obtain⟨rfl,ha⟩:=BH o;obtain⟨rfl,d⟩:=BH p;obtain⟨rfl,e⟩:=BH q;have ha:KC k a:=ha;have d:KC k b:=d;have e:KC k c:=e;refine⟨rfl,.int k (if (c:Int)<(if (b:Int)<a then b else a) then c else (if (b:Int)<a then b else a)),by simp[Builtin.min_,Builtin.min2],BN ?_⟩;by_cases r:(b:Int)<a
   .grind
   grind
  cases h
 cases h
theorem AAb {x y:AV} {xv d:Value} {ts:Array TypeId} {ty:TypeId} (w:World) (h:RK (some x) (some y)=some (vc,v,obs)) (g:Bz V x xv) (i:Bz V y d) :
  obs=[]/\∃u,(Builtin.max_ ts ty #[xv,d]).run P w=.ok u w/\Bz V v u:=by
 unfold RK at h;split at h
 .rename_i k a j b e f;cases e;cases f;split at h
  .rename_i hk;subst hk;cases h;obtain⟨rfl,ha⟩:=BH g;obtain⟨rfl,c⟩:=BH i;have ha:KC k a:=ha;have c:KC k b:=c;refine⟨rfl,.int k (if (a:Int)<b then b else a),by simp[Builtin.max_,Builtin.max2],BN ?_⟩;split
   .exact c
   exact ha
  cases h
 cases h
theorem A92 {t:TypeId} (hu:P.underlying t=some .string) (w:World) {s:ByteArray} {kd:IntKind} {k:Int} (h0:0<=k) (h1:k<(s.size:Int)) :
  (Instr.index t (.string s) (.int kd k)).run P w=.ok (.int .u8 ((s.data.getD k.toNat 0).toNat:Int)) w/\KC .u8 ((s.data.getD k.toNat 0).toNat:Int):=by
 have a:k.toNat<s.size:=by omega
 have d:k.toNat<s.data.size:=a;have c:s[k.toNat]?=some (s.data.getD k.toNat 0):=by
  rw[getElem?_pos s k.toNat a];simp only[Array.getD,d,dite_true];rfl
 refine⟨by simp[Instr.index,asIntOf,Tr hu,h0,c],?_⟩;generalize s.data.getD k.toNat 0=b;have:=b.toNat_lt;simp[KC,IntKind.min,IntKind.max,IntKind.signed,IntKind.bits];omega
theorem A28 {t:TypeId} {x y:AV} {xv c:Value} (hT:D8 P tb t ti) (w:World) (h:EB (some ti) (some x) (some y)=some (vc,v,obs)) (a:vc) (i:Bz V x xv) (j:Bz V y c) :
  obs=[]/\∃u,(Instr.index t xv c).run P w=.ok u w/\Bz V v u:=by
 unfold EB at h;split at h
 .rename_i o el b s kd k e f g;cases e;cases f;cases g;cases h;obtain⟨rfl,_⟩:=Gd i;obtain⟨rfl,_⟩:=BH j;have hu:P.underlying t=some .string:=hT.2;obtain⟨h1,d⟩:=A92 (P:=P) hu w (kd:=kd) a.1 a.2;exact⟨rfl,_,h1,BN d⟩
 cases h
theorem AAc {x:AV} {xv:Value} (h:Vl (some x)=some (vc,v,obs)) (e:Bz V x xv):obs=[]/\(∃ad,xv=.pointer (some ad))/\Bz V v xv:=by
 unfold Vl at h;split at h
 .rename_i a;cases a;cases h;obtain⟨d,b,f,rfl⟩:=e;exact⟨rfl,⟨_,rfl⟩,d,b,f,rfl⟩
 .rename_i a;cases a;cases h;obtain⟨ad,cs,rfl,r⟩:=e;exact⟨rfl,⟨_,rfl⟩,ad,cs,rfl,r⟩
 .rename_i a;cases a;cases h;obtain⟨d,g,m,c,f,i,rfl⟩:=e;exact⟨rfl,⟨_,rfl⟩,d,g,m,c,f,i,rfl⟩
 cases h
end
end
section
open Go Go.RowKit
section
variable {P:Program} {tb:Tb} {id:TypeId} {ti:TI} {V:Vw} {vc:Prop} {v:AV} {obs:List (Nat×Obj)}
def E9 (a:Option Addr) (c l sz:Nat):Option Addr:=if c=l then a else a.map (·.add (l*sz))
inductive rE:Option Value->Nat->Nat->Prop
 | none (d:Nat):rE none d d
 | some (k:IntKind) (z:Int) (d:Nat) (h:0<=z):rE (some (.int k z)) d z.toNat
theorem A29 {el:TypeId} (hu:P.underlying id=some (.slice el)) {sz:Nat} (w:World) (hs:(sizeOf el).run P w=.ok sz w) {a:Option Addr} {n c l h:Nat} {lo hi:Option Value}
  (i:rE lo 0 l) (hh:rE hi n h) (h1:l<=h) (m:h<=c) :
  (Instr.sliceAt id (.slice a n c) lo hi none).run P w=.ok (.slice (E9 a c l sz) (h-l) (c-l)) w:=by
 cases i with
 | none =>
  cases hh with
  | none=>simp[Instr.sliceAt,Tr hu,Instr.slice,Instr.sliceBounds,hs,E9]
  | some k z _ b =>
   have e:z<=(c:Int):=by omega
   simp[Instr.sliceAt,Tr hu,Instr.slice,Instr.sliceBounds,Instr.sliceBound,asIntOf,hs,E9,b,e]
 | some k z _ b =>
  cases hh with
  | none =>
   have e:z<=(n:Int):=by omega
   simp[Instr.sliceAt,Tr hu,Instr.slice,Instr.sliceBounds,Instr.sliceBound,asIntOf,hs,E9,b,e]
  | some o d _ j =>
   have e:d<=(c:Int):=by omega
   have f:max d 0=d:=by omega
   have g:z<=d:=by omega
   simp[Instr.sliceAt,Tr hu,Instr.slice,Instr.sliceBounds,Instr.sliceBound,asIntOf,hs,E9,b,j,e,f,g]
theorem A93 (hu:P.underlying id=some .string) (w:World) {s:ByteArray} {l h:Nat} {lo hi:Option Value} (f:rE lo 0 l) (hh:rE hi s.size h) (h1:l<=h) (i:h<=s.size) :
  (Instr.sliceAt id (.string s) lo hi none).run P w=.ok (.string (s.extract l h)) w:=by
 cases f with
 | none =>
  cases hh with
  | none=>simp[Instr.sliceAt,Tr hu,Instr.slice,Instr.sliceBounds]
  | some k z _ a =>
   have e:z<=(s.size:Int):=by omega
   simp[Instr.sliceAt,Tr hu,Instr.slice,Instr.sliceBounds,Instr.sliceBound,asIntOf,a,e]
 | some k z _ a =>
  cases hh with
  | none =>
   have e:z<=(s.size:Int):=by omega
   simp[Instr.sliceAt,Tr hu,Instr.slice,Instr.sliceBounds,Instr.sliceBound,asIntOf,a,e]
  | some j b _ g =>
   have e:b<=(s.size:Int):=by omega
   have c:max b 0=b:=by omega
   have d:z<=b:=by omega
   simp[Instr.sliceAt,Tr hu,Instr.slice,Instr.sliceBounds,Instr.sliceBound,asIntOf,a,g,e,c,d]
theorem A5r {e:Ty} {xs:List e.den} {a:Option Addr} {n c l h:Nat} (p:Bv V.w V.O (.slice e) [.slice a n c] xs) (h1:l<=h) (g:h<=xs.length) :
  BS V.w V.O (.slice e) (.slice (E9 a c l e.size) (h-l) (c-l)) (sub xs l h)/\n=xs.length/\h<=c:=by
 obtain⟨q,r,f,s,t,b⟩:=p;injection f with f
 injection f with j k m
 subst j;subst k;subst m;have d:=OG xs (lo:=l) g;refine⟨⟨_,⟨E9 a c l e.size,c-l,by rw[d],by rw[d];omega,by rw[d];omega,?_⟩,rfl⟩,rfl,by omega⟩;by_cases v:l<h
 .right;rcases b with b|⟨ad,rfl,o,u⟩
  .subst b;simp at g;omega
  refine⟨ad.add (l*e.size),?_,by rw[CD];exact o,λi x hi=>?_⟩
  .grind [E9]
  obtain⟨y,_⟩:=cB xs l h i hi;grind [DF]
 simp_all
theorem A2a {loc:Value} {sz b c0 l h:Nat} {a:Option Addr} {n c:Nat} (s:DI loc sz b c0 (.slice a n c)) (h1:l<=h) (x:h<=c0-b) :
  DI loc sz (b+l) (b+h) (.slice (E9 a c l sz) (h-l) (c-l))/\n=c0-b/\h<=c:=by
 obtain⟨d,m,e,q,y,A,v,w,t,z,j,k⟩:=s;injection t with f g i
 subst f;subst g;subst i;refine⟨⟨d,m,e,q,by omega,by omega,E9 a c l sz,c-l,by rw[show b+h-(b+l)=h-l by omega],by omega,λC=>?_,λB=>?_⟩,rfl,by omega⟩
 .have o:b=0:=by omega
  have p:l=0:=by omega
  subst o;subst p;obtain⟨u,D⟩:=j rfl;refine⟨?_,by omega⟩;rw[<-u];unfold E9;split
  .rfl
  simp only[AEm];cases a<;>rfl
 have:=k (by omega);subst this;have r:¬c=l:=by omega
 simp only[E9,As r,Option.map_map]
 congr 1
 grind [DF]
theorem TW (s:ByteArray) (l h:Nat):(s.extract l h).size<=s.size:=by
 simp only[ByteArray.size_extract];omega
theorem Vt (hT:D8 P tb id ti) (k:Cw P tb) {e:Ty} (f:ti.ty=.slice e) {l:List e.den} {xv:Value} {lo hi:Option Value} {a h:Nat}
  (n:BS V.w V.O (.slice e) xv l) (m:rE lo 0 a) (hh:rE hi l.length h) (h1:a<=h) (g:h<=l.length) :
  ∃u,(Instr.sliceAt id xv lo hi none).run P V.w=.ok u V.w/\Bz V (.p (.slice e) (sub l a h)) u:=by
 obtain⟨ty,offs,el,bytes⟩:=ti;simp only at f;subst f;obtain⟨hu,hs,_⟩:=CT hT k;obtain⟨cs,b,rfl⟩:=n;obtain⟨d,c,rfl,r⟩:=b;have b:Bv V.w V.O (.slice e) [.slice d l.length c] l:=⟨d,c,rfl,r⟩;obtain⟨i,_,j⟩:=A5r b h1 g;exact⟨_,A29 hu _ (hs _) m hh h1 j,i⟩
theorem Vu (hT:D8 P tb id ti) (k:Cw P tb) {n b c0:Nat} {e:Ty} (c:ti.ty=.slice e) {xv:Value} {lo hi:Option Value} {a h:Nat}
  (o:Bz V (.sr n e b c0) xv) (l:rE lo 0 a) (hh:rE hi (c0-b) h) (h1:a<=h) (f:h<=c0-b) :
  ∃u,(Instr.sliceAt id xv lo hi none).run P V.w=.ok u V.w/\Bz V (.sr n e (b+a) (b+h)) u:=by
 obtain⟨ty,offs,el,bytes⟩:=ti;simp only at c;subst c;obtain⟨hu,hs,_⟩:=CT hT k;obtain⟨j,d⟩:=o;have m:=d;obtain⟨_,_,_,_,_,_,p,q,rfl,_⟩:=m;obtain⟨g,r,i⟩:=A2a d h1 f;exact⟨_,A29 hu _ (hs _) l hh h1 i,j,g⟩
theorem Vv (hT:D8 P tb id ti) (c:ti.ty=.str) {s:ByteArray} {xv:Value} {lo hi:Option Value} {a h:Nat}
  (f:BS V.w V.O .str xv s) (d:rE lo 0 a) (hh:rE hi s.size h) (h1:a<=h) (b:h<=s.size) :
  ∃u,(Instr.sliceAt id xv lo hi none).run P V.w=.ok u V.w/\Bz V (.p .str (s.extract a h)) u:=by
 obtain⟨rfl,e⟩:=Gd f;have hu:=hT.2;rw[c]at hu;exact⟨_,A93 hu _ d hh h1 b,Vs (Tp (TW s a h) e)⟩
theorem JG {z:Int} {n:Nat} (_h:0<=z) (a:z<=(n:Int)):z.toNat<=n:=by omega
theorem cH {a b:Int} (h:a<=b):a.toNat<=b.toNat:=by omega
def gG:Option AV->Option Value->Prop
 | none,none=>True
 | some x,some v=>Bz V x v
 | _,_=>False
theorem A2b (hT:D8 P tb id ti) (m:Cw P tb) {x ha i:AV} {xv f g:Value} (h:Db (some ti) (some x) (some ha) (some i)=some (vc,v,obs)) (B:vc) (C:Bz V x xv) (hh:Bz V ha f) (y:Bz V i g) :
  obs=[]/\∃u,(Instr.sliceAt id xv none (some f) (some g)).run P V.w=.ok u V.w/\Bz V v u:=by
 unfold Db at h;split at h
 .rename_i e offs el bytes F l D a E b n o p q;cases n;cases o;cases p;cases q;split at h
  .rename_i r;subst r;cases h;obtain⟨hu,hs,_⟩:=CT hT m;obtain⟨rfl,rfl⟩:=B;obtain⟨rfl,_⟩:=BH (hh:BS V.w V.O (.int D) f _);obtain⟨rfl,_⟩:=BH (y:BS V.w V.O (.int E) g _);obtain⟨cs,A,rfl⟩:=(C:BS V.w V.O (.slice e) xv l);obtain⟨d,c,rfl,t,z,s⟩:=A;refine⟨rfl,.slice d (List.length l) (List.length l),?_,⟨_,⟨d,_,rfl,Is _,z,s⟩,rfl⟩,d,rfl⟩;have j:((List.length l:Nat):Int)<=(c:Int):=by omega
   have k:(0:Int)<=((List.length l:Nat):Int):=by omega
   simp[Ty.wrap,Instr.sliceAt,Tr hu,Instr.slice,Instr.sliceBounds,Instr.sliceBound,asIntOf,hs V.w,j,k,Addr.add];intro G;exact absurd t (by omega)
  cases h
 cases h
theorem A5s (hT:D8 P tb id ti) (j:Cw P tb) {x:AV} {xv:Value} {lo hi:Option AV} {D C:Option Value}
  (h:FB (some ti) (some x) (some lo) (some hi)=some (vc,v,obs)) (a:vc) (c:Bz V x xv) (g:gG (V:=V) lo D) (f:gG (V:=V) hi C) :
  obs=[]/\∃u,(Instr.sliceAt id xv D C none).run P V.w=.ok u V.w/\Bz V v u:=by
 have i:∀ {o:Option Value} (d:Nat),gG (V:=V) none o->rE o d d:=λ{o} d h=>by
  cases o with
  | none=>exact .none d
  | some v=>exact h.elim
 have b1:∀ {o:Option Value} {k:IntKind} {z:Int} (d:Nat),gG (V:=V) (some (.p (.int k) z)) o->0<=z->rE o d z.toNat:=λ{o k z} d h F=>by
  cases o with
  | none=>exact h.elim
  | some v =>
   obtain⟨rfl,_⟩:=BH (h:BS V.w V.O (.int k) v z);exact .some k z d F
 unfold FB at h;split at h
 .rename_i e offs el bytes E l B h0 q r t y;cases q;cases r;cases t;cases y;split at h
  .rename_i A;subst A;have c:BS V.w V.O (.slice e) xv l:=c;unfold Hf at h;split at h<;>first|(cases h;done)|(rename_i m;cases m<;>cases h)
   .exact⟨rfl,Vt hT j rfl c (i 0 g) (b1 _ f a.1) (IS _) (JG a.1 a.2)⟩
   .exact⟨rfl,Vt hT j rfl c (b1 0 g a.1) (i _ f) (JG a.1 a.2) (Is _)⟩
   exact⟨rfl,Vt hT j rfl c (b1 0 g a.1) (b1 _ f (Ye a.1 a.2.1)) (cH a.2.1) (JG (Ye a.1 a.2.1) a.2.2)⟩
  cases h
 .rename_i e offs el bytes n E b c0 B h0 q r t y;cases q;cases r;cases t;cases y;split at h
  .rename_i A;subst A;unfold Hf at h;split at h<;>first|(cases h;done)|(rename_i m;cases m<;>cases h)
   .refine⟨rfl,?_⟩;have:=Vu (P:=P) hT j rfl c (i 0 g) (b1 _ f a.1) (IS _) (JG a.1 a.2);simpa using this
   .refine⟨rfl,?_⟩;have:=Vu (P:=P) hT j rfl c (b1 0 g a.1) (i _ f) (JG a.1 a.2) (Is _);have H:=JG a.1 a.2;obtain⟨_,_,_,_,_,G,_⟩:=c;grind
   exact⟨rfl,Vu hT j rfl c (b1 0 g a.1) (b1 _ f (Ye a.1 a.2.1)) (cH a.2.1) (JG (Ye a.1 a.2.1) a.2.2)⟩
  cases h
 .rename_i offs el bytes s B h0 q r t y;cases q;cases r;cases t;cases y;have c:BS V.w V.O .str xv s:=c;unfold Hf at h;split at h<;>first|(cases h;done)|(rename_i m;cases m<;>cases h)
  .exact⟨rfl,Vv hT rfl c (i 0 g) (b1 _ f a.1) (IS _) (JG a.1 a.2)⟩
  .exact⟨rfl,Vv hT rfl c (b1 0 g a.1) (i _ f) (JG a.1 a.2) (Is _)⟩
  exact⟨rfl,Vv hT rfl c (b1 0 g a.1) (b1 _ f (Ye a.1 a.2.1)) (cH a.2.1) (JG (Ye a.1 a.2.1) a.2.2)⟩
 cases h
end
end
end Go.Proofs.YtapkhdkbkodbjaaGreat.Fw
