/- The executor's quiet operations are sound, first part. -/
import Derived.Test.YtapkhdkbkodbjaaGreatFZA
import Derived.Laws.IdiomStrings
set_option linter.unusedVariables false
set_option linter.unusedSimpArgs false
namespace Go.Proofs.YtapkhdkbkodbjaaGreat.Fw
section
open Go Go.RowKit
theorem PW {w:World} {O:Nat->Prop}:∀ {t:Ty} {k:Nat} {d:t.den} {pv:PV} {cs:List Value},HS t k d=some pv->Bx w O t cs d ->
  d8 t k=some pv.t/\∃o,LP t k=some o/\o+pv.t.size<=t.size/\Bx w O pv.t ((cs.drop o).take pv.t.size) pv.d
 | .prod a b,0,d,pv,cs,h,c=>by
  simp only[HS]at h;cases h;obtain⟨c1,c2,rfl,h1,e⟩:=c;refine⟨rfl,0,rfl,by simp[Ty.size],?_⟩;have hl:=h1.length;simp only[oR,<-hl,List.take_left];exact h1
 | .prod a b,k+1,d,pv,cs,h,c=>by
  simp only[HS]at h;obtain⟨c1,c2,rfl,h1,e⟩:=c;obtain⟨f,o,g,j,i⟩:=PW h e;refine⟨f,a.size+o,by simp[LP,g],by simp[Ty.size];omega,?_⟩;have hl:=h1.length;rw[<-hl,<-ABp,ABd];exact i
 | .int _,0,d,pv,cs,h,c=>by
  simp only[HS]at h;cases h;refine⟨rfl,0,rfl,by simp,?_⟩;have hl:=c.length;simp only[oR,<-hl,SW];exact c
 | .bool,0,d,pv,cs,h,c=>by
  simp only[HS]at h;cases h;refine⟨rfl,0,rfl,by simp,?_⟩;have hl:=c.length;simp only[oR,<-hl,SW];exact c
 | .str,0,d,pv,cs,h,c=>by
  simp only[HS]at h;cases h;refine⟨rfl,0,rfl,by simp,?_⟩;have hl:=c.length;simp only[oR,<-hl,SW];exact c
 | .slice _,0,d,pv,cs,h,c=>by
  simp only[HS]at h;cases h;refine⟨rfl,0,rfl,by simp,?_⟩;have hl:=c.length;simp only[oR,<-hl,SW];exact c
 | .ref _,0,d,pv,cs,h,c=>by
  simp only[HS]at h;cases h;refine⟨rfl,0,rfl,by simp,?_⟩;have hl:=c.length;simp only[oR,<-hl,SW];exact c
 | .ref _,_+1,d,pv,cs,h,c=>by simp[HS]at h
 | .agg _,0,d,pv,cs,h,c=>by
  simp only[HS]at h;cases h;refine⟨rfl,0,rfl,by simp,?_⟩;have hl:=c.length;simp only[oR,<-hl,SW];exact c
 | .int _,_+1,d,pv,cs,h,c=>by simp[HS]at h
 | .bool,_+1,d,pv,cs,h,c=>by simp[HS]at h
 | .str,_+1,d,pv,cs,h,c=>by simp[HS]at h
 | .slice _,_+1,d,pv,cs,h,c=>by simp[HS]at h
 | .agg _,_+1,d,pv,cs,h,c=>by simp[HS]at h
theorem qT {α:Type} (cs:List α) (o m a n:Nat) (h:a+n<=m):(((cs.drop o).take m).drop a).take n=(cs.drop (o+a)).take n:=by
 rw[List.drop_take,List.take_take,ABp]
 congr 1
 omega
theorem VV {w:World} {O:Nat->Prop}:∀ {e:List Nat} {t:Ty} {d:t.den} {pv:PV} {cs:List Value} {off:Nat},VJ e t d=some pv->NQ e t=some off->Bx w O t cs d ->
  off+pv.t.size<=t.size/\Bx w O pv.t ((cs.drop off).take pv.t.size) pv.d
 | [],t,d,pv,cs,off,h,a,b=>by
  simp only[VJ]at h;simp only[NQ]at a;cases h;cases a;have hl:=b.length;simp only[oR,<-hl,SW];exact⟨by simp[hl],b⟩
 | k :: r,t,d,pv,cs,off,h,a,b=>by
  cases t<;>simp only[VJ,NQ]at h a<;>try(cases h;done)
  rename_i t;split at h
  .rename_i p l;have b:Bx w O t cs d:=b;obtain⟨h1,o,f,m,g⟩:=PW l b;rw[h1,f]at a;simp only[OR]at a;obtain⟨n,j,rfl⟩:=a;obtain⟨i,c⟩:=VV h j g;refine⟨by simp only[Ty.size];omega,?_⟩;rw[qT _ _ _ _ _ i]at c;exact c
  cases h
def A4 {α:Type} (cs:List α) (o:Nat) (a:List α):List α:=cs.take o++a++cs.drop (o+a.length)
theorem FA {α:Type} {cs:List α} {o:Nat} {a:List α} (h:o+a.length<=cs.length):(A4 cs o a).length=cs.length:=by
 simp[A4];omega
theorem Dk {α:Type} {cs a:List α} (h:a.length=cs.length):A4 cs 0 a=a:=by
 simp[A4,h]
theorem PY {α:Type} (a b:List α) (o:Nat) (c:List α):A4 (a++b) (a.length+o) c=a++A4 b o c:=by
 simp only[A4,List.take_append,AC7,SZ];have h1:List.take (a.length+o) a=a:=By oa;have d:List.drop (a.length+o+c.length) a=[]:=SV oa;have e:a.length+o-a.length=o:=by omega
 have f:a.length+o+c.length-a.length=o+c.length:=by omega
 rw[h1,d,e,f];simp
theorem Sy {α:Type} (a b:List α) (c:List α) (h:c.length=a.length):A4 (a++b) 0 c=c++b:=by
 simp[A4,h]
theorem eG {w:World} {O:Nat->Prop}:∀ {t:Ty} {k:Nat} {d i:t.den} {pv:PV} {cs g:List Value} {o:Nat},OA t k d pv=some i->LP t k=some o->Bx w O t cs d->Bx w O pv.t g pv.d ->
  Bx w O t (A4 cs o g) i/\d8 t k=some pv.t
 | .prod a b,0,d,i,pv,cs,g,o,h,c,f,e=>by
  simp only[OA,OR]at h;obtain⟨y,hy,rfl⟩:=h;have:=BB hy;subst this;simp only[LP]at c;cases c;obtain⟨c1,c2,rfl,h1,j⟩:=f;rw[Sy _ _ _ (by rw[e.length,h1.length])];exact⟨⟨g,c2,rfl,e,j⟩,rfl⟩
 | .prod a b,k+1,d,i,pv,cs,g,o,h,c,f,e=>by
  simp only[OA,OR]at h;obtain⟨y,hy,rfl⟩:=h;simp only[LP,OR]at c;obtain⟨p,n,rfl⟩:=c;obtain⟨c1,c2,rfl,h1,j⟩:=f;obtain⟨l,m⟩:=eG hy n j e;rw[<-h1.length,PY];exact⟨⟨c1,_,rfl,h1,l⟩,m⟩
 | .int _,0,d,i,pv,cs,g,o,h,c,f,e=>by
  have:=BB h;subst this;simp only[LP]at c;cases c;rw[Dk (by rw[e.length,f.length])];exact⟨e,rfl⟩
 | .bool,0,d,i,pv,cs,g,o,h,c,f,e=>by
  have:=BB h;subst this;simp only[LP]at c;cases c;rw[Dk (by rw[e.length,f.length])];exact⟨e,rfl⟩
 | .str,0,d,i,pv,cs,g,o,h,c,f,e=>by
  have:=BB h;subst this;simp only[LP]at c;cases c;rw[Dk (by rw[e.length,f.length])];exact⟨e,rfl⟩
 | .slice _,0,d,i,pv,cs,g,o,h,c,f,e=>by
  have:=BB h;subst this;simp only[LP]at c;cases c;rw[Dk (by rw[e.length,f.length])];exact⟨e,rfl⟩
 | .ref _,0,d,i,pv,cs,g,o,h,c,f,e=>by
  have:=BB h;subst this;simp only[LP]at c;cases c;rw[Dk (by rw[e.length,f.length])];exact⟨e,rfl⟩
 | .ref _,_+1,d,i,pv,cs,g,o,h,c,f,e=>by simp[OA]at h
 | .agg _,0,d,i,pv,cs,g,o,h,c,f,e=>by
  have:=BB h;subst this;simp only[LP]at c;cases c;rw[Dk (by rw[e.length,f.length])];exact⟨e,rfl⟩
 | .int _,_+1,d,i,pv,cs,g,o,h,c,f,e=>by simp[OA]at h
 | .bool,_+1,d,i,pv,cs,g,o,h,c,f,e=>by simp[OA]at h
 | .str,_+1,d,i,pv,cs,g,o,h,c,f,e=>by simp[OA]at h
 | .slice _,_+1,d,i,pv,cs,g,o,h,c,f,e=>by simp[OA]at h
 | .agg _,_+1,d,i,pv,cs,g,o,h,c,f,e=>by simp[OA]at h
theorem Nb {α:Type} (cs:List α) (o m a:Nat) (b:List α) (h:a+b.length<=m) (e:o+m<=cs.length) :
  A4 cs o (A4 ((cs.drop o).take m) a b)=A4 cs (o+a) b:=by
 apply ABB;intro j;have hl:(A4 ((cs.drop o).take m) a b).length=m:=by rw[FA]<;>simp<;>omega
 simp only[A4]at hl ⊢;rw[hl];simp only[AAa,As,OS,aS,UP,AA9];have e1:min o cs.length=o:=by omega
 have e2:min m (cs.length-o)=m:=by omega
 have c:min a m=a:=by omega
 have d:min (o+a) cs.length=o+a:=by omega
 rw[e1,e2,c,d];by_cases c1:j<o
 .grind
 grind
theorem VW {w:World} {O:Nat->Prop}:∀ {l:List Nat} {t:Ty} {d f:t.den} {pv:PV} {cs c:List Value} {off:Nat},YH l t d pv=some f->NQ l t=some off->Bx w O t cs d->Bx w O pv.t c pv.d ->
  Bx w O t (A4 cs off c) f/\off+c.length<=cs.length
 | [],t,d,f,pv,cs,c,off,h,b,a,e=>by
  have:=BB h;subst this;simp only[NQ]at b;cases b;rw[Dk (by rw[e.length,a.length])];exact⟨e,by simp[e.length,a.length]⟩
 | k :: r,t,d,f,pv,cs,c,off,h,b,a,e=>by
  cases t<;>simp only[YH,NQ]at h b<;>try(cases h;done)
  rename_i t;have a:Bx w O t cs d:=a;split at h
  .rename_i p s;obtain⟨h1,o,g,u,m⟩:=PW s a;rw[h1,g]at b;simp only[OR]at b;obtain⟨x,q,rfl⟩:=b;split at h
   .rename_i y hy;obtain⟨n,i⟩:=VW hy q m e;have v:=a.length;have hl:((cs.drop o).take p.t.size).length=p.t.size:=by simp;omega
    rw[hl]at i;obtain⟨j,_⟩:=eG (pv:=⟨p.t,y⟩) h g a n;rw[Nb _ _ _ _ _ i oa]at j;exact⟨j,by omega⟩
   cases h
  cases h
end
section
open Go Go.RowKit
section
variable {V:Vw}
theorem NS.length {x:AV} {cs:List Value} (h:NS V x cs):cs.length=x.cells:=by
 cases x;case p t d=>exact Bx.length (show Bx V.w V.O t cs d from h)
 case ag l=>obtain⟨v,_,_,hf⟩:=h;exact hf.elim
 case tup l=>obtain⟨v,_,_,hf⟩:=h;exact hf.elim
 all_goals(obtain⟨v,rfl,_⟩:=h;rfl)
theorem NS.one {x:AV} {cs:List Value} (h:NS V x cs):∀u∈cs,u.oneCell'=true:=by
 cases x;case p t d=>exact Bx.one (show Bx V.w V.O t cs d from h)
 all_goals(obtain⟨v,rfl,h1,_⟩:=h;intro u hu;simp at hu;subst hu;exact h1)
theorem DX.one:∀ {l:List AV} {cs:List Value},DX V l cs->∀u∈cs,u.oneCell'=true
 | [],cs,h=>by have h:cs=[]:=h;subst h;simp
 | x :: r,cs,h=>by
  obtain⟨c1,c2,rfl,h1,a⟩:=h;intro u hu;rcases Do.1 hu with hu|hu
  .exact h1.one u hu
  exact a.one u hu
theorem DX.length:∀ {l:List AV} {cs:List Value},DX V l cs->cs.length=CM l l.length
 | [],cs,h=>by have h:cs=[]:=h;subst h;rfl
 | x :: r,cs,h=>by
  obtain⟨c1,c2,rfl,h1,a⟩:=h;simp only[As,IF,CM];rw[h1.length,a.length]
theorem DX.get:∀ {l:List AV} {cs:List Value} {k:Nat} {x:AV},DX V l cs->l[k]?=some x ->
  CM l k+x.cells<=cs.length/\NS V x ((cs.drop (CM l k)).take x.cells)
 | [],cs,k,x,h,hk=>by simp at hk
 | y :: r,cs,0,x,h,hk=>by
  obtain⟨c1,c2,rfl,h1,a⟩:=h;simp at hk;subst hk;have:=h1.length;grind [CM]
 | y :: r,cs,k+1,x,h,hk=>by
  obtain⟨c1,c2,rfl,h1,a⟩:=h;have hk:r[k]?=some x:=by simpa using hk
  obtain⟨c,b⟩:=DX.get a hk;have:=h1.length;refine⟨by simp only[CM,As];omega,?_⟩;simp only[CM,<-this];rw[<-ABp,ABd];exact b
theorem DX.set:∀ {l:List AV} {cs:List Value} {k:Nat} {x y:AV} {a:List Value},DX V l cs->l[k]?=some x->NS V y a->y.cells=x.cells ->
  DX V (l.set k y) (A4 cs (CM l k) a)
 | [],cs,k,x,y,a,h,hk,hy,b=>by simp at hk
 | z :: r,cs,0,x,y,a,h,hk,hy,b=>by
  obtain⟨c1,c2,rfl,h1,c⟩:=h;simp at hk;subst hk;simp only[CM,ABt];rw[Sy _ _ _ (by rw[hy.length,h1.length,b])];exact⟨a,c2,rfl,hy,c⟩
 | z :: r,cs,k+1,x,y,a,h,hk,hy,b=>by
  obtain⟨c1,c2,rfl,h1,c⟩:=h;have hk:r[k]?=some x:=by simpa using hk
  have:=h1.length;simp only[CM,ABQ,<-this];rw[PY];exact⟨c1,_,rfl,h1,DX.set c hk hy b⟩
theorem lQ {ty:Ty} {x:AV} {a:List Value} (hx:NS V x a) (hf:Ca ty x=true):a.length=ty.size/\B2 V x (ty.wrap a):=by
 cases x;case p t d =>
  simp only[Ca,Is]at hf;subst hf;have hx:Bx V.w V.O ty a d:=hx;exact⟨Bx.length hx,a,hx,rfl⟩
 case ag l=>obtain⟨v,_,_,hf⟩:=hx;exact hf.elim
 case tup l=>obtain⟨v,_,_,hf⟩:=hx;exact hf.elim
 all_goals
  obtain⟨v,rfl,_,h1⟩:=hx;have b:ty.cell1=true:=by simp only[Ca]at hf;first|exact hf|(simp only[An]at hf;exact hf.2)|exact absurd hf dc
  cases ty<;>first|(cases b;done)|exact⟨rfl,h1⟩
theorem zZ {ty:Ty} {x:AV} {v:Value} (hx:B2 V x v) (hf:Ca ty x=true) (m:ty.cell1=true->v.oneCell'=true):v.cells.size=ty.size/\((∀l,x≠.ag l)->NS V x v.cells.toList):=by
 cases x;case p t d =>
  simp only[Ca,Is]at hf;subst hf;obtain⟨cs,f,rfl⟩:=hx;have hl:=f.length;cases ty;case agg t=>exact⟨by simpa[Ty.wrap,Value.cells] using hl,λ_=>by simpa[Ty.wrap,Value.cells,NS] using f⟩
  case prod a b=>exact⟨by simpa[Ty.wrap,Value.cells] using hl,λ_=>by simpa[Ty.wrap,Value.cells,NS] using f⟩
  case slice e =>
   obtain⟨a,c,rfl,h⟩:=f;exact⟨rfl,λ_=>⟨a,c,rfl,h⟩⟩
  case int k =>
   obtain⟨rfl,h⟩:=f;exact⟨rfl,λ_=>⟨rfl,h⟩⟩
  case bool =>
   have f:cs=_:=f;subst f;exact⟨rfl,λ_=>rfl⟩
  case str =>
   obtain⟨rfl,h⟩:=f;exact⟨rfl,λ_=>⟨rfl,h⟩⟩
  case ref k =>
   have f:cs=[LT k]:=f;subst f;have n:(Ty.ref k).wrap [LT k]=LT k:=rfl;rw[n];match k with
   | 0=>exact⟨rfl,λ_=>rfl⟩
   | 1=>exact⟨rfl,λ_=>rfl⟩
   | _+2=>exact⟨rfl,λ_=>rfl⟩
 case ag l =>
  obtain⟨cs,rfl,j⟩:=hx;have hl:=j.length;cases ty<;>simp only[Ca]at hf<;>try(cases hf;done)
  rename_i t;simp only[UQ]at hf;exact⟨by simp[Value.cells,Ty.size,hl,hf],λh=>absurd rfl (h l)⟩
 case tup l=>simp[Ca]at hf
 all_goals
  have h1:ty.cell1=true:=by simp only[Ca]at hf;first|exact hf|(simp only[An]at hf;exact hf.2)|exact absurd hf dc
  have g:v.oneCell'=true:=m h1;have i:v.cells=#[v]:=by cases v<;>first|rfl|simp[Value.oneCell']at g
  have hs:ty.size=1:=by cases ty<;>simp[Ty.cell1]at h1<;>rfl
  rw[i];exact⟨by simp[hs],λ_=>⟨v,rfl,g,hx⟩⟩
end
end
section
open Go Go.RowKit
section
variable {P:Program} {tb:Tb} {id:TypeId} {ti:TI} {w:World} {O0:Nat->Prop} {σ:St} {ρ:Nat->Value} {vc:Prop} {v:AV} {obs:List (Nat×Obj)}
theorem Ye {w:World} {base:Nat} {et:TypeId} {size:Nat} {g m c n:Nat} {cells:List Value} (h:w.ownsRow base et size (.slice (some ⟨g,0,none⟩) m c) n cells) :
  m=n/\∀(j:Nat) (u:Value),cells[j]?=some u->w.cell? ⟨g,j,none⟩=some u:=by
 constructor
 .rcases h.2 with ⟨a,_⟩|⟨e,cap,d,a,_⟩
  .injection a with h1;cases h1
  injection a
 intro j u b;have:=h.cells (g:=g) rfl j u b
 rwa [d7]at this
theorem z4 (hT:EK P tb id ti) (R:∀n o,lk n σ.objs=some o->A5 (vw w O0 σ ρ) o (ρ n)) {x:AV} {xv:Value}
  (h:K8 σ (some ti) (some x)=some (vc,v,obs)) (hx:B2 (vw w O0 σ ρ) x xv):obs=[]/\∃u,(Instr.loadAt id xv).run P w=.ok u w/\B2 (vw w O0 σ ρ) v u:=by
 unfold K8 at h;split at h
 .rename_i n V off K M;cases K;cases M;obtain⟨X,b,q,rfl⟩:=hx;cases hn:lk n σ.objs with
  | none=>rw[hn]at h;simp[Eu]at h
  | some o =>
   rw[hn]at h;cases o with
   | arr et e xs=>simp[Eu]at h
   | mapo k v l=>simp[Eu]at h
   | frame bd fs=>simp[Eu]at h
   | loop L=>simp[Eu]at h
   | itr ay bb az ba aw=>simp[Eu]at h
   | dfr=>simp[Eu]at h
   | nest et ax k e xs hl=>simp[Eu]at h
   | box et st fs =>
    simp only[Eu]at h;cases hl:K7 st fs V with
    | none=>rw[hl]at h;simp[KN]at h
    | some y =>
     rw[hl]at h;simp only[KN]at h;split at h
     .rename_i F;obtain⟨z,A⟩:=F;cases h;obtain⟨bj,be,cs,p,ak,J⟩:=R n _ hn;have q:ρ n=_:=q;rw[q]at p;injection p with p
      injection p with p
      injection p with p
      subst p;have B:∀(G:List Value) (o:Nat),G=(cs.drop o).take G.length->∀(j:Nat) (u:Value),G[j]?=some u->w.cell? ((⟨b,o,none⟩:Addr).add j)=some u:=by
       intro G o Z j u a;rw[Jf,cell_of_row w b (o+j) cs.toArray et (0,0) ak];rw[Z,UP,AA9]at a;split at a
       .simpa using a
       cases a
      refine⟨rfl,?_⟩;unfold K7 at hl;split at hl
      . -- the whole
       simp only[Q7]at A;cases A;cases st with
       | true =>
        simp only[AAd]at hl;cases hl;have bh:=J.length;cases hty:ti.ty<;>rw[hty]at z<;>simp only[Ca]at z<;>try(cases z;done)
        rename_i t;simp only[UQ]at z;have ar:cs.length=ti.ty.size:=by rw[hty];simp only[Ty.size];omega
        have:=EY w hT ar (B cs 0 sc);refine⟨_,this,cs,?_,J⟩;rw[hty];rfl
       | false =>
        simp only[AA0,AAp]at hl;have av:CM fs 0=0:=by cases fs<;>rfl
        obtain⟨h1,f⟩:=J.get hl;rw[av]at f;obtain⟨D,H⟩:=lQ f z;have:=EY w hT D (B _ 0 (by rw[f.length]));exact⟨_,this,H⟩
      . -- a field
       rename_i k;cases st with
       | false=>simp at hl
       | true =>
        simp only[AAd]at hl;obtain⟨h1,f⟩:=J.get hl;obtain⟨D,H⟩:=lQ f z;have ap:off=CM fs k:=by
         simp only[Q7,hl]at A;cases v<;>simp only[NQ,AAP,List.isEmpty_nil,AAd]at A<;>cases A<;>rfl
        subst ap;have:=EY w hT D (B _ (CM fs k) (by rw[f.length]));exact⟨_,this,H⟩
      rename_i k r T;cases st with
      | false=>simp at hl
      | true =>
       simp only[AAd]at hl;split at hl
       .rename_i t d hk;simp only[OR]at hl;obtain⟨pv,aq,rfl⟩:=hl;simp only[Q7,hk,OR]at A;obtain⟨bc,ao,rfl⟩:=A;obtain⟨h1,f⟩:=J.get hk;have f:Bx w (own O0 σ ρ) t _ d:=f;obtain⟨W,E⟩:=VV aq ao f;simp only[AV.cells]at h1 E;rw[qT _ _ _ _ _ W]at E;simp only[Ca,Is]at z;have N:=E.length;have:=EY w hT (by rw[z];exact N) (B _ (CM fs k+bc) (by rw[N]));rw[z]at this;exact⟨_,this,_,E,rfl⟩
       cases hl
     cases h
 .rename_i n e i V off K M;cases K;cases M;obtain⟨X,g,m,c,q,am,rfl⟩:=hx;cases hn:lk n σ.objs with
  | none=>rw[hn]at h;simp[Ew]at h
  | some o =>
   rw[hn]at h;cases o with
   | box et st fs=>simp[Ew]at h
   | mapo k v l=>simp[Ew]at h
   | frame bd fs=>simp[Ew]at h
   | loop L=>simp[Ew]at h
   | itr ay bb az ba aw=>simp[Ew]at h
   | dfr=>simp[Ew]at h
   | nest et ax k s xs hl =>
    cases hl with
    | some j=>simp[Ew]at h
    | none =>
     simp only[Ew]at h;split at h
     .rename_i ah;subst ah;obtain⟨o,ins,cells,p,Q⟩:=R n _ hn;have q:plc (ρ n)=_:=q;have an:plc (ρ n)=o:=p.plc;have C:=Q.own;rw[<-an,q]at C;obtain⟨rfl,B⟩:=Ye C;have U:xs[i]?=some (xs.getD i (k.dflt,[])):=by grind
      have O:i<ins.length:=by rw[Q.len];exact am
      obtain⟨c1,v1,Y,ab,D⟩:=Q.row i _ ins[i] U (AT O);rcases D with ⟨D,_⟩|⟨_,ae,H⟩
      .cases D
      have aa:c1.length=k.size:=ab.length;unfold Q8 at h;split at h
      .split at h
       .rename_i I;obtain⟨hty,rfl⟩:=I;cases h;have:=EY (ad:=⟨g,i*(Ty.agg (.prod k (.slice s))).size+0,none⟩) w hT (by rw[hty];exact aa) (λj u a=>by
         rw[Jf];refine B _ _ (Y j u ?_);rw[Se (On.1 a).1];exact a)
        rw[hty]at this;exact⟨rfl,_,this,c1,ab,rfl⟩
       cases h
      .split at h
       .rename_i I;obtain⟨hty,rfl⟩:=I;cases h;have:=EY (ad:=⟨g,i*(Ty.agg (.prod k (.slice s))).size+k.size,none⟩) (cs:=[v1]) w hT (by rw[hty];rfl) (λj u a=>by
         have al:j=0:=by have:=(On.1 a).1;simpa using this
         subst al;rw[Jf];refine B _ _ (Y k.size u ?_);rw[Sf oa,aa,AAJ];exact a)
        rw[hty]at this;obtain⟨af,ag,au⟩:=zT ae H;exact⟨rfl,_,this,X,_,af,ag,ins[i],p.resolve_right (λh=>by rw[h.2.2]at O;simp at O),by simp[O],ae,au⟩
       cases h
      cases h
     cases h
   | arr et s xs =>
    simp only[Ew]at h;cases F:BQ (.slice e) ⟨.slice s,xs⟩ with
    | none=>rw[F]at h;simp[KP]at h
    | some ys =>
     obtain⟨rfl,f⟩:=Bk F;cases f;rw[F]at h;simp only[KP]at h;cases S:VJ V s (xs.getD i s.dflt) with
     | none=>rw[S]at h;simp[KO]at h
     | some pv =>
      rw[S]at h;simp only[KO]at h;split at h
      .rename_i I;obtain⟨hty,A⟩:=I;cases h;obtain⟨bi,cells,C,ai⟩:=R n _ hn;have q:plc (ρ n)=_:=q;have C:w.ownsRow 0 et s.size (ρ n) xs.length cells:=C;rw[HW C]at q;rw[q]at C;obtain⟨rfl,B⟩:=Ye C;have U:xs[i]?=some (xs.getD i s.dflt):=by grind
       obtain⟨G,Z,bg,aj⟩:=ai i _ U;obtain⟨W,E⟩:=VV S A aj;have N:=E.length;have:=EY (ad:=⟨g,i*s.size+off,none⟩) w hT (by rw[hty];exact N) (λj u a=>by
        rw[Jf,AC3];rw[UP,AA9]at a;split at a
        .grind
        cases a)
       rw[hty]at this;exact⟨rfl,_,this,_,E,rfl⟩
      cases h
 .rename_i u d K M;cases K;cases M;obtain⟨ad,cs,rfl,bf,F,T⟩:=hx;split at h
  .rename_i hty;cases h;have:=EY w hT (by rw[hty];exact T.length) F;rw[hty]at this;exact⟨rfl,_,this,cs,T,rfl⟩
  cases h
 cases h
end
end
section
open Go Go.RowKit
section
variable {P:Program} {tb:Tb} {id:TypeId} {ti:TI} {w:World} {V:Vw} {vc:Prop} {v:AV} {obs:List (Nat×Obj)}
theorem lR {α:Type} {l:List α} {k:Nat} {x:α} (h:l[k]?=some x):x∈l:=UR h
theorem eH (hT:EK P tb id ti) {u:Ty} (ht:ti.ty=.agg u) (g:ti.el=0) {f k s:Nat} (hf:ti.offs[f]?=some (k,s)) (ad:Addr) (w:World) :
  (Instr.fieldAt id (.pointer (some ad)) f).run P w=.ok (.pointer (some (ad.add k))) w:=by
 obtain⟨⟨⟨o,_⟩,_⟩,a⟩:=hT;rw[ht]at a;simp only at a;rcases a with ⟨fs,_,hu,p⟩|⟨n,e,i,m,_⟩
 .have b:(ti.offs.map some)[f]?=some (some (k,s)):=by simp[hf]
  rw[p]at b;simp only[nO,OR]at b;obtain⟨c,j,h⟩:=b;obtain⟨i,hi,d⟩:=h;cases d;have l:fs[f]?=some c:=by simpa using j
  have hs:i.size≠0:=o _ (lR hf);simp[Instr.fieldAt,Sb hu,l,Instr.sureAddr,fieldPlace,sizeOf,Lj w hi,hs]
 exact absurd g m
theorem eI (hT:EK P tb id ti) {u:Ty} (ht:ti.ty=.agg u) (c:ti.el≠0) {k s:Nat} {z:Int} {kd:IntKind} (h:0<=z) (hf:ti.offs[z.toNat]?=some (k,s)) (ad:Addr) (w:World) :
  (Instr.indexAt id (.pointer (some ad)) (.int kd z)).run P w=.ok (.pointer (some (ad.add k))) w:=by
 obtain⟨_,a⟩:=hT;rw[ht]at a;simp only at a;rcases a with ⟨fs,h0,_⟩|⟨n,e,i,_,hu,hi,g⟩
 .exact absurd h0 c
 rw[g]at hf;simp only[nO,OR]at hf;obtain⟨j,d,b⟩:=hf;cases b;obtain⟨h1,a⟩:=On.1 d;simp only[ABm]at h1;simp only[AAX]at a;subst a;have f:z<(n:Int):=by omega
 simp[Instr.indexAt,asIntOf,Sb hu,Instr.sureAddr,sizeOf,Lj w hi,h,f]
theorem z5 {f:Nat} {o:Option (Nat×Nat)} {x:AV} {xv:Value} {run:Value->Result Value} (y:∀k s ad,o=some (k,s)->run (.pointer (some ad))=.ok (.pointer (some (ad.add k))) w)
  (h:So f o x=some (vc,v,obs)) (hx:B2 V x xv):obs=[]/\∃u,run xv=.ok u w/\B2 V v u:=by
 unfold So at h;split at h
 .rename_i n F off;obtain⟨q,b,z,rfl⟩:=hx;cases o with
  | none=>simp[YI]at h
  | some p =>
   obtain⟨k,s⟩:=p;simp only[YI]at h;cases h;exact⟨rfl,_,y k s _ rfl,q,b,z,by rw[Jf]⟩
 .rename_i n e i F off;obtain⟨q,g,m,c,z,E,rfl⟩:=hx;cases o with
  | none=>simp[YI]at h
  | some p =>
   obtain⟨k,s⟩:=p;simp only[YI]at h;cases h;exact⟨rfl,_,y k s _ rfl,q,g,m,c,z,E,by rw[Jf,AC3]⟩
 .rename_i u d;obtain⟨ad,cs,rfl,C,D,t⟩:=hx;cases r:HS u f d with
  | none=>rw[r]at h;simp[KQ]at h
  | some pv =>
   rw[r]at h;simp only[KQ]at h;split at h
   .rename_i l;cases h;have t:Bx V.w V.O u cs d:=t;obtain⟨h1,H,A,G,B⟩:=PW r t;rw[A]at l;cases o with
    | none=>simp at l
    | some p =>
     obtain⟨k,s⟩:=p;simp only[AAP,AAf]at l;subst l;refine⟨rfl,_,y k s _ rfl,ad.add k,_,rfl,by rw[CH];exact C,λj u a=>?_,B⟩;rw[DL];rw[UP,AA9]at a;split at a
     .exact D _ _ a
     cases a
   cases h
 cases h
theorem A41 (hT:EK P tb id ti) {f:Nat} {x:AV} {xv:Value} (w:World)
  (h:Hz f (some ti) (some x)=some (vc,v,obs)) (hx:B2 V x xv):obs=[]/\∃u,(Instr.fieldAt id xv f).run P w=.ok u w/\B2 V v u:=by
 unfold Hz at h;split at h
 .rename_i u offs b e a c;cases a;cases c;exact z5 (run:=λxv=>(Instr.fieldAt id xv f).run P w) (λk s ad d=>eH hT rfl rfl d ad w) h hx
 cases h
theorem Sz {e:TypeId} (hu:P.underlying id=some (.slice e)) {size:Nat} (hs:(sizeOf e).run P w=.ok size w) (a:Addr) (n c:Nat) (k:IntKind) (i:Int) (h0:0<=i) (h1:i<n) :
  (Instr.indexAt id (.slice (some a) n c) (.int k i)).run P w=.ok (.pointer (some (a.add (i.toNat*size)))) w:=by
 simp[Instr.indexAt,asIntOf,Sb hu,h0,h1,hs]
theorem A9t {e:Ty} {el:TypeId} (hu:P.underlying id=some (.slice el)) (hs:(sizeOf el).run P V.w=.ok e.size V.w) {l:List e.den} {kd:IntKind} {k:Int} {xv:Value}
  (hx:BV V.w V.O (.slice e) xv l) (n:0<=k) (o:k<(l.length:Int)) :
  ∃u,(Instr.indexAt id xv (.int kd k)).run P V.w=.ok u V.w/\B2 V (.ip e (l.getD k.toNat e.dflt)) u:=by
 obtain⟨cs,h,rfl⟩:=hx;obtain⟨a,c,rfl,h1,s,b⟩:=h;have p:k.toNat<l.length:=by omega
 rcases b with b|⟨ad,rfl,f,i⟩
 .subst b;simp at p
 refine⟨_,Sz hu hs _ _ _ _ _ n o,?_⟩;have r:l[k.toNat]?=some (l.getD k.toNat e.dflt):=by grind
 obtain⟨d,t,g,q⟩:=i _ _ r;exact⟨_,d,rfl,by rw[CH];exact f,λj u m=>by rw[DL];exact g j u m,q⟩
theorem A9u {e:Ty} {el:TypeId} (hu:P.underlying id=some (.slice el)) (hs:(sizeOf el).run P V.w=.ok e.size V.w) {n lo hi:Nat} {kd:IntKind} {k:Int} {xv:Value}
  (hx:B2 V (.sr n e lo hi) xv) (h:∀n,V.L n->∃o,A5 V o (V.ρ n)) (j:0<=k) (l:k<((hi-lo:Nat):Int)) :
  ∃u,(Instr.indexAt id xv (.int kd k)).run P V.w=.ok u V.w/\B2 V (.ep n e (lo+k.toNat) [] 0) u:=by
 obtain⟨b,a,m,c,f,z,y,s,t,rfl,x,h0,h1⟩:=hx;have p:lo<hi:=by omega
 have i:=h1 p;obtain⟨o,q⟩:=h n b;obtain⟨g,rfl⟩:∃g,a=some ⟨g,0,none⟩:=by
  obtain⟨_,_,cells,r,_⟩:=Yd q f;rcases r.2 with ⟨d,hn⟩|⟨g,cap,v,d,_⟩
  .injection d;omega
  grind
 subst i;refine⟨_,Sz hu hs _ _ _ _ _ j l,b,g,m,c,f,by omega,?_⟩;rw[DL,d7,ABz];rfl
theorem BM {O:Nat->Prop} {w:World} {kd:IntKind} {k:Int} {v:Value} (h:BV w O (.int kd) v k):v=.int kd k/\KG kd k:=by
 obtain⟨cs,⟨rfl,h1⟩,rfl⟩:=h;exact⟨rfl,h1⟩
theorem BO {O:Nat->Prop} {w:World} {kd:IntKind} {k:Int} (h:KG kd k):BV w O (.int kd) (.int kd k) k:=⟨_,⟨rfl,h⟩,rfl⟩
theorem ED {O:Nat->Prop} {w:World} {b:Bool} {v:Value} (h:BV w O .bool v b):v=.bool b:=by
 obtain⟨cs,h1,rfl⟩:=h;have h1:cs=_:=h1;subst h1;rfl
theorem Br {O:Nat->Prop} {w:World} (b:Bool):BV w O .bool (.bool b) b:=⟨[.bool b],rfl,rfl⟩
theorem Gj {O:Nat->Prop} {w:World} {s:ByteArray} {v:Value} (h:BV w O .str v s):v=.string s/\s.size<=AP:=by
 obtain⟨cs,⟨rfl,h1⟩,rfl⟩:=h;exact⟨rfl,h1⟩
theorem VX {O:Nat->Prop} {w:World} {s:ByteArray} (h:s.size<=AP):BV w O .str (.string s) s:=⟨_,⟨rfl,h⟩,rfl⟩
theorem CQ {e:Ty} {offs:List (Nat×Nat)} {el:TypeId} {bytes:Nat} (hT:EK P tb id ⟨.slice e,offs,el,bytes⟩) (b:DC P tb) :
  P.underlying id=some (.slice el)/\(∀w,(sizeOf el).run P w=.ok e.size w)/\∃te,lk el tb.ty=some te/\te.ty=e:=by
 obtain⟨_,hu,te,a,rfl⟩:=hT;exact⟨hu,λw=>H7 w (b _ _ a),te,a,rfl⟩
theorem A42 (hT:EK P tb id ti) (i:DC P tb) {x y:AV} {xv j:Value}
  (h:GL (some ti) (some x) (some y)=some (vc,v,obs)) (f:vc) (hx:B2 V x xv) (hy:B2 V y j) (p:∀n,V.L n->∃o,A5 V o (V.ρ n)) :
  obs=[]/\∃u,(Instr.indexAt id xv j).run P V.w=.ok u V.w/\B2 V v u:=by
 unfold GL at h;split at h
 .rename_i e offs el bytes m l kd k a c d;cases a;cases c;cases d;split at h
  .rename_i g;subst g;cases h;obtain⟨hu,hs,_⟩:=CQ hT i;obtain⟨rfl,_⟩:=BM hy;exact⟨rfl,A9t hu (hs _) hx f.1 f.2⟩
  cases h
 .rename_i e offs el bytes n m lo hi kd k a c d;cases a;cases c;cases d;split at h
  .rename_i g;subst g;cases h;obtain⟨hu,hs,_⟩:=CQ hT i;obtain⟨rfl,_⟩:=BM hy;exact⟨rfl,A9u hu (hs _) hx p f.1 f.2⟩
  cases h
 .rename_i u offs el b t z a c d;cases a;cases c;cases d;unfold Mn at h;split at h
  .rename_i kd k;split at h
   .rename_i hk;obtain⟨rfl,_⟩:=BM hy;exact z5 (run:=λxv=>(Instr.indexAt id xv (.int kd k)).run P V.w) (λr s ad q=>eI hT rfl sc hk q ad V.w) h hx
   cases h
  cases h
 cases h
theorem KV {k:IntKind} {n:Int} (h:KG k n):k.wrap n=n:=by
 obtain⟨h1,a⟩:=h;cases k<;>simp[IntKind.min,IntKind.max,IntKind.signed,IntKind.bits]at h1 a<;>simp[IntKind.wrap,IntKind.signed,IntKind.bits]<;>omega
theorem Mq (k:IntKind) (n:Int):KG k (k.wrap n):=by
 cases k<;>simp only[KG,IntKind.min,IntKind.max,IntKind.wrap,IntKind.signed,IntKind.bits]<;>simp<;>omega
theorem A6I {op:BinOp} {t:TypeId} {k d:IntKind} {a b:Int} (w:World) (c:(bin op k a d b).1) (ha:KG k a) :
  ∃u,(binOp op t (.int k a) (.int d b)).run P w=.ok u w/\B2 V (bin op k a d b).2 u:=by
 unfold bin at c ⊢;split at c
 .have hb:¬b<0:=by have h:0<=b:=c;omega
  exact⟨_,by simp[binOp,Op.shift,hb];rfl,BO (Mq _ _)⟩
 .have hb:¬b<0:=by have h:0<=b:=c.1;omega
  exact⟨_,by simp[binOp,Op.shift,hb];rfl,BO c.2⟩
 split at c
 .rename_i e f hk;subst hk;cases op<;>simp only[vC]at c ⊢;case add=>exact⟨.int k (a+b),by simp[binOp,Op.intArith,KV c],BO c⟩
  case sub=>exact⟨.int k (a-b),by simp[binOp,Op.intArith,KV c],BO c⟩
  case mul=>exact⟨.int k (a*b),by simp[binOp,Op.intArith,KV c],BO c⟩
  case quo=>exact⟨.int k (a.tdiv b),by simp[binOp,Op.intDiv,c.1,KV c.2],BO c.2⟩
  case rem=>exact⟨.int k (a.tmod b),by simp[binOp,Op.intDiv,c.1],BO c.2⟩
  case and=>exact⟨.int k (Cf .and k a b),by simp only[binOp,ne_eq,ABv,AAp,Op.intBits];rfl,BO (Mq _ _)⟩
  case or=>exact⟨.int k (Cf .or k a b),by simp only[binOp,ne_eq,ABv,AAp,Op.intBits];rfl,BO (Mq _ _)⟩
  case xor=>exact⟨.int k (Cf .xor k a b),by simp only[binOp,ne_eq,ABv,AAp,Op.intBits];rfl,BO (Mq _ _)⟩
  case andNot=>exact⟨.int k (Cf .andNot k a b),by simp only[binOp,ne_eq,ABv,AAp,Op.intBits];rfl,BO (Mq _ _)⟩
  case eql=>exact⟨.bool (a==b),by simp[binOp,Op.intCmp],Br _⟩
  case neq=>exact⟨.bool (a != b),by simp[binOp,Op.intCmp],Br _⟩
  case lss=>exact⟨.bool (decide (a<b)),by simp[binOp,Op.intCmp],Br _⟩
  case leq=>exact⟨.bool (decide (a<=b)),by simp[binOp,Op.intCmp],Br _⟩
  case gtr=>exact⟨.bool (decide (b<a)),by simp[binOp,Op.intCmp],Br _⟩
  case geq=>exact⟨.bool (decide (b<=a)),by simp[binOp,Op.intCmp],Br _⟩
 exact c.elim
theorem A43 {op:BinOp} {t:TypeId} {a b:ByteArray} (w:World) (c:(aF a b op).1) :
  ∃u,(binOp op t (.string a) (.string b)).run P w=.ok u w/\B2 V (aF a b op).2 u:=by
 cases op<;>simp only[aF]at c ⊢;case add =>
  have d:AP=140737488355328:=rfl;have hh:¬(((a.size+b.size:Nat):Int) > IntKind.i64.max):=by
   have:IntKind.i64.max=9223372036854775807:=by decide
   omega
  exact⟨.string (a++b),by simp only[binOp,Op.stringOp,BY hh];rfl,VX (by simpa[AAY] using c)⟩
 case eql=>exact⟨.bool (Ac a b),by simp only[binOp,Op.stringOp];rfl,Br _⟩
 case neq=>exact⟨.bool (!Ac a b),by simp only[binOp,Op.stringOp];rfl,Br _⟩
 case lss=>exact⟨.bool (Ce a b),by simp only[binOp,Op.stringOp];rfl,Br _⟩
 case leq=>exact⟨.bool (Ce a b||Ac a b),by simp only[binOp,Op.stringOp];rfl,Br _⟩
 case gtr=>exact⟨.bool (!(Ce a b||Ac a b)),by simp only[binOp,Op.stringOp];rfl,Br _⟩
 case geq=>exact⟨.bool (!Ce a b),by simp only[binOp,Op.stringOp];rfl,Br _⟩
 all_goals exact c.elim
theorem A8i {op:BinOp} {t:TypeId} {ti:Option TI} (j:VM ti=true->P.underlying t=some .bool) {x y:AV} {xv g:Value} (w:World)
  (h:Tv op ti (some x) (some y)=some (vc,v,obs)) (i:vc) (hx:B2 V x xv) (hy:B2 V y g) :
  obs=[]/\(∀e f,(eqGuard op t e f xv g).run P w=.ok () w)/\∃u,(binOp op t xv g).run P w=.ok u w/\B2 V v u:=by
 unfold Tv at h;split at h
 .rename_i k a l b c d;cases c;cases d;cases h;obtain⟨rfl,ha⟩:=BM hx;obtain⟨rfl,_⟩:=BM hy;refine⟨rfl,λe f=>?_,A6I w i ha⟩;cases op<;>simp[eqGuard]
 .rename_i a b c d;cases c;cases d;cases h;obtain⟨rfl,ha⟩:=Gj hx;obtain⟨rfl,_⟩:=Gj hy;refine⟨rfl,λe f=>?_,A43 w i⟩;cases op<;>simp[eqGuard]
 .rename_i a b c d;cases c;cases d;have ha:=ED hx;have hb:=ED hy;subst ha hb;split at h
  .rename_i hb;have hu:=j hb;cases op<;>simp only[vH]at h<;>cases h
   .exact⟨rfl,λe f=>by simp[eqGuard],.bool (a==b),by simp[binOp,run_equal_bool w t a b hu],Br _⟩
   exact⟨rfl,λe f=>by simp[eqGuard],.bool (a != b),by simp[binOp,run_equal_bool w t a b hu,bne],Br _⟩
  cases h
 cases h
theorem A9v {op:UnOp} {x:AV} {xv:Value} (w:World) (h:qUn op (some x)=some (vc,v,obs)) (c:vc) (hx:B2 V x xv) :
  obs=[]/\∃u,(Op.unary op xv).run P w=.ok u w/\B2 V v u:=by
 unfold qUn at h;split at h
 .rename_i b d;cases d;cases h;have:=ED hx;subst this;exact⟨rfl,.bool (!b),by simp[Op.unary],Br _⟩
 .rename_i k a d;cases d;cases h;obtain⟨rfl,ha⟩:=BM hx;have c:KG k (0-a):=c;exact⟨rfl,_,by simp only[Op.unary,Op.intArith,KV c];rfl,BO c⟩
 cases h
end
end
section
open Go Go.RowKit
section
variable {P:Program} {tb:Tb} {id:TypeId} {ti:TI} {w:World} {V:Vw} {vc:Prop} {v:AV} {obs:List (Nat×Obj)}
theorem lS (l:List Int):(Sp l).size=l.length:=by
 show (Sp l).data.size=l.length;unfold Sp;simp
theorem A6J (B:DC P tb) (C:V.w=w) {s t:TypeId} {r ti:TI} (hs:EK P tb s r) (ht:EK P tb t ti) {x:AV} {xv:Value} (h:K9 (some r) (some ti) (some x)=some (vc,v,obs)) (i:vc) (hx:B2 V x xv) :
  obs=[]/\∃u,(convert s t xv).run P w=.ok u w/\B2 V v u:=by
 unfold K9 at h;split at h
 .rename_i M N e1 b1 k O e2 b2 U a m n o;cases m;cases n;cases o;cases h;obtain⟨rfl,ha⟩:=BM hx;have i:KG k a:=i;have f:P.underlying s=some (.int M):=hs.2;have g:P.underlying t=some (.int k):=ht.2;refine⟨rfl,.int k a,?_,BO i⟩;simp[convert,Sb f,Sb g,Conv.intToInt,KV i]
 .rename_i N e1 b1 O e2 b2 l m n o;cases m;cases n;cases o;cases h;obtain⟨f,te,J,hty⟩:=hs.2;have g:P.underlying t=some .string:=ht.2;have q:P.underlying e1=some (.int .u8):=by
   have:=(B _ _ J).2;rw[hty]at this;exact this
  obtain⟨cs,⟨a,c,rfl,h1,z,d⟩,rfl⟩:=hx;have I:(Sp l).size<=AP:=by rw[lS];exact z
  refine⟨rfl,.string (Sp l),?_,⟨[.string (Sp l)],⟨rfl,I⟩,rfl⟩⟩;have G:a=none->l=[]:=λe=>by grind
  cases a with
  | none =>
   have:=G rfl;subst this;show (convert s t (.slice none 0 c)).run P w=_;have y:Sp []=ByteArray.empty:=rfl;rw[y];simp[convert,Sb f,Sb g,Sb q,Conv.bytesToString]
  | some ad =>
   have hb:=run_convert_bytes_back (P:=P) w s t e1 ad c (l.map λx=>UInt8.ofNat x.toNat) f q g λj p=>by
    have b:j<List.length l:=by rw[OF]at p;exact p
    rcases d with d|⟨Q,d,S,A⟩
    .rw[d]at b;cases b
    cases d;obtain⟨R,-,E,H⟩:=A j l[j] (AT b);obtain⟨rfl,F⟩:=H;have D:=E 0 (.int .u8 l[j]) rfl;rw[C]at D;obtain⟨K,L⟩:(0:Int)<=(l:List Int)[j]'b/\(l:List Int)[j]'b<=255:=by
     simpa[KG,IntKind.min,IntKind.max,IntKind.signed,IntKind.bits] using F
    have e:(((List.map (λx:Int=>UInt8.ofNat x.toNat) l)[j]'p).toNat:Int)=l[j]:=by
     rw[AAU,UInt8.toNat_ofNat'];have T:((l:List Int)[j]'b).toNat % 2 ^ 8=((l:List Int)[j]'b).toNat:=Nat.mod_eq_of_lt ((Int.toNat_lt K).2 (ABW L dc));grind
    grind [Ty.size]
   rw[OF]at hb;exact hb
 cases h
theorem A8j (p:∀n,V.L n->∃o,A5 V o (V.ρ n)) {x:AV} {xv:Value} {t ty:TypeId} (hT:EK P tb t ti) (w:World) (h:VN (some ti) (some x)=some (vc,v,obs)) (hx:B2 V x xv) :
  obs=[]/\∃u,(Builtin.len_ #[t] ty #[xv]).run P w=.ok u w/\B2 V v u:=by
 have g:∀n:Nat,n<=AP->KG .i64 (n:Int):=λn hn=>by
  simp[KG,IntKind.min,IntKind.max,IntKind.signed,IntKind.bits];simp[AP]at hn;omega
 unfold VN at h;split at h
 .rename_i e o el b e2 l d f;cases d;cases f;cases h;obtain⟨cs,⟨a,c,rfl,h1,q,_⟩,rfl⟩:=hx;have hu:=hT.2.1;exact⟨rfl,.int .i64 (List.length l:Int),by simp[Builtin.len_,Sb hu,goInt,Ty.wrap],BO (g _ q)⟩
 .rename_i e o el b n e2 lo hi d f;cases d;cases f;cases h;obtain⟨j,a,m,c,A,G,F,C,D,rfl,E,h0,h1⟩:=hx;have hu:=hT.2.1;obtain⟨B,k⟩:=p n j;obtain⟨_,_,_,_,this⟩:=Yd k A;exact⟨rfl,.int .i64 ((hi-lo:Nat):Int),by simp[Builtin.len_,Sb hu,goInt],BO (g _ oa)⟩
 .rename_i e o el b n e2 i len d f;cases d;cases f;cases h;obtain⟨j,I,a,c,H,z,y,r,rfl⟩:=hx;have hu:=hT.2.1;obtain⟨B,k⟩:=p n j;have:=A3V k z y r rfl;exact⟨rfl,.int .i64 (len:Int),by simp[Builtin.len_,Sb hu,goInt],BO (g _ this)⟩
 .rename_i e o el b d f;cases d;cases f;cases h;have hx:xv=_:=hx;subst hx;have hu:=hT.2.1;exact⟨rfl,.int .i64 0,by simp[Builtin.len_,Sb hu,goInt],BO (g 0 sc)⟩
 .rename_i o el b s d f;cases d;cases f;cases h;obtain⟨rfl,h1⟩:=Gj hx;have hu:P.underlying t=some .string:=hT.2;exact⟨rfl,.int .i64 (s.size:Int),by simp[Builtin.len_,Sb hu,goInt],BO (g _ h1)⟩
 cases h
theorem vJ {i:Nat} {x:AV} {xv:Value} (w:World) (h:E4 i (some x)=some (vc,v,obs)) (hx:B2 V x xv) :
  obs=[]/\∃u,(Instr.extract xv i).run P w=.ok u w/\B2 V v u:=by
 have get:∀(l:List AV) (a:List Value) (i:Nat) (y:AV),H5 V l a->l[i]?=some y->∃u,a[i]?=some u/\B2 V y u:=by
  intro l;induction l with
  | nil=>intro a i y _ h;simp at h
  | cons z r f =>
   intro a i y b h;obtain⟨u,g,rfl,h1,c⟩:=b;cases i with
   | zero =>
    simp at h;subst h;exact⟨u,rfl,zS h1⟩
   | succ i=>exact f g i y c (by simpa using h)
 unfold E4 at h;split at h
 .rename_i l d;cases d;obtain⟨a,rfl,b⟩:=hx;cases hl:l[i]? with
  | none=>rw[hl]at h;simp[G9]at h
  | some y =>
   rw[hl]at h;simp only[G9]at h;cases h;obtain⟨u,hu,e⟩:=get l a i _ b hl;exact⟨rfl,u,by simp[Instr.extract,hu],e⟩
 cases h
theorem A8k {x y:AV} {xv c:Value} {ts:Array TypeId} {ty:TypeId} (w:World) (h:Tw (some x) (some y)=some (vc,v,obs)) (hx:B2 V x xv) (hy:B2 V y c) :
  obs=[]/\∃u,(Builtin.min_ ts ty #[xv,c]).run P w=.ok u w/\B2 V v u:=by
 unfold Tw at h;split at h
 .rename_i k a f b d e;cases d;cases e;split at h
  .rename_i hk;subst hk;cases h;obtain⟨rfl,ha⟩:=BM hx;obtain⟨rfl,hb⟩:=BM hy;have ha:KG k a:=ha;have hb:KG k b:=hb;refine⟨rfl,.int k (if (b:Int)<a then b else a),by simp[Builtin.min_,Builtin.min2],BO ?_⟩;split
   .exact hb
   exact ha
  cases h
 cases h
theorem A6K {x y z:AV} {xv e f:Value} {ts:Array TypeId} {ty:TypeId} (w:World) (h:Jh (some x) (some y) (some z)=some (vc,v,obs)) (hx:B2 V x xv) (hy:B2 V y e) (n:B2 V z f) :
  obs=[]/\∃u,(Builtin.min_ ts ty #[xv,e,f]).run P w=.ok u w/\B2 V v u:=by
 unfold Jh at h;split at h
 .rename_i k a o b p c g i j;cases g;cases i;cases j;split at h
  .rename_i hk;obtain⟨l,m⟩:=hk;subst l;subst m;cases h;obtain⟨rfl,ha⟩:=BM hx;obtain⟨rfl,hb⟩:=BM hy;obtain⟨rfl,d⟩:=BM n;have ha:KG k a:=ha;have hb:KG k b:=hb;have d:KG k c:=d;refine⟨rfl,.int k (if (c:Int)<(if (b:Int)<a then b else a) then c else (if (b:Int)<a then b else a)),by simp[Builtin.min_,Builtin.min2],BO ?_⟩;by_cases e1:(b:Int)<a
   .grind
   grind
  cases h
 cases h
theorem A8l {x y:AV} {xv c:Value} {ts:Array TypeId} {ty:TypeId} (w:World) (h:Tx (some x) (some y)=some (vc,v,obs)) (hx:B2 V x xv) (hy:B2 V y c) :
  obs=[]/\∃u,(Builtin.max_ ts ty #[xv,c]).run P w=.ok u w/\B2 V v u:=by
 unfold Tx at h;split at h
 .rename_i k a f b d e;cases d;cases e;split at h
  .rename_i hk;subst hk;cases h;obtain⟨rfl,ha⟩:=BM hx;obtain⟨rfl,hb⟩:=BM hy;have ha:KG k a:=ha;have hb:KG k b:=hb;refine⟨rfl,.int k (if (a:Int)<b then b else a),by simp[Builtin.max_,Builtin.max2],BO ?_⟩;split
   .exact hb
   exact ha
  cases h
 cases h
theorem A6L {t:TypeId} (hu:P.underlying t=some .string) (w:World) {s:ByteArray} {kd:IntKind} {k:Int} (h0:0<=k) (h1:k<(s.size:Int)) :
  (Instr.index t (.string s) (.int kd k)).run P w=.ok (.int .u8 ((s.data.getD k.toNat 0).toNat:Int)) w/\KG .u8 ((s.data.getD k.toNat 0).toNat:Int):=by
 have a:k.toNat<s.size:=by omega
 have d:k.toNat<s.data.size:=a;have c:s[k.toNat]?=some (s.data.getD k.toNat 0):=by
  rw[getElem?_pos s k.toNat a];simp only[Array.getD,d,dite_true];rfl
 refine⟨by simp[Instr.index,asIntOf,Sb hu,h0,c],?_⟩;generalize s.data.getD k.toNat 0=b;have:=b.toNat_lt;simp[KG,IntKind.min,IntKind.max,IntKind.signed,IntKind.bits];omega
theorem z6 {t:TypeId} {x y:AV} {xv c:Value} (hT:EK P tb t ti) (w:World) (h:Ej (some ti) (some x) (some y)=some (vc,v,obs)) (a:vc) (hx:B2 V x xv) (hy:B2 V y c) :
  obs=[]/\∃u,(Instr.index t xv c).run P w=.ok u w/\B2 V v u:=by
 unfold Ej at h;split at h
 .rename_i o el b s kd k e f g;cases e;cases f;cases g;cases h;obtain⟨rfl,_⟩:=Gj hx;obtain⟨rfl,_⟩:=BM hy;have hu:P.underlying t=some .string:=hT.2;obtain⟨h1,d⟩:=A6L (P:=P) hu w (kd:=kd) a.1 a.2;exact⟨rfl,_,h1,BO d⟩
 cases h
theorem A8m {x:AV} {xv:Value} (h:YJ (some x)=some (vc,v,obs)) (hx:B2 V x xv):obs=[]/\(∃ad,xv=.pointer (some ad))/\B2 V v xv:=by
 unfold YJ at h;split at h
 .rename_i a;cases a;cases h;obtain⟨d,b,e,rfl⟩:=hx;exact⟨rfl,⟨_,rfl⟩,d,b,e,rfl⟩
 .rename_i a;cases a;cases h;obtain⟨ad,cs,rfl,r⟩:=hx;exact⟨rfl,⟨_,rfl⟩,ad,cs,rfl,r⟩
 .rename_i a;cases a;cases h;obtain⟨d,g,m,c,e,f,rfl⟩:=hx;exact⟨rfl,⟨_,rfl⟩,d,g,m,c,e,f,rfl⟩
 cases h
end
end
section
open Go Go.RowKit
section
variable {P:Program} {tb:Tb} {id:TypeId} {ti:TI} {V:Vw} {vc:Prop} {v:AV} {obs:List (Nat×Obj)}
def FG (a:Option Addr) (c l sz:Nat):Option Addr:=if c=l then a else a.map (·.add (l*sz))
inductive qU:Option Value->Nat->Nat->Prop
 | none (d:Nat):qU none d d
 | some (k:IntKind) (z:Int) (d:Nat) (h:0<=z):qU (some (.int k z)) d z.toNat
theorem z7 {el:TypeId} (hu:P.underlying id=some (.slice el)) {sz:Nat} (w:World) (hs:(sizeOf el).run P w=.ok sz w) {a:Option Addr} {n c l h:Nat} {lo hi:Option Value}
  (hl:qU lo 0 l) (hh:qU hi n h) (h1:l<=h) (i:h<=c) :
  (Instr.sliceAt id (.slice a n c) lo hi none).run P w=.ok (.slice (FG a c l sz) (h-l) (c-l)) w:=by
 cases hl with
 | none =>
  cases hh with
  | none=>simp[Instr.sliceAt,Sb hu,Instr.slice,Instr.sliceBounds,hs,FG]
  | some k z _ b =>
   have e:z<=(c:Int):=by omega
   simp[Instr.sliceAt,Sb hu,Instr.slice,Instr.sliceBounds,Instr.sliceBound,asIntOf,hs,FG,b,e]
 | some k z _ b =>
  cases hh with
  | none =>
   have e:z<=(n:Int):=by omega
   simp[Instr.sliceAt,Sb hu,Instr.slice,Instr.sliceBounds,Instr.sliceBound,asIntOf,hs,FG,b,e]
  | some j d _ g =>
   have e:d<=(c:Int):=by omega
   have e2:max d 0=d:=by omega
   have f:z<=d:=by omega
   simp[Instr.sliceAt,Sb hu,Instr.slice,Instr.sliceBounds,Instr.sliceBound,asIntOf,hs,FG,b,g,e,e2,f]
theorem A6M (hu:P.underlying id=some .string) (w:World) {s:ByteArray} {l h:Nat} {lo hi:Option Value} (hl:qU lo 0 l) (hh:qU hi s.size h) (h1:l<=h) (f:h<=s.size) :
  (Instr.sliceAt id (.string s) lo hi none).run P w=.ok (.string (s.extract l h)) w:=by
 cases hl with
 | none =>
  cases hh with
  | none=>simp[Instr.sliceAt,Sb hu,Instr.slice,Instr.sliceBounds]
  | some k z _ a =>
   have e:z<=(s.size:Int):=by omega
   simp[Instr.sliceAt,Sb hu,Instr.slice,Instr.sliceBounds,Instr.sliceBound,asIntOf,a,e]
 | some k z _ a =>
  cases hh with
  | none =>
   have e:z<=(s.size:Int):=by omega
   simp[Instr.sliceAt,Sb hu,Instr.slice,Instr.sliceBounds,Instr.sliceBound,asIntOf,a,e]
  | some g b _ d =>
   have e:b<=(s.size:Int):=by omega
   have e2:max b 0=b:=by omega
   have c:z<=b:=by omega
   simp[Instr.sliceAt,Sb hu,Instr.slice,Instr.sliceBounds,Instr.sliceBound,asIntOf,a,d,e,e2,c]
theorem A44 {e:Ty} {xs:List e.den} {a:Option Addr} {n c l h:Nat} (k:Bx V.w V.O (.slice e) [.slice a n c] xs) (h1:l<=h) (f:h<=xs.length) :
  BV V.w V.O (.slice e) (.slice (FG a c l e.size) (h-l) (c-l)) (sub xs l h)/\n=xs.length/\h<=c:=by
 obtain⟨m,o,d,p,q,b⟩:=k;injection d with d
 injection d with e1 e2 g
 subst e1;subst e2;subst g;have hl:=OJ xs (lo:=l) f;refine⟨⟨_,⟨FG a c l e.size,c-l,by rw[hl],by rw[hl];omega,by rw[hl];omega,?_⟩,rfl⟩,rfl,by omega⟩;by_cases s:l<h
 .right;rcases b with b|⟨ad,rfl,j,r⟩
  .subst b;simp at f;omega
  refine⟨ad.add (l*e.size),?_,by rw[CH];exact j,λi x hi=>?_⟩
  .grind [FG]
  obtain⟨hx,_⟩:=aK xs l h i hi;grind [DL]
 simp_all
theorem z8 {loc:Value} {sz b c0 l h:Nat} {a:Option Addr} {n c:Nat} (q:DP loc sz b c0 (.slice a n c)) (h1:l<=h) (v:h<=c0-b) :
  DP loc sz (b+l) (b+h) (.slice (FG a c l sz) (h-l) (c-l))/\n=c0-b/\h<=c:=by
 obtain⟨d,m,e,o,hb,x,t,u,r,w,g,i⟩:=q;injection r with e1 e2 f
 subst e1;subst e2;subst f;refine⟨⟨d,m,e,o,by omega,by omega,FG a c l sz,c-l,by rw[show b+h-(b+l)=h-l by omega],by omega,λz=>?_,λy=>?_⟩,rfl,by omega⟩
 .have j:b=0:=by omega
  have k:l=0:=by omega
  subst j;subst k;obtain⟨s,A⟩:=g rfl;refine⟨?_,by omega⟩;rw[<-s];unfold FG;split
  .rfl
  simp only[AC8];cases a<;>rfl
 have:=i oa;subst this;have p:¬c=l:=by omega
 simp only[FG,BY p,Option.map_map]
 congr 1
 grind [DL]
theorem Tz (s:ByteArray) (l h:Nat):(s.extract l h).size<=s.size:=by
 simp only[ByteArray.size_extract];omega
theorem VY (hT:EK P tb id ti) (k:DC P tb) {e:Ty} (f:ti.ty=.slice e) {l:List e.den} {xv:Value} {lo hi:Option Value} {a h:Nat}
  (hx:BV V.w V.O (.slice e) xv l) (hl:qU lo 0 a) (hh:qU hi l.length h) (h1:a<=h) (g:h<=l.length) :
  ∃u,(Instr.sliceAt id xv lo hi none).run P V.w=.ok u V.w/\B2 V (.p (.slice e) (sub l a h)) u:=by
 obtain⟨ty,offs,el,bytes⟩:=ti;simp only at f;subst f;obtain⟨hu,hs,_⟩:=CQ hT k;obtain⟨cs,b,rfl⟩:=hx;obtain⟨d,c,rfl,r⟩:=b;have b:Bx V.w V.O (.slice e) [.slice d l.length c] l:=⟨d,c,rfl,r⟩;obtain⟨i,_,j⟩:=A44 b h1 g;exact⟨_,z7 hu _ (hs _) hl hh h1 j,i⟩
theorem VZ (hT:EK P tb id ti) (k:DC P tb) {n b c0:Nat} {e:Ty} (c:ti.ty=.slice e) {xv:Value} {lo hi:Option Value} {a h:Nat}
  (hx:B2 V (.sr n e b c0) xv) (hl:qU lo 0 a) (hh:qU hi (c0-b) h) (h1:a<=h) (f:h<=c0-b) :
  ∃u,(Instr.sliceAt id xv lo hi none).run P V.w=.ok u V.w/\B2 V (.sr n e (b+a) (b+h)) u:=by
 obtain⟨ty,offs,el,bytes⟩:=ti;simp only at c;subst c;obtain⟨hu,hs,_⟩:=CQ hT k;obtain⟨j,d⟩:=hx;have l:=d;obtain⟨_,_,_,_,_,_,m,o,rfl,_⟩:=l;obtain⟨g,p,i⟩:=z8 d h1 f;exact⟨_,z7 hu _ (hs _) hl hh h1 i,j,g⟩
theorem Va (hT:EK P tb id ti) (c:ti.ty=.str) {s:ByteArray} {xv:Value} {lo hi:Option Value} {a h:Nat}
  (hx:BV V.w V.O .str xv s) (hl:qU lo 0 a) (hh:qU hi s.size h) (h1:a<=h) (b:h<=s.size) :
  ∃u,(Instr.sliceAt id xv lo hi none).run P V.w=.ok u V.w/\B2 V (.p .str (s.extract a h)) u:=by
 obtain⟨rfl,d⟩:=Gj hx;have hu:=hT.2;rw[c]at hu;exact⟨_,A6M hu _ hl hh h1 b,VX (SX (Tz s a h) d)⟩
theorem JG {z:Int} {n:Nat} (_h:0<=z) (a:z<=(n:Int)):z.toNat<=n:=by omega
theorem aP {a b:Int} (h:a<=b):a.toNat<=b.toNat:=by omega
def eJ:Option AV->Option Value->Prop
 | none,none=>True
 | some x,some v=>B2 V x v
 | _,_=>False
theorem z9 (hT:EK P tb id ti) (j:DC P tb) {x ha i:AV} {xv f g:Value} (h:EM (some ti) (some x) (some ha) (some i)=some (vc,v,obs)) (z:vc) (hx:B2 V x xv) (hh:B2 V ha f) (s:B2 V i g) :
  obs=[]/\∃u,(Instr.sliceAt id xv none (some f) (some g)).run P V.w=.ok u V.w/\B2 V v u:=by
 unfold EM at h;split at h
 .rename_i e offs el bytes C l A a B b k m n o;cases k;cases m;cases n;cases o;split at h
  .rename_i p;subst p;cases h;obtain⟨hu,hs,_⟩:=CQ hT j;obtain⟨rfl,rfl⟩:=z;obtain⟨rfl,_⟩:=BM (hh:BV V.w V.O (.int A) f _);obtain⟨rfl,_⟩:=BM (s:BV V.w V.O (.int B) g _);obtain⟨cs,y,rfl⟩:=(hx:BV V.w V.O (.slice e) xv l);obtain⟨d,c,rfl,r,t,q⟩:=y;refine⟨rfl,.slice d (List.length l) (List.length l),?_,⟨_,⟨d,_,rfl,No _,t,q⟩,rfl⟩,d,rfl⟩;have e1:((List.length l:Nat):Int)<=(c:Int):=by omega
   have e2:(0:Int)<=((List.length l:Nat):Int):=by omega
   simp[Ty.wrap,Instr.sliceAt,Sb hu,Instr.slice,Instr.sliceBounds,Instr.sliceBound,asIntOf,hs V.w,e1,e2,Addr.add];intro D;exact absurd r oa
  cases h
 cases h
theorem A45 (hT:EK P tb id ti) (i:DC P tb) {x:AV} {xv:Value} {lo hi:Option AV} {C B:Option Value}
  (h:Fi (some ti) (some x) (some lo) (some hi)=some (vc,v,obs)) (a:vc) (hx:B2 V x xv) (f:eJ (V:=V) lo C) (c:eJ (V:=V) hi B) :
  obs=[]/\∃u,(Instr.sliceAt id xv C B none).run P V.w=.ok u V.w/\B2 V v u:=by
 have g:∀ {o:Option Value} (d:Nat),eJ (V:=V) none o->qU o d d:=λ{o} d h=>by
  cases o with
  | none=>exact .none d
  | some v=>exact h.elim
 have b1:∀ {o:Option Value} {k:IntKind} {z:Int} (d:Nat),eJ (V:=V) (some (.p (.int k) z)) o->0<=z->qU o d z.toNat:=λ{o k z} d h E=>by
  cases o with
  | none=>exact h.elim
  | some v =>
   obtain⟨rfl,_⟩:=BM (h:BV V.w V.O (.int k) v z);exact .some k z d E
 unfold Fi at h;split at h
 .rename_i e offs el bytes D l A h0 m q r t;cases m;cases q;cases r;cases t;split at h
  .rename_i y;subst y;have hx:BV V.w V.O (.slice e) xv l:=hx;unfold JC at h;split at h<;>first|(cases h;done)|(rename_i j;cases j<;>cases h)
   .exact⟨rfl,VY hT i rfl hx (g 0 f) (b1 _ c a.1) (ON _) (JG a.1 a.2)⟩
   .exact⟨rfl,VY hT i rfl hx (b1 0 f a.1) (g _ c) (JG a.1 a.2) (No _)⟩
   exact⟨rfl,VY hT i rfl hx (b1 0 f a.1) (b1 _ c (AAv a.1 a.2.1)) (aP a.2.1) (JG (AAv a.1 a.2.1) a.2.2)⟩
  cases h
 .rename_i e offs el bytes n D b c0 A h0 m q r t;cases m;cases q;cases r;cases t;split at h
  .rename_i y;subst y;unfold JC at h;split at h<;>first|(cases h;done)|(rename_i j;cases j<;>cases h)
   .refine⟨rfl,?_⟩;have:=VZ (P:=P) hT i rfl hx (g 0 f) (b1 _ c a.1) (ON _) (JG a.1 a.2);simpa using this
   .refine⟨rfl,?_⟩;have:=VZ (P:=P) hT i rfl hx (b1 0 f a.1) (g _ c) (JG a.1 a.2) (No _);have G:=JG a.1 a.2;obtain⟨_,_,_,_,_,F,_⟩:=hx;grind
   exact⟨rfl,VZ hT i rfl hx (b1 0 f a.1) (b1 _ c (AAv a.1 a.2.1)) (aP a.2.1) (JG (AAv a.1 a.2.1) a.2.2)⟩
  cases h
 .rename_i offs el bytes s A h0 m q r t;cases m;cases q;cases r;cases t;have hx:BV V.w V.O .str xv s:=hx;unfold JC at h;split at h<;>first|(cases h;done)|(rename_i j;cases j<;>cases h)
  .exact⟨rfl,Va hT rfl hx (g 0 f) (b1 _ c a.1) (ON _) (JG a.1 a.2)⟩
  .exact⟨rfl,Va hT rfl hx (b1 0 f a.1) (g _ c) (JG a.1 a.2) (No _)⟩
  exact⟨rfl,Va hT rfl hx (b1 0 f a.1) (b1 _ c (AAv a.1 a.2.1)) (aP a.2.1) (JG (AAv a.1 a.2.1) a.2.2)⟩
 cases h
end
end
end Go.Proofs.YtapkhdkbkodbjaaGreat.Fw
