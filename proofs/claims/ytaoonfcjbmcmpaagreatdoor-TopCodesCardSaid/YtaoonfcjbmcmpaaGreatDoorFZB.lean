/- The executor's quiet operations are sound, first part. -/
import Derived.Test.YtaoonfcjbmcmpaaGreatDoorFZA
import Derived.Laws.IdiomStrings
set_option linter.unusedVariables false
set_option linter.unusedSimpArgs false
namespace Go.Proofs.YtaoonfcjbmcmpaaGreatDoor.Fw
section
open Go Go.RowKit
theorem Mf {w:World} {O:Nat->Prop}:∀ {t:Ty} {k:Nat} {d:t.den} {pv:PV} {cs:List Value},GM t k d=some pv->Bl w O t cs d ->
  UY t k=some pv.t/\∃o,I2 t k=some o/\o+pv.t.size<=t.size/\Bl w O pv.t ((cs.drop o).take pv.t.size) pv.d
 | .prod a b,0,d,pv,cs,h,c=>by
  simp only[GM]at h;cases h;obtain⟨c1,c2,rfl,f,g⟩:=c;refine⟨rfl,0,rfl,by simp[Ty.size],?_⟩;have e:=f.length;simp only[AAz,<-e,List.take_left];exact f
 | .prod a b,k+1,d,pv,cs,h,c=>by
  simp only[GM]at h;obtain⟨c1,c2,rfl,f,g⟩:=c;obtain⟨i,o,j,m,l⟩:=Mf h g;refine⟨i,a.size+o,by simp[I2,j],by simp[Ty.size];omega,?_⟩;have e:=f.length;rw[<-e,<-ABZ,List.drop_left];exact l
 | .int _,0,d,pv,cs,h,c=>by
  simp only[GM]at h;cases h;refine⟨rfl,0,rfl,by simp,?_⟩;have e:=c.length;simp only[AAz,<-e,TO];exact c
 | .bool,0,d,pv,cs,h,c=>by
  simp only[GM]at h;cases h;refine⟨rfl,0,rfl,by simp,?_⟩;have e:=c.length;simp only[AAz,<-e,TO];exact c
 | .str,0,d,pv,cs,h,c=>by
  simp only[GM]at h;cases h;refine⟨rfl,0,rfl,by simp,?_⟩;have e:=c.length;simp only[AAz,<-e,TO];exact c
 | .slice _,0,d,pv,cs,h,c=>by
  simp only[GM]at h;cases h;refine⟨rfl,0,rfl,by simp,?_⟩;have e:=c.length;simp only[AAz,<-e,TO];exact c
 | .ref _,0,d,pv,cs,h,c=>by
  simp only[GM]at h;cases h;refine⟨rfl,0,rfl,by simp,?_⟩;have e:=c.length;simp only[AAz,<-e,TO];exact c
 | .ref _,_+1,d,pv,cs,h,c=>by simp[GM]at h
 | .agg _,0,d,pv,cs,h,c=>by
  simp only[GM]at h;cases h;refine⟨rfl,0,rfl,by simp,?_⟩;have e:=c.length;simp only[AAz,<-e,TO];exact c
 | .int _,_+1,d,pv,cs,h,c=>by simp[GM]at h
 | .bool,_+1,d,pv,cs,h,c=>by simp[GM]at h
 | .str,_+1,d,pv,cs,h,c=>by simp[GM]at h
 | .slice _,_+1,d,pv,cs,h,c=>by simp[GM]at h
 | .agg _,_+1,d,pv,cs,h,c=>by simp[GM]at h
theorem Uk {α:Type} (cs:List α) (o m a n:Nat) (h:a+n<=m):(((cs.drop o).take m).drop a).take n=(cs.drop (o+a)).take n:=by
 rw[List.drop_take,List.take_take,ABZ]
 congr 1
 omega
theorem QK {w:World} {O:Nat->Prop}:∀ {f:List Nat} {t:Ty} {d:t.den} {pv:PV} {cs:List Value} {off:Nat},Pb f t d=some pv->J4 f t=some off->Bl w O t cs d ->
  off+pv.t.size<=t.size/\Bl w O pv.t ((cs.drop off).take pv.t.size) pv.d
 | [],t,d,pv,cs,off,h,a,b=>by
  simp only[Pb]at h;simp only[J4]at a;cases h;cases a;have e:=b.length;simp only[AAz,<-e,TO];exact⟨by simp[e],b⟩
 | k :: r,t,d,pv,cs,off,h,a,b=>by
  cases t<;>simp only[Pb,J4]at h a<;>try(cases h;done)
  rename_i t;split at h
  .rename_i p hp;have b:Bl w O t cs d:=b;obtain⟨g,o,i,n,j⟩:=Mf hp b;rw[g,i]at a;simp only[GO]at a;obtain⟨q,m,rfl⟩:=a;obtain⟨l,c⟩:=QK h m j;refine⟨by simp only[Ty.size];omega,?_⟩;rw[Uk _ _ _ _ _ l]at c;exact c
  cases h
def A2 {α:Type} (cs:List α) (o:Nat) (es:List α):List α:=cs.take o++es++cs.drop (o+es.length)
theorem Dp {α:Type} {cs:List α} {o:Nat} {es:List α} (h:o+es.length<=cs.length):(A2 cs o es).length=cs.length:=by
 simp[A2];omega
theorem Dd {α:Type} {cs es:List α} (h:es.length=cs.length):A2 cs 0 es=es:=by
 simp[A2,h]
theorem Mg {α:Type} (a b:List α) (o:Nat) (es:List α):A2 (a++b) (a.length+o) es=a++A2 b o es:=by
 simp only[A2,List.take_append,List.drop_append,oN];have c:List.take (a.length+o) a=a:=By oa;have d:List.drop (a.length+o+es.length) a=[]:=OR oa;have e:a.length+o-a.length=o:=by omega
 have f:a.length+o+es.length-a.length=o+es.length:=by omega
 rw[c,d,e,f];simp
theorem Ou {α:Type} (a b:List α) (es:List α) (h:es.length=a.length):A2 (a++b) 0 es=es++b:=by
 simp[A2,h]
theorem WI {w:World} {O:Nat->Prop}:∀ {t:Ty} {k:Nat} {d g:t.den} {pv:PV} {cs es:List Value} {o:Nat},Le t k d pv=some g->I2 t k=some o->Bl w O t cs d->Bl w O pv.t es pv.d ->
  Bl w O t (A2 cs o es) g/\UY t k=some pv.t
 | .prod a b,0,d,g,pv,cs,es,o,h,c,f,e=>by
  simp only[Le,GO]at h;obtain⟨y,l,rfl⟩:=h;have:=BH l;subst this;simp only[I2]at c;cases c;obtain⟨c1,c2,rfl,i,j⟩:=f;rw[Ou _ _ _ (by rw[e.length,i.length])];exact⟨⟨es,c2,rfl,e,j⟩,rfl⟩
 | .prod a b,k+1,d,g,pv,cs,es,o,h,c,f,e=>by
  simp only[Le,GO]at h;obtain⟨y,l,rfl⟩:=h;simp only[I2,GO]at c;obtain⟨q,p,rfl⟩:=c;obtain⟨c1,c2,rfl,i,j⟩:=f;obtain⟨m,n⟩:=WI l p j e;rw[<-i.length,Mg];exact⟨⟨c1,_,rfl,i,m⟩,n⟩
 | .int _,0,d,g,pv,cs,es,o,h,c,f,e=>by
  have:=BH h;subst this;simp only[I2]at c;cases c;rw[Dd (by rw[e.length,f.length])];exact⟨e,rfl⟩
 | .bool,0,d,g,pv,cs,es,o,h,c,f,e=>by
  have:=BH h;subst this;simp only[I2]at c;cases c;rw[Dd (by rw[e.length,f.length])];exact⟨e,rfl⟩
 | .str,0,d,g,pv,cs,es,o,h,c,f,e=>by
  have:=BH h;subst this;simp only[I2]at c;cases c;rw[Dd (by rw[e.length,f.length])];exact⟨e,rfl⟩
 | .slice _,0,d,g,pv,cs,es,o,h,c,f,e=>by
  have:=BH h;subst this;simp only[I2]at c;cases c;rw[Dd (by rw[e.length,f.length])];exact⟨e,rfl⟩
 | .ref _,0,d,g,pv,cs,es,o,h,c,f,e=>by
  have:=BH h;subst this;simp only[I2]at c;cases c;rw[Dd (by rw[e.length,f.length])];exact⟨e,rfl⟩
 | .ref _,_+1,d,g,pv,cs,es,o,h,c,f,e=>by simp[Le]at h
 | .agg _,0,d,g,pv,cs,es,o,h,c,f,e=>by
  have:=BH h;subst this;simp only[I2]at c;cases c;rw[Dd (by rw[e.length,f.length])];exact⟨e,rfl⟩
 | .int _,_+1,d,g,pv,cs,es,o,h,c,f,e=>by simp[Le]at h
 | .bool,_+1,d,g,pv,cs,es,o,h,c,f,e=>by simp[Le]at h
 | .str,_+1,d,g,pv,cs,es,o,h,c,f,e=>by simp[Le]at h
 | .slice _,_+1,d,g,pv,cs,es,o,h,c,f,e=>by simp[Le]at h
 | .agg _,_+1,d,g,pv,cs,es,o,h,c,f,e=>by simp[Le]at h
theorem IC {α:Type} (cs:List α) (o m a:Nat) (es:List α) (h:a+es.length<=m) (g:o+m<=cs.length) :
  A2 cs o (A2 ((cs.drop o).take m) a es)=A2 cs (o+a) es:=by
 apply ABY;intro j;have b:(A2 ((cs.drop o).take m) a es).length=m:=by rw[Dp]<;>simp<;>omega
 simp only[A2]at b ⊢;rw[b];simp only[AAw,YT,OS,AAM,AA3,AAy];have c:min o cs.length=o:=by omega
 have d:min m (cs.length-o)=m:=by omega
 have e:min a m=a:=by omega
 have f:min (o+a) cs.length=o+a:=by omega
 rw[c,d,e,f];by_cases c1:j<o
 .grind
 grind
theorem QL {w:World} {O:Nat->Prop}:∀ {j:List Nat} {t:Ty} {d e:t.den} {pv:PV} {cs es:List Value} {off:Nat},QF j t d pv=some e->J4 j t=some off->Bl w O t cs d->Bl w O pv.t es pv.d ->
  Bl w O t (A2 cs off es) e/\off+es.length<=cs.length
 | [],t,d,e,pv,cs,es,off,h,b,a,c=>by
  have:=BH h;subst this;simp only[J4]at b;cases b;rw[Dd (by rw[c.length,a.length])];exact⟨c,by simp[c.length,a.length]⟩
 | k :: r,t,d,e,pv,cs,es,off,h,b,a,c=>by
  cases t<;>simp only[QF,J4]at h b<;>try(cases h;done)
  rename_i t;have a:Bl w O t cs d:=a;split at h
  .rename_i p hp;obtain⟨l,o,f,v,m⟩:=Mf hp a;rw[l,f]at b;simp only[GO]at b;obtain⟨z,s,rfl⟩:=b;split at h
   .rename_i y u;obtain⟨n,g⟩:=QL u s m c;have x:=a.length;have q:((cs.drop o).take p.t.size).length=p.t.size:=by simp;omega
    rw[q]at g;obtain⟨i,_⟩:=WI (pv:=⟨p.t,y⟩) h f a n;rw[IC _ _ _ _ _ g oa]at i;exact⟨i,by omega⟩
   cases h
  cases h
end
section
open Go Go.RowKit
section
variable {V:Vw}
theorem Sq:∀l:List AV,AV.cellss l=B9 l l.length
 | []=>rfl
 | x :: r=>by simp only[AV.cellss,iF,B9,Sq r]
theorem Pq:(∀(x:AV) (cs:List Value),Fa V x cs->cs.length=x.cells/\∀u∈cs,u.oneCell'=true)/\∀(l:List AV) (cs:List Value),AVCs V l cs->cs.length=AV.cellss l/\∀u∈cs,u.oneCell'=true:=by
 have key:∀n:Nat,(∀(x:AV) (cs:List Value),SizeOf.sizeOf x<n->Fa V x cs->cs.length=x.cells/\∀u∈cs,u.oneCell'=true)/\∀(l:List AV) (cs:List Value),SizeOf.sizeOf l<n->AVCs V l cs->cs.length=AV.cellss l/\∀u∈cs,u.oneCell'=true:=by
  intro n;induction n with
  | zero=>exact⟨λ_ _ h=>by omega,λ_ _ h=>by omega⟩
  | succ n e =>
   refine⟨λx cs c h=>?_,λl cs c h=>?_⟩
   .cases x;case p t d=>exact⟨Bl.length (show Bl V.w V.O t cs d from h),Bl.one (show Bl V.w V.O t cs d from h)⟩
    case ag l =>
     simp only[AV.ag.sizeOf_spec]at c;exact e.2 l cs oa h
    case tup l=>obtain⟨v,_,_,j⟩:=h;exact j.elim
    all_goals(obtain⟨v,rfl,b,_⟩:=h;exact⟨rfl,λu a=>by simp at a;subst a;exact b⟩)
   cases l with
   | nil=>have h:cs=[]:=h;subst h;exact⟨rfl,by simp⟩
   | cons x r =>
    obtain⟨c1,c2,rfl,b,i⟩:=h;simp only[AC7]at c;have f:=e.1 x c1 oa b;have g:=e.2 r c2 oa i;refine⟨by simp only[YT,AV.cellss,f.1,g.1],λu a=>?_⟩;rcases aT.1 a with a|a
    .exact f.2 u a
    exact g.2 u a
 exact⟨λx cs=>(key _).1 x cs (ABd _),λl cs=>(key _).2 l cs (ABd _)⟩
theorem Fa.length {x:AV} {cs:List Value} (h:Fa V x cs):cs.length=x.cells:=(Pq.1 x cs h).1
theorem Fa.one {x:AV} {cs:List Value} (h:Fa V x cs):∀u∈cs,u.oneCell'=true:=(Pq.1 x cs h).2
theorem AVCs.one {l:List AV} {cs:List Value} (h:AVCs V l cs):∀u∈cs,u.oneCell'=true:=(Pq.2 l cs h).2
theorem AVCs.length {l:List AV} {cs:List Value} (h:AVCs V l cs):cs.length=B9 l l.length:=(Pq.2 l cs h).1.trans (Sq l)
theorem AVCs.get:∀ {l:List AV} {cs:List Value} {k:Nat} {x:AV},AVCs V l cs->l[k]?=some x ->
  B9 l k+x.cells<=cs.length/\Fa V x ((cs.drop (B9 l k)).take x.cells)
 | [],cs,k,x,h,a=>by simp at a
 | y :: r,cs,0,x,h,a=>by
  obtain⟨c1,c2,rfl,b,c⟩:=h;simp at a;subst a;have:=b.length;grind [B9]
 | y :: r,cs,k+1,x,h,a=>by
  obtain⟨c1,c2,rfl,b,c⟩:=h;have a:r[k]?=some x:=by simpa using a
  obtain⟨e,d⟩:=AVCs.get c a;have:=b.length;refine⟨by simp only[B9,YT];omega,?_⟩;simp only[B9,<-this];rw[<-ABZ,List.drop_left];exact d
theorem AVCs.set:∀ {l:List AV} {cs:List Value} {k:Nat} {x y:AV} {es:List Value},AVCs V l cs->l[k]?=some x->Fa V y es->y.cells=x.cells ->
  AVCs V (l.set k y) (A2 cs (B9 l k) es)
 | [],cs,k,x,y,es,h,a,b,d=>by simp at a
 | z :: r,cs,0,x,y,es,h,a,b,d=>by
  obtain⟨c1,c2,rfl,c,e⟩:=h;simp at a;subst a;simp only[B9,List.set_cons_zero];rw[Ou _ _ _ (by rw[b.length,c.length,d])];exact⟨es,c2,rfl,b,e⟩
 | z :: r,cs,k+1,x,y,es,h,a,b,d=>by
  obtain⟨c1,c2,rfl,c,e⟩:=h;have a:r[k]?=some x:=by simpa using a
  have:=c.length;simp only[B9,List.set_cons_succ,<-this];rw[Mg];exact⟨c1,_,rfl,c,AVCs.set e a b d⟩
theorem Yb {ty:Ty} {x:AV} {es:List Value} (b:Fa V x es) (a:CF ty x=true):es.length=ty.size/\Bn V x (ty.wrap es):=by
 cases x;case p t d =>
  simp only[CF,Do]at a;subst a;have b:Bl V.w V.O ty es d:=b;exact⟨Bl.length b,es,b,rfl⟩
 case ag l =>
  have b:AVCs V l es:=b;have f:=b.length;cases ty<;>simp only[CF]at a<;>try(cases a;done)
  simp only[AA9]at a;exact⟨by simp only[Ty.size];omega,es,rfl,b⟩
 case tup l=>obtain⟨v,_,_,a⟩:=b;exact a.elim
 all_goals
  obtain⟨v,rfl,_,c⟩:=b;have e:ty.cell1=true:=by simp only[CF]at a;first|exact a|(simp only[AT]at a;exact a.2)|exact absurd a di
  cases ty<;>first|(cases e;done)|exact⟨rfl,c⟩
theorem j0 {ty:Ty} {x:AV} {v:Value} (j:Bn V x v) (f:CF ty x=true) (r:ty.cell1=true->v.oneCell'=true):v.cells.size=ty.size/\((∀l,x≠.ag l)->Fa V x v.cells.toList):=by
 cases x;case p t d =>
  simp only[CF,Do]at f;subst f;obtain⟨cs,g,rfl⟩:=j;have i:=g.length;cases ty;case agg t=>exact⟨by simpa[Ty.wrap,Value.cells] using i,λ_=>by simpa[Ty.wrap,Value.cells,Fa] using g⟩
  case prod a b=>exact⟨by simpa[Ty.wrap,Value.cells] using i,λ_=>by simpa[Ty.wrap,Value.cells,Fa] using g⟩
  case slice e =>
   obtain⟨a,c,rfl,h⟩:=g;exact⟨rfl,λ_=>⟨a,c,rfl,h⟩⟩
  case int k =>
   obtain⟨rfl,h⟩:=g;exact⟨rfl,λ_=>⟨rfl,h⟩⟩
  case bool =>
   have g:cs=_:=g;subst g;exact⟨rfl,λ_=>rfl⟩
  case str =>
   obtain⟨rfl,h⟩:=g;exact⟨rfl,λ_=>⟨rfl,h⟩⟩
  case ref k =>
   obtain⟨rfl,h⟩:=g;have s:(Ty.ref k).wrap [eG k d]=eG k d:=rfl;rw[s,QE];exact⟨rfl,λ_=>⟨rfl,h⟩⟩
 case ag l =>
  obtain⟨cs,rfl,q⟩:=j;have i:=q.length;cases ty<;>simp only[CF]at f<;>try(cases f;done)
  rename_i t;simp only[AA9]at f;exact⟨by simp[Value.cells,Ty.size,i,f],λh=>absurd rfl (h l)⟩
 case tup l=>simp[CF]at f
 all_goals
  have m:ty.cell1=true:=by simp only[CF]at f;first|exact f|(simp only[AT]at f;exact f.2)|exact absurd f di
  have n:v.oneCell'=true:=r m;have o:v.cells=#[v]:=by cases v<;>first|rfl|simp[Value.oneCell']at n
  have hs:ty.size=1:=by cases ty<;>simp[Ty.cell1]at m<;>rfl
  rw[o];exact⟨by simp[hs],λ_=>⟨v,rfl,n,j⟩⟩
end
end
section
open Go Go.RowKit
section
variable {P:Program} {tb:Tb} {id:TypeId} {ti:TI} {w:World} {O0:Nat->Prop} {σ:St} {ρ:Nat->Value} {vc:Prop} {v:AV} {obs:List (Nat×Obj)}
theorem Sr {w:World} {base:Nat} {et:TypeId} {size:Nat} {g m c n:Nat} {cells:List Value} (h:w.ownsRow base et size (.slice (some ⟨g,0,none⟩) m c) n cells) :
  m=n/\∀(j:Nat) (u:Value),cells[j]?=some u->w.cell? ⟨g,j,none⟩=some u:=by
 constructor
 .rcases h.2 with ⟨a,_⟩|⟨f,cap,e,a,_⟩
  .injection a with b;cases b
  injection a
 intro j u d;have:=h.cells (g:=g) rfl j u d
 rwa [WD]at this
theorem WJ {V:Vw} {ty:Ty} {v:AV} (e:CF ty v=true):∀ {s:List Nat} {i:Bool} {fs:List AV} {cs:List Value} {off:Nat},AVCs V fs cs->EO i fs s=some v->H5 fs s=some off ->
  off+ty.size<=cs.length/\∃es:List Value,es.length=ty.size/\es=(cs.drop off).take ty.size/\Bn V v (ty.wrap es)
 | [],i,fs,cs,off,g,a,c=>by
  simp only[H5]at c;cases c;cases i with
  | true =>
   simp only[EO,AAH]at a;cases a;have C:=g.length;cases z:ty<;>rw[z]at e<;>simp only[CF]at e<;>try(cases e;done)
   rename_i t;simp only[AA9]at e;have q:cs.length=(Ty.agg t).size:=by simp only[Ty.size];omega
   exact⟨by omega,cs,q,by rw[<-q];simp,cs,rfl,g⟩
  | false =>
   simp only[EO,AAG,AAX]at a;have A:B9 fs 0=0:=by cases fs<;>rfl
   obtain⟨m,b⟩:=g.get a;rw[A]at m b;obtain⟨h,n⟩:=Yb b e;have f:=b.length;exact⟨by omega,_,h,by rw[<-h,f],n⟩
 | [k],i,fs,cs,off,g,a,c=>by
  cases i with
  | false=>simp[EO]at a
  | true =>
   simp only[EO,AAH]at a;obtain⟨m,b⟩:=g.get a;obtain⟨h,n⟩:=Yb b e;have f:=b.length;have x:off=B9 fs k:=by
    simp only[H5,a]at c;cases v<;>simp only[J4,H5,AB7,List.isEmpty_nil,AAH]at c<;>cases c<;>rfl
   subst x;exact⟨by omega,_,h,by rw[<-h,f],n⟩
 | k :: D :: r,i,fs,cs,off,g,a,c=>by
  cases i with
  | false=>simp[EO]at a
  | true =>
   simp only[EO,AAH]at a;split at a
   .rename_i t d o;simp only[GO]at a;obtain⟨pv,y,rfl⟩:=a;simp only[H5,o,GO]at c;obtain⟨B,p,rfl⟩:=c;obtain⟨m,b⟩:=g.get o;have b:Bl V.w V.O t _ d:=b;obtain⟨f,j⟩:=QK y p b;simp only[AV.cells]at m j;rw[Uk _ _ _ _ _ f]at j;simp only[CF,Do]at e;subst e;have u:=j.length;exact⟨by omega,_,u,rfl,_,j,rfl⟩
   .rename_i l o;simp only[H5,o,GO]at c;obtain⟨B,p,rfl⟩:=c;obtain⟨m,b⟩:=g.get o;have b:AVCs V l _:=b;obtain⟨h,es,n,f,j⟩:=WJ e b a (by simpa only[H5] using p);simp only[OS,AAM]at h;rw[Uk _ _ _ _ _ oa]at f;exact⟨by omega,es,n,f,j⟩
   cases a
theorem j5 (hT:Dg P tb id ti) (M:∀n o,lk n σ.objs=some o->Av (vw w O0 σ ρ) o (ρ n)) {x:AV} {xv:Value}
  (h:IR σ (some ti) (some x)=some (vc,v,obs)) (O:Bn (vw w O0 σ ρ) x xv):obs=[]/\∃u,(Instr.loadAt id xv).run P w=.ok u w/\Bn (vw w O0 σ ρ) v u:=by
 unfold IR at h;split at h
 .rename_i n R off E F;cases E;cases F;obtain⟨T,b,q,rfl⟩:=O;cases s:lk n σ.objs with
  | none=>rw[s]at h;simp[DW]at h
  | some o =>
   rw[s]at h;cases o with
   | arr et e xs=>simp[DW]at h
   | mapo k v l=>simp[DW]at h
   | frame ba fs=>simp[DW]at h
   | loop L=>simp[DW]at h
   | itr au ax av aw aq=>simp[DW]at h
   | dfr=>simp[DW]at h
   | sit ay az=>simp[DW]at h
   | gen G=>simp[DW]at h
   | nest et ar k e xs B=>simp[DW]at h
   | box et aa fs =>
    simp only[DW]at h;cases B:EO aa fs R with
    | none=>rw[B]at h;simp[HY]at h
    | some y =>
     rw[B]at h;simp only[HY]at h;split at h
     .rename_i z;obtain⟨aj,N⟩:=z;cases h;obtain⟨bg,b',cs,f,ak,af⟩:=M n _ s;have q:ρ n=_:=q;rw[q]at f;injection f with f
      injection f with f
      injection f with f
      subst f;have D:∀(es:List Value) (o:Nat),es=(cs.drop o).take es.length->∀(j:Nat) (u:Value),es[j]?=some u->w.cell? ((⟨b,o,none⟩:Addr).add j)=some u:=by
       intro es o V j u a;rw[Gw,cell_of_row w b (o+j) cs.toArray et (0,0) ak];rw[V,AA3,AAy]at a;split at a
       .simpa using a
       cases a
      refine⟨rfl,?_⟩;obtain⟨be,es,A,I,J⟩:=WJ aj af B N;have:=G7 w hT A (D es off (by rw[A];exact I));exact⟨_,this,J⟩
     cases h
 .rename_i n e i R off E F;cases E;cases F;obtain⟨T,g,m,c,q,an,rfl⟩:=O;cases s:lk n σ.objs with
  | none=>rw[s]at h;simp[DX]at h
  | some o =>
   rw[s]at h;cases o with
   | box et aa fs=>simp[DX]at h
   | mapo k v l=>simp[DX]at h
   | frame ba fs=>simp[DX]at h
   | loop L=>simp[DX]at h
   | itr au ax av aw aq=>simp[DX]at h
   | dfr=>simp[DX]at h
   | sit ay az=>simp[DX]at h
   | gen G=>simp[DX]at h
   | nest et ar k r xs B =>
    cases B with
    | some j=>simp[DX]at h
    | none =>
     simp only[DX]at h;split at h
     .rename_i ag;subst ag;obtain⟨o,ins,cells,f,K⟩:=M n _ s;have q:plc (ρ n)=_:=q;have ao:plc (ρ n)=o:=f.plc;have t:=K.own;rw[<-ao,q]at t;obtain⟨rfl,D⟩:=Sr t;have Q:xs[i]?=some (xs.getD i (k.dflt,[])):=by grind
      have H:i<ins.length:=by rw[K.len];exact an
      obtain⟨c1,v1,U,Y,A⟩:=K.row i _ ins[i] Q (DO H);rcases A with ⟨A,_⟩|⟨_,Z,J⟩
      .cases A
      have W:c1.length=k.size:=Y.length;unfold L3 at h;split at h
      .split at h
       .rename_i C;obtain⟨p,rfl⟩:=C;cases h;have:=G7 (ad:=⟨g,i*(Ty.agg (.prod k (.slice r))).size+0,none⟩) w hT (by rw[p];exact W) (λj u a=>by
         rw[Gw];refine D _ _ (U j u ?_);rw[AA5 (ON.1 a).1];exact a)
        rw[p]at this;exact⟨rfl,_,this,c1,Y,rfl⟩
       cases h
      .split at h
       .rename_i C;obtain⟨p,rfl⟩:=C;cases h;have:=G7 (ad:=⟨g,i*(Ty.agg (.prod k (.slice r))).size+k.size,none⟩) (cs:=[v1]) w hT (by rw[p];rfl) (λj u a=>by
         have al:j=0:=by have:=(ON.1 a).1;simpa using this
         subst al;rw[Gw];refine D _ _ (U k.size u ?_);rw[AAq oa,W,ABy];exact a)
        rw[p]at this;obtain⟨ab,ae,ap⟩:=jU Z J;exact⟨rfl,_,this,T,_,ab,ae,ins[i],f.resolve_right (λh=>by rw[h.2.2]at H;simp at H),by simp[H],Z,ap⟩
       cases h
      cases h
     cases h
   | arr et r xs =>
    simp only[DX]at h;cases z:BR (.slice e) ⟨.slice r,xs⟩ with
    | none=>rw[z]at h;simp[Ha]at h
    | some ys =>
     obtain⟨rfl,I⟩:=Bz z;cases I;rw[z]at h;simp only[Ha]at h;cases hp:Pb R r (xs.getD i r.dflt) with
     | none=>rw[hp]at h;simp[HZ]at h
     | some pv =>
      rw[hp]at h;simp only[HZ]at h;split at h
      .rename_i C;obtain⟨p,N⟩:=C;cases h;obtain⟨bf,cells,t,ah⟩:=M n _ s;have q:plc (ρ n)=_:=q;have t:w.ownsRow 0 et r.size (ρ n) xs.length cells:=t;rw[Hg t]at q;rw[q]at t;obtain⟨rfl,D⟩:=Sr t;have Q:xs[i]?=some (xs.getD i r.dflt):=by grind
       obtain⟨es,V,bd,ai⟩:=ah i _ Q;obtain⟨bb,S⟩:=QK hp N ai;have am:=S.length;have:=G7 (ad:=⟨g,i*r.size+off,none⟩) w hT (by rw[p];exact am) (λj u a=>by
        rw[Gw,ACE];rw[AA3,AAy]at a;split at a
        .grind
        cases a)
       rw[p]at this;exact⟨rfl,_,this,_,S,rfl⟩
      cases h
 .rename_i u d E F;cases E;cases F;obtain⟨ad,cs,rfl,bc,z,X⟩:=O;split at h
  .rename_i p;cases h;have:=G7 w hT (by rw[p];exact X.length) z;rw[p]at this;exact⟨rfl,_,this,cs,X,rfl⟩
  cases h
 cases h
end
end
section
open Go Go.RowKit
section
variable {P:Program} {tb:Tb} {id:TypeId} {ti:TI} {w:World} {V:Vw} {vc:Prop} {v:AV} {obs:List (Nat×Obj)}
theorem Yc {α:Type} {l:List α} {k:Nat} {x:α} (h:l[k]?=some x):x∈l:=AAj h
theorem WK (hT:Dg P tb id ti) {u:Ty} (r:ti.ty=.agg u) (h:ti.el=0) {f k s:Nat} (c:ti.offs[f]?=some (k,s)) (ad:Addr) (w:World) :
  (Instr.fieldAt id (.pointer (some ad)) f).run P w=.ok (.pointer (some (ad.add k))) w:=by
 obtain⟨⟨⟨p,_⟩,_⟩,a⟩:=hT;rw[r]at a;simp only at a;rcases a with ⟨fs,_,t,q⟩|⟨n,e,i,o,_⟩
 .have b:(ti.offs.map some)[f]?=some (some (k,s)):=by simp[c]
  rw[q]at b;simp only[AAr,GO]at b;obtain⟨d,l,j⟩:=b;obtain⟨i,hi,g⟩:=j;cases g;have m:fs[f]?=some d:=by simpa using l
  have hs:i.size≠0:=p _ (Yc c);simp[Instr.fieldAt,On t,m,Instr.sureAddr,fieldPlace,sizeOf,KF w hi,hs]
 exact absurd h o
theorem WL (hT:Dg P tb id ti) {u:Ty} (m:ti.ty=.agg u) (g:ti.el≠0) {k s:Nat} {z:Int} {kd:IntKind} (p:0<=z) (b:ti.offs[z.toNat]?=some (k,s)) (ad:Addr) (w:World) :
  (Instr.indexAt id (.pointer (some ad)) (.int kd z)).run P w=.ok (.pointer (some (ad.add k))) w:=by
 obtain⟨_,a⟩:=hT;rw[m]at a;simp only at a;rcases a with ⟨fs,c,_⟩|⟨n,e,i,_,o,hi,l⟩
 .exact absurd c g
 rw[l]at b;simp only[AAr,GO]at b;obtain⟨q,h,f⟩:=b;cases f;obtain⟨d,a⟩:=ON.1 h;simp only[List.length_range]at d;simp only[ACq]at a;subst a;have j:z<(n:Int):=by omega
 simp[Instr.indexAt,asIntOf,On o,Instr.sureAddr,sizeOf,KF w hi,p,j]
theorem j6 {f:Nat} {o:Option (Nat×Nat)} {x:AV} {xv:Value} {run:Value->Result Value} (y:∀k s ad,o=some (k,s)->run (.pointer (some ad))=.ok (.pointer (some (ad.add k))) w)
  (h:MV f o x=some (vc,v,obs)) (z:Bn V x xv):obs=[]/\∃u,run xv=.ok u w/\Bn V v u:=by
 unfold MV at h;split at h
 .rename_i n G off;obtain⟨q,b,A,rfl⟩:=z;cases o with
  | none=>simp[QG]at h
  | some p =>
   obtain⟨k,s⟩:=p;simp only[QG]at h;cases h;exact⟨rfl,_,y k s _ rfl,q,b,A,by rw[Gw]⟩
 .rename_i n e i G off;obtain⟨q,g,m,c,A,F,rfl⟩:=z;cases o with
  | none=>simp[QG]at h
  | some p =>
   obtain⟨k,s⟩:=p;simp only[QG]at h;cases h;exact⟨rfl,_,y k s _ rfl,q,g,m,c,A,F,by rw[Gw,ACE]⟩
 .rename_i u d;obtain⟨ad,cs,rfl,D,E,t⟩:=z;cases r:GM u f d with
  | none=>rw[r]at h;simp[Hb]at h
  | some pv =>
   rw[r]at h;simp only[Hb]at h;split at h
   .rename_i l;cases h;have t:Bl V.w V.O u cs d:=t;obtain⟨H,J,B,I,C⟩:=Mf r t;rw[B]at l;cases o with
    | none=>simp at l
    | some p =>
     obtain⟨k,s⟩:=p;simp only[AB7,AAU]at l;subst l;refine⟨rfl,_,y k s _ rfl,ad.add k,_,rfl,by rw[CJ];exact D,λj u a=>?_,C⟩;rw[C8];rw[AA3,AAy]at a;split at a
     .exact E _ _ a
     cases a
   cases h
 cases h
theorem qS (hT:Dg P tb id ti) {f:Nat} {x:AV} {xv:Value} (w:World)
  (h:GN f (some ti) (some x)=some (vc,v,obs)) (e:Bn V x xv):obs=[]/\∃u,(Instr.fieldAt id xv f).run P w=.ok u w/\Bn V v u:=by
 unfold GN at h;split at h
 .rename_i u offs b g a c;cases a;cases c;exact j6 (run:=λxv=>(Instr.fieldAt id xv f).run P w) (λk s ad d=>WK hT rfl rfl d ad w) h e
 cases h
theorem Ov {e:TypeId} (f:P.underlying id=some (.slice e)) {size:Nat} (hs:(sizeOf e).run P w=.ok size w) (a:Addr) (n c:Nat) (k:IntKind) (i:Int) (b:0<=i) (d:i<n) :
  (Instr.indexAt id (.slice (some a) n c) (.int k i)).run P w=.ok (.pointer (some (a.add (i.toNat*size)))) w:=by
 simp[Instr.indexAt,asIntOf,On f,b,d,hs]
theorem A1a {e:Ty} {el:TypeId} (q:P.underlying id=some (.slice el)) (hs:(sizeOf el).run P V.w=.ok e.size V.w) {l:List e.den} {kd:IntKind} {k:Int} {xv:Value}
  (r:BG V.w V.O (.slice e) xv l) (m:0<=k) (n:k<(l.length:Int)) :
  ∃u,(Instr.indexAt id xv (.int kd k)).run P V.w=.ok u V.w/\Bn V (.ip e (l.getD k.toNat e.dflt)) u:=by
 obtain⟨cs,g,rfl⟩:=r;obtain⟨a,c,rfl,t,v,b⟩:=g;have o:k.toNat<l.length:=by omega
 rcases b with b|⟨ad,rfl,d,h⟩
 .subst b;simp at o
 refine⟨_,Ov q hs _ _ _ _ _ m n,?_⟩;have s:l[k.toNat]?=some (l.getD k.toNat e.dflt):=by grind
 obtain⟨es,x,f,p⟩:=h _ _ s;exact⟨_,es,rfl,by rw[CJ];exact d,λj u i=>by rw[C8];exact f j u i,p⟩
theorem A1b {e:Ty} {el:TypeId} (t:P.underlying id=some (.slice el)) (hs:(sizeOf el).run P V.w=.ok e.size V.w) {n lo hi:Nat} {kd:IntKind} {k:Int} {xv:Value}
  (v:Bn V (.sr n e lo hi) xv) (i:∀n,V.L n->∃o,Av V o (V.ρ n)) (l:0<=k) (p:k<((hi-lo:Nat):Int)) :
  ∃u,(Instr.indexAt id xv (.int kd k)).run P V.w=.ok u V.w/\Bn V (.ep n e (lo+k.toNat) [] 0) u:=by
 obtain⟨b,a,m,c,f,D,C,x,y,rfl,B,A,h⟩:=v;have q:lo<hi:=by omega
 have j:=h q;obtain⟨o,r⟩:=i n b;obtain⟨g,rfl⟩:∃g,a=some ⟨g,0,none⟩:=by
  obtain⟨_,_,cells,s,_⟩:=Sp r f;rcases s.2 with ⟨d,E⟩|⟨g,cap,z,d,_⟩
  .injection d;omega
  grind
 subst j;refine⟨_,Ov t hs _ _ _ _ _ l p,b,g,m,c,f,by omega,?_⟩;rw[C8,WD,ACM];rfl
theorem A3 {O:Nat->Prop} {w:World} {kd:IntKind} {k:Int} {v:Value} (h:BG w O (.int kd) v k):v=.int kd k/\Gm kd k:=by
 obtain⟨cs,⟨rfl,a⟩,rfl⟩:=h;exact⟨rfl,a⟩
theorem BD {O:Nat->Prop} {w:World} {kd:IntKind} {k:Int} (h:Gm kd k):BG w O (.int kd) (.int kd k) k:=⟨_,⟨rfl,h⟩,rfl⟩
theorem Dq {O:Nat->Prop} {w:World} {b:Bool} {v:Value} (h:BG w O .bool v b):v=.bool b:=by
 obtain⟨cs,a,rfl⟩:=h;have a:cs=_:=a;subst a;rfl
theorem Bo {O:Nat->Prop} {w:World} (b:Bool):BG w O .bool (.bool b) b:=⟨[.bool b],rfl,rfl⟩
theorem Ed {O:Nat->Prop} {w:World} {s:ByteArray} {v:Value} (h:BG w O .str v s):v=.string s/\s.size<=AN:=by
 obtain⟨cs,⟨rfl,a⟩,rfl⟩:=h;exact⟨rfl,a⟩
theorem QM {O:Nat->Prop} {w:World} {s:ByteArray} (h:s.size<=AN):BG w O .str (.string s) s:=⟨_,⟨rfl,h⟩,rfl⟩
theorem CA {e:Ty} {offs:List (Nat×Nat)} {el:TypeId} {bytes:Nat} (hT:Dg P tb id ⟨.slice e,offs,el,bytes⟩) (b:DG P tb) :
  P.underlying id=some (.slice el)/\(∀w,(sizeOf el).run P w=.ok e.size w)/\∃te,lk el tb.ty=some te/\te.ty=e:=by
 obtain⟨_,c,te,a,rfl⟩:=hT;exact⟨c,λw=>G6 w (b _ _ a),te,a,rfl⟩
theorem qT (hT:Dg P tb id ti) (p:DG P tb) {x y:AV} {xv q:Value}
  (h:FI (some ti) (some x) (some y)=some (vc,v,obs)) (f:vc) (j:Bn V x xv) (m:Bn V y q) (t:∀n,V.L n->∃o,Av V o (V.ρ n)) :
  obs=[]/\∃u,(Instr.indexAt id xv q).run P V.w=.ok u V.w/\Bn V v u:=by
 unfold FI at h;split at h
 .rename_i e offs el bytes r l kd k a c d;cases a;cases c;cases d;split at h
  .rename_i g;subst g;cases h;obtain⟨i,hs,_⟩:=CA hT p;obtain⟨rfl,_⟩:=A3 m;exact⟨rfl,A1a i (hs _) j f.1 f.2⟩
  cases h
 .rename_i e offs el bytes n r lo hi kd k a c d;cases a;cases c;cases d;split at h
  .rename_i g;subst g;cases h;obtain⟨i,hs,_⟩:=CA hT p;obtain⟨rfl,_⟩:=A3 m;exact⟨rfl,A1b i (hs _) j t f.1 f.2⟩
  cases h
 .rename_i u offs el b C D a c d;cases a;cases c;cases d;unfold I6 at h;split at h
  .rename_i kd k;split at h
   .rename_i z;obtain⟨rfl,_⟩:=A3 m;exact j6 (run:=λxv=>(Instr.indexAt id xv (.int kd k)).run P V.w) (λB s ad A=>WL hT rfl sa z A ad V.w) h j
   cases h
  cases h
 cases h
theorem Hi {k:IntKind} {n:Int} (h:Gm k n):k.wrap n=n:=by
 obtain⟨a,b⟩:=h;cases k<;>simp[IntKind.min,IntKind.max,IntKind.signed,IntKind.bits]at a b<;>simp[IntKind.wrap,IntKind.signed,IntKind.bits]<;>omega
theorem Hj (k:IntKind) (n:Int):Gm k (k.wrap n):=by
 cases k<;>simp only[Gm,IntKind.min,IntKind.max,IntKind.wrap,IntKind.signed,IntKind.bits]<;>simp<;>omega
theorem xO {op:BinOp} {t:TypeId} {k e:IntKind} {a b:Int} (w:World) (c:(qA op k a e b).1) (g:Gm k a) :
  ∃u,(binOp op t (.int k a) (.int e b)).run P w=.ok u w/\Bn V (qA op k a e b).2 u:=by
 unfold qA at c ⊢;split at c
 .have d:¬b<0:=by have h:0<=b:=c;omega
  exact⟨_,by simp[binOp,Op.shift,d];rfl,BD (Hj _ _)⟩
 .have d:¬b<0:=by have h:0<=b:=c.1;omega
  exact⟨_,by simp[binOp,Op.shift,d];rfl,BD c.2⟩
 split at c
 .rename_i i j f;subst f;cases op<;>simp only[YW]at c ⊢;case add=>exact⟨.int k (a+b),by simp[binOp,Op.intArith,Hi c],BD c⟩
  case sub=>exact⟨.int k (a-b),by simp[binOp,Op.intArith,Hi c],BD c⟩
  case mul=>exact⟨.int k (a*b),by simp[binOp,Op.intArith,Hi c],BD c⟩
  case quo=>exact⟨.int k (a.tdiv b),by simp[binOp,Op.intDiv,c.1,Hi c.2],BD c.2⟩
  case rem=>exact⟨.int k (a.tmod b),by simp[binOp,Op.intDiv,c.1],BD c.2⟩
  case and=>exact⟨.int k (A4 .and k a b),by simp only[binOp,ACO,ABq,AAX,Op.intBits];rfl,BD (Hj _ _)⟩
  case or=>exact⟨.int k (A4 .or k a b),by simp only[binOp,ACO,ABq,AAX,Op.intBits];rfl,BD (Hj _ _)⟩
  case xor=>exact⟨.int k (A4 .xor k a b),by simp only[binOp,ACO,ABq,AAX,Op.intBits];rfl,BD (Hj _ _)⟩
  case andNot=>exact⟨.int k (A4 .andNot k a b),by simp only[binOp,ACO,ABq,AAX,Op.intBits];rfl,BD (Hj _ _)⟩
  case eql=>exact⟨.bool (a==b),by simp[binOp,Op.intCmp],Bo _⟩
  case neq=>exact⟨.bool (a != b),by simp[binOp,Op.intCmp],Bo _⟩
  case lss=>exact⟨.bool (decide (a<b)),by simp[binOp,Op.intCmp],Bo _⟩
  case leq=>exact⟨.bool (decide (a<=b)),by simp[binOp,Op.intCmp],Bo _⟩
  case gtr=>exact⟨.bool (decide (b<a)),by simp[binOp,Op.intCmp],Bo _⟩
  case geq=>exact⟨.bool (decide (b<=a)),by simp[binOp,Op.intCmp],Bo _⟩
 exact c.elim
theorem qU {op:BinOp} {t:TypeId} {a b:ByteArray} (w:World) (c:(SX a b op).1) :
  ∃u,(binOp op t (.string a) (.string b)).run P w=.ok u w/\Bn V (SX a b op).2 u:=by
 cases op<;>simp only[SX]at c ⊢;case add =>
  have e:AN=140737488355328:=rfl;have d:¬(((a.size+b.size:Nat):Int) > IntKind.i64.max):=by
   have:IntKind.i64.max=9223372036854775807:=by decide
   omega
  exact⟨.string (a++b),by simp only[binOp,Op.stringOp,As d];rfl,QM (by simpa[ABn] using c)⟩
 case eql=>exact⟨.bool (AM a b),by simp only[binOp,Op.stringOp];rfl,Bo _⟩
 case neq=>exact⟨.bool (!AM a b),by simp only[binOp,Op.stringOp];rfl,Bo _⟩
 case lss=>exact⟨.bool (Bh a b),by simp only[binOp,Op.stringOp];rfl,Bo _⟩
 case leq=>exact⟨.bool (Bh a b||AM a b),by simp only[binOp,Op.stringOp];rfl,Bo _⟩
 case gtr=>exact⟨.bool (!(Bh a b||AM a b)),by simp only[binOp,Op.stringOp];rfl,Bo _⟩
 case geq=>exact⟨.bool (!Bh a b),by simp only[binOp,Op.stringOp];rfl,Bo _⟩
 all_goals exact c.elim
theorem A03 {op:BinOp} {t:TypeId} {ti:Option TI} (p:Ol ti=true->P.underlying t=some .bool) {x y:AV} {xv m:Value} (w:World)
  (h:Nq op ti (some x) (some y)=some (vc,v,obs)) (o:vc) (j:Bn V x xv) (l:Bn V y m) :
  obs=[]/\(∀e f,(eqGuard op t e f xv m).run P w=.ok () w)/\∃u,(binOp op t xv m).run P w=.ok u w/\Bn V v u:=by
 unfold Nq at h;split at h
 .rename_i k a q b c d;cases c;cases d;cases h;obtain⟨rfl,g⟩:=A3 j;obtain⟨rfl,_⟩:=A3 l;refine⟨rfl,λe f=>?_,xO w o g⟩;cases op<;>simp[eqGuard]
 .rename_i a b c d;cases c;cases d;cases h;obtain⟨rfl,g⟩:=Ed j;obtain⟨rfl,_⟩:=Ed l;refine⟨rfl,λe f=>?_,qU w o⟩;cases op<;>simp[eqGuard]
 .rename_i a b c d;cases c;cases d;have g:=Dq j;have i:=Dq l;subst g i;split at h
  .rename_i i;have n:=p i;cases op<;>simp only[YZ]at h<;>cases h
   .exact⟨rfl,λe f=>by simp[eqGuard],.bool (a==b),by simp[binOp,run_equal_bool w t a b n],Bo _⟩
   exact⟨rfl,λe f=>by simp[eqGuard],.bool (a != b),by simp[binOp,run_equal_bool w t a b n,bne],Bo _⟩
  cases h
 cases h
theorem A1c {op:UnOp} {x:AV} {xv:Value} (w:World) (h:jR op (some x)=some (vc,v,obs)) (c:vc) (e:Bn V x xv) :
  obs=[]/\∃u,(Op.unary op xv).run P w=.ok u w/\Bn V v u:=by
 unfold jR at h;split at h
 .rename_i b d;cases d;cases h;have:=Dq e;subst this;exact⟨rfl,.bool (!b),by simp[Op.unary],Bo _⟩
 .rename_i k a d;cases d;cases h;obtain⟨rfl,f⟩:=A3 e;have c:Gm k (0-a):=c;exact⟨rfl,_,by simp only[Op.unary,Op.intArith,Hi c];rfl,BD c⟩
 cases h
end
end
section
open Go Go.RowKit
section
variable {P:Program} {tb:Tb} {id:TypeId} {ti:TI} {w:World} {V:Vw} {vc:Prop} {v:AV} {obs:List (Nat×Obj)}
theorem Yd (l:List Int):(GU l).size=l.length:=by
 show (GU l).data.size=l.length;unfold GU;simp
theorem xP (I:DG P tb) (J:V.w=w) {s t:TypeId} {B ti:TI} (hs:Dg P tb s B) (y:Dg P tb t ti) {x:AV} {xv:Value} (h:IT (some B) (some ti) (some x)=some (vc,v,obs)) (i:vc) (A:Bn V x xv) :
  obs=[]/\∃u,(convert s t xv).run P w=.ok u w/\Bn V v u:=by
 unfold IT at h;split at h
 .rename_i U W m C k X F D af a n o p;cases n;cases o;cases p;cases h;obtain⟨rfl,ae⟩:=A3 A;have i:Gm k a:=i;have f:P.underlying s=some (.int U):=hs.2;have g:P.underlying t=some (.int k):=y.2;refine⟨rfl,.int k a,?_,BD i⟩;simp[convert,On f,On g,Conv.intToInt,Hi i]
 .rename_i W m C X F D l n o p;cases n;cases o;cases p;cases h;obtain⟨f,te,R,S⟩:=hs.2;have g:P.underlying t=some .string:=y.2;have z:P.underlying m=some (.int .u8):=by
   have:=(I _ _ R).2;rw[S]at this;exact this
  obtain⟨cs,⟨a,c,rfl,Z,G,d⟩,rfl⟩:=A;have Q:(GU l).size<=AN:=by rw[Yd];exact G
  refine⟨rfl,.string (GU l),?_,⟨[.string (GU l)],⟨rfl,Q⟩,rfl⟩⟩;have N:a=none->l=[]:=λe=>by grind
  cases a with
  | none =>
   have:=N rfl;subst this;show (convert s t (.slice none 0 c)).run P w=_;have E:GU []=ByteArray.empty:=rfl;rw[E];simp[convert,On f,On g,On z,Conv.bytesToString]
  | some ad =>
   have r:=run_convert_bytes_back (P:=P) w s t m ad c (l.map λx=>UInt8.ofNat x.toNat) f z g λj q=>by
    have b:j<List.length l:=by rw[Of]at q;exact q
    rcases d with d|⟨Y,d,aa,H⟩
    .rw[d]at b;cases b
    cases d;obtain⟨es,-,L,O⟩:=H j l[j] (DO b);obtain⟨rfl,M⟩:=O;have K:=L 0 (.int .u8 l[j]) rfl;rw[J]at K;obtain⟨i0,T⟩:(0:Int)<=(l:List Int)[j]'b/\(l:List Int)[j]'b<=255:=by
     simpa[Gm,IntKind.min,IntKind.max,IntKind.signed,IntKind.bits] using M
    have e:(((List.map (λx:Int=>UInt8.ofNat x.toNat) l)[j]'q).toNat:Int)=l[j]:=by
     rw[ACH,ACm];have ab:((l:List Int)[j]'b).toNat % 2 ^ 8=((l:List Int)[j]'b).toNat:=Nat.mod_eq_of_lt ((ACu i0).2 (ABc T di));grind
    grind [Ty.size]
   rw[Of]at r;exact r
 cases h
theorem A04 (z:∀n,V.L n->∃o,Av V o (V.ρ n)) {x:AV} {xv:Value} {t ty:TypeId} (hT:Dg P tb t ti) (w:World) (h:Pf (some ti) (some x)=some (vc,v,obs)) (j:Bn V x xv) :
  obs=[]/\∃u,(Builtin.len_ #[t] ty #[xv]).run P w=.ok u w/\Bn V v u:=by
 have k:∀n:Nat,n<=AN->Gm .i64 (n:Int):=λn C=>by
  simp[Gm,IntKind.min,IntKind.max,IntKind.signed,IntKind.bits];simp[AN]at C;omega
 unfold Pf at h;split at h
 .rename_i e o el b y l d f;cases d;cases f;cases h;obtain⟨cs,⟨a,c,rfl,p,A,_⟩,rfl⟩:=j;have g:=hT.2.1;exact⟨rfl,.int .i64 (List.length l:Int),by simp[Builtin.len_,On g,goInt,Ty.wrap],BD (k _ A)⟩
 .rename_i e o el b n y lo hi d f;cases d;cases f;cases h;obtain⟨q,a,m,c,F,N,M,H,I,rfl,K,J,p⟩:=j;have g:=hT.2.1;obtain⟨G,r⟩:=z n q;obtain⟨_,_,_,_,this⟩:=Sp r F;exact⟨rfl,.int .i64 ((hi-lo:Nat):Int),by simp[Builtin.len_,On g,goInt],BD (k _ oa)⟩
 .rename_i e o el b n y i len d f;cases d;cases f;cases h;obtain⟨q,Q,a,c,O,E,D,B,rfl⟩:=j;have g:=hT.2.1;obtain⟨G,r⟩:=z n q;have:=qM r E D B rfl;exact⟨rfl,.int .i64 (len:Int),by simp[Builtin.len_,On g,goInt],BD (k _ this)⟩
 .rename_i e o el b d f;cases d;cases f;cases h;have j:xv=_:=j;subst j;have g:=hT.2.1;exact⟨rfl,.int .i64 0,by simp[Builtin.len_,On g,goInt],BD (k 0 sa)⟩
 .rename_i o el b s d f;cases d;cases f;cases h;obtain⟨rfl,p⟩:=Ed j;have g:P.underlying t=some .string:=hT.2;exact⟨rfl,.int .i64 (s.size:Int),by simp[Builtin.len_,On g,goInt],BD (k _ p)⟩
 cases h
theorem eI {i:Nat} {x:AV} {xv:Value} (w:World) (h:D3 i (some x)=some (vc,v,obs)) (k:Bn V x xv) :
  obs=[]/\∃u,(Instr.extract xv i).run P w=.ok u w/\Bn V v u:=by
 have get:∀(l:List AV) (a:List Value) (i:Nat) (y:AV),G4 V l a->l[i]?=some y->∃u,a[i]?=some u/\Bn V y u:=by
  intro l;induction l with
  | nil=>intro a i y _ h;simp at h
  | cons z r m =>
   intro a i y c h;obtain⟨u,n,rfl,d,e⟩:=c;cases i with
   | zero =>
    simp at h;subst h;exact⟨u,rfl,jT d⟩
   | succ i=>exact m n i y e (by simpa using h)
 unfold D3 at h;split at h
 .rename_i l f;cases f;obtain⟨a,rfl,c⟩:=k;cases b:l[i]? with
  | none=>rw[b]at h;simp[F4]at h
  | some y =>
   rw[b]at h;simp only[F4]at h;cases h;obtain⟨u,j,g⟩:=get l a i _ c b;exact⟨rfl,u,by simp[Instr.extract,j],g⟩
 cases h
theorem A05 {x y:AV} {xv e:Value} {ts:Array TypeId} {ty:TypeId} (w:World) (h:Nr (some x) (some y)=some (vc,v,obs)) (j:Bn V x xv) (l:Bn V y e) :
  obs=[]/\∃u,(Builtin.min_ ts ty #[xv,e]).run P w=.ok u w/\Bn V v u:=by
 unfold Nr at h;split at h
 .rename_i k a m b f g;cases f;cases g;split at h
  .rename_i i;subst i;cases h;obtain⟨rfl,c⟩:=A3 j;obtain⟨rfl,d⟩:=A3 l;have c:Gm k a:=c;have d:Gm k b:=d;refine⟨rfl,.int k (if (b:Int)<a then b else a),by simp[Builtin.min_,Builtin.min2],BD ?_⟩;split
   .exact d
   exact c
  cases h
 cases h
theorem xQ {x y z:AV} {xv g i:Value} {ts:Array TypeId} {ty:TypeId} (w:World) (h:Hd (some x) (some y) (some z)=some (vc,v,obs)) (q:Bn V x xv) (r:Bn V y g) (s:Bn V z i) :
  obs=[]/\∃u,(Builtin.min_ ts ty #[xv,g,i]).run P w=.ok u w/\Bn V v u:=by
 unfold Hd at h;split at h
 .rename_i k a A b B c j l m;cases j;cases l;cases m;split at h
  .rename_i n;obtain⟨o,p⟩:=n;subst o;subst p;cases h;obtain⟨rfl,d⟩:=A3 q;obtain⟨rfl,e⟩:=A3 r;obtain⟨rfl,f⟩:=A3 s;have d:Gm k a:=d;have e:Gm k b:=e;have f:Gm k c:=f;refine⟨rfl,.int k (if (c:Int)<(if (b:Int)<a then b else a) then c else (if (b:Int)<a then b else a)),by simp[Builtin.min_,Builtin.min2],BD ?_⟩;by_cases t:(b:Int)<a
   .grind
   grind
  cases h
 cases h
theorem A06 {x y:AV} {xv e:Value} {ts:Array TypeId} {ty:TypeId} (w:World) (h:Ns (some x) (some y)=some (vc,v,obs)) (j:Bn V x xv) (l:Bn V y e) :
  obs=[]/\∃u,(Builtin.max_ ts ty #[xv,e]).run P w=.ok u w/\Bn V v u:=by
 unfold Ns at h;split at h
 .rename_i k a m b f g;cases f;cases g;split at h
  .rename_i i;subst i;cases h;obtain⟨rfl,c⟩:=A3 j;obtain⟨rfl,d⟩:=A3 l;have c:Gm k a:=c;have d:Gm k b:=d;refine⟨rfl,.int k (if (a:Int)<b then b else a),by simp[Builtin.max_,Builtin.max2],BD ?_⟩;split
   .exact d
   exact c
  cases h
 cases h
theorem xR {t:TypeId} (f:P.underlying t=some .string) (w:World) {s:ByteArray} {kd:IntKind} {k:Int} (c:0<=k) (g:k<(s.size:Int)) :
  (Instr.index t (.string s) (.int kd k)).run P w=.ok (.int .u8 ((s.data.getD k.toNat 0).toNat:Int)) w/\Gm .u8 ((s.data.getD k.toNat 0).toNat:Int):=by
 have a:k.toNat<s.size:=by omega
 have e:k.toNat<s.data.size:=a;have d:s[k.toNat]?=some (s.data.getD k.toNat 0):=by
  rw[getElem?_pos s k.toNat a];simp only[Array.getD,e,dite_true];rfl
 refine⟨by simp[Instr.index,asIntOf,On f,c,d],?_⟩;generalize s.data.getD k.toNat 0=b;have:=b.toNat_lt;simp[Gm,IntKind.min,IntKind.max,IntKind.signed,IntKind.bits];omega
theorem j7 {t:TypeId} {x y:AV} {xv c:Value} (hT:Dg P tb t ti) (w:World) (h:Dy (some ti) (some x) (some y)=some (vc,v,obs)) (a:vc) (l:Bn V x xv) (m:Bn V y c) :
  obs=[]/\∃u,(Instr.index t xv c).run P w=.ok u w/\Bn V v u:=by
 unfold Dy at h;split at h
 .rename_i o el b s kd k f g i;cases f;cases g;cases i;cases h;obtain⟨rfl,_⟩:=Ed l;obtain⟨rfl,_⟩:=A3 m;have j:P.underlying t=some .string:=hT.2;obtain⟨d,e⟩:=xR (P:=P) j w (kd:=kd) a.1 a.2;exact⟨rfl,_,d,BD e⟩
 cases h
theorem A07 {x:AV} {xv:Value} (h:QH (some x)=some (vc,v,obs)) (e:Bn V x xv):obs=[]/\(∃ad,xv=.pointer (some ad))/\Bn V v xv:=by
 unfold QH at h;split at h
 .rename_i a;cases a;cases h;obtain⟨d,b,f,rfl⟩:=e;exact⟨rfl,⟨_,rfl⟩,d,b,f,rfl⟩
 .rename_i a;cases a;cases h;obtain⟨ad,cs,rfl,r⟩:=e;exact⟨rfl,⟨_,rfl⟩,ad,cs,rfl,r⟩
 .rename_i a;cases a;cases h;obtain⟨d,g,m,c,f,i,rfl⟩:=e;exact⟨rfl,⟨_,rfl⟩,d,g,m,c,f,i,rfl⟩
 cases h
end
end
section
open Go Go.RowKit
section
variable {P:Program} {tb:Tb} {id:TypeId} {ti:TI} {V:Vw} {vc:Prop} {v:AV} {obs:List (Nat×Obj)}
def Eo (a:Option Addr) (c l sz:Nat):Option Addr:=if c=l then a else a.map (·.add (l*sz))
inductive aK:Option Value->Nat->Nat->Prop
 | none (d:Nat):aK none d d
 | some (k:IntKind) (z:Int) (d:Nat) (h:0<=z):aK (some (.int k z)) d z.toNat
theorem j8 {el:TypeId} (b:P.underlying id=some (.slice el)) {sz:Nat} (w:World) (hs:(sizeOf el).run P w=.ok sz w) {a:Option Addr} {n c l h:Nat} {lo hi:Option Value}
  (m:aK lo 0 l) (g:aK hi n h) (p:l<=h) (q:h<=c) :
  (Instr.sliceAt id (.slice a n c) lo hi none).run P w=.ok (.slice (Eo a c l sz) (h-l) (c-l)) w:=by
 cases m with
 | none =>
  cases g with
  | none=>simp[Instr.sliceAt,On b,Instr.slice,Instr.sliceBounds,hs,Eo]
  | some k z _ d =>
   have e:z<=(c:Int):=by omega
   simp[Instr.sliceAt,On b,Instr.slice,Instr.sliceBounds,Instr.sliceBound,asIntOf,hs,Eo,d,e]
 | some k z _ d =>
  cases g with
  | none =>
   have e:z<=(n:Int):=by omega
   simp[Instr.sliceAt,On b,Instr.slice,Instr.sliceBounds,Instr.sliceBound,asIntOf,hs,Eo,d,e]
  | some r f _ o =>
   have e:f<=(c:Int):=by omega
   have i:max f 0=f:=by omega
   have j:z<=f:=by omega
   simp[Instr.sliceAt,On b,Instr.slice,Instr.sliceBounds,Instr.sliceBound,asIntOf,hs,Eo,d,o,e,i,j]
theorem xS (a:P.underlying id=some .string) (w:World) {s:ByteArray} {l h:Nat} {lo hi:Option Value} (i:aK lo 0 l) (d:aK hi s.size h) (m:l<=h) (n:h<=s.size) :
  (Instr.sliceAt id (.string s) lo hi none).run P w=.ok (.string (s.extract l h)) w:=by
 cases i with
 | none =>
  cases d with
  | none=>simp[Instr.sliceAt,On a,Instr.slice,Instr.sliceBounds]
  | some k z _ b =>
   have e:z<=(s.size:Int):=by omega
   simp[Instr.sliceAt,On a,Instr.slice,Instr.sliceBounds,Instr.sliceBound,asIntOf,b,e]
 | some k z _ b =>
  cases d with
  | none =>
   have e:z<=(s.size:Int):=by omega
   simp[Instr.sliceAt,On a,Instr.slice,Instr.sliceBounds,Instr.sliceBound,asIntOf,b,e]
  | some o c _ j =>
   have e:c<=(s.size:Int):=by omega
   have f:max c 0=c:=by omega
   have g:z<=c:=by omega
   simp[Instr.sliceAt,On a,Instr.slice,Instr.sliceBounds,Instr.sliceBound,asIntOf,b,j,e,f,g]
theorem qV {e:Ty} {xs:List e.den} {a:Option Addr} {n c l h:Nat} (p:Bl V.w V.O (.slice e) [.slice a n c] xs) (s:l<=h) (g:h<=xs.length) :
  BG V.w V.O (.slice e) (.slice (Eo a c l e.size) (h-l) (c-l)) (sub xs l h)/\n=xs.length/\h<=c:=by
 obtain⟨q,r,f,t,u,b⟩:=p;injection f with f
 injection f with j k m
 subst j;subst k;subst m;have d:=L5 xs (lo:=l) g;refine⟨⟨_,⟨Eo a c l e.size,c-l,by rw[d],by rw[d];omega,by rw[d];omega,?_⟩,rfl⟩,rfl,by omega⟩;by_cases y:l<h
 .right;rcases b with b|⟨ad,rfl,o,v⟩
  .subst b;simp at g;omega
  refine⟨ad.add (l*e.size),?_,by rw[CJ];exact o,λi x hi=>?_⟩
  .grind [Eo]
  obtain⟨z,_⟩:=Ue xs l h i hi;grind [C8]
 simp_all
theorem j9 {loc:Value} {sz b c0 l h:Nat} {a:Option Addr} {n c:Nat} (r:CV loc sz b c0 (.slice a n c)) (w:l<=h) (x:h<=c0-b) :
  CV loc sz (b+l) (b+h) (.slice (Eo a c l sz) (h-l) (c-l))/\n=c0-b/\h<=c:=by
 obtain⟨a0,m,d,p,y,A,u,v,s,z,i,j⟩:=r;injection s with e f g
 subst e;subst f;subst g;refine⟨⟨a0,m,d,p,by omega,by omega,Eo a c l sz,c-l,by rw[show b+h-(b+l)=h-l by omega],by omega,λC=>?_,λB=>?_⟩,rfl,by omega⟩
 .have k:b=0:=by omega
  have o:l=0:=by omega
  subst k;subst o;obtain⟨t,D⟩:=i rfl;refine⟨?_,by omega⟩;rw[<-t];unfold Eo;split
  .rfl
  simp only[ACo];cases a<;>rfl
 have:=j oa;subst this;have q:¬c=l:=by omega
 simp only[Eo,As q,Option.map_map]
 congr 1
 grind [C8]
theorem Ph (s:ByteArray) (l h:Nat):(s.extract l h).size<=s.size:=by
 simp only[ByteArray.size_extract];omega
theorem QN (hT:Dg P tb id ti) (k:DG P tb) {e:Ty} (f:ti.ty=.slice e) {l:List e.den} {xv:Value} {lo hi:Option Value} {a h:Nat}
  (q:BG V.w V.O (.slice e) xv l) (n:aK lo 0 a) (m:aK hi l.length h) (d:a<=h) (g:h<=l.length) :
  ∃u,(Instr.sliceAt id xv lo hi none).run P V.w=.ok u V.w/\Bn V (.p (.slice e) (sub l a h)) u:=by
 obtain⟨ty,offs,el,bytes⟩:=ti;simp only at f;subst f;obtain⟨o,hs,_⟩:=CA hT k;obtain⟨cs,b,rfl⟩:=q;obtain⟨a0,c,rfl,r⟩:=b;have b:Bl V.w V.O (.slice e) [.slice a0 l.length c] l:=⟨a0,c,rfl,r⟩;obtain⟨i,_,j⟩:=qV b d g;exact⟨_,j8 o _ (hs _) n m d j,i⟩
theorem QO (hT:Dg P tb id ti) (l:DG P tb) {n b c0:Nat} {e:Ty} (d:ti.ty=.slice e) {xv:Value} {lo hi:Option Value} {a h:Nat}
  (r:Bn V (.sr n e b c0) xv) (o:aK lo 0 a) (m:aK hi (c0-b) h) (c:a<=h) (g:h<=c0-b) :
  ∃u,(Instr.sliceAt id xv lo hi none).run P V.w=.ok u V.w/\Bn V (.sr n e (b+a) (b+h)) u:=by
 obtain⟨ty,offs,el,bytes⟩:=ti;simp only at d;subst d;obtain⟨p,hs,_⟩:=CA hT l;obtain⟨k,f⟩:=r;have q:=f;obtain⟨_,_,_,_,_,_,s,t,rfl,_⟩:=q;obtain⟨i,v,j⟩:=j9 f c g;exact⟨_,j8 p _ (hs _) o m c j,k,i⟩
theorem QP (hT:Dg P tb id ti) (e:ti.ty=.str) {s:ByteArray} {xv:Value} {lo hi:Option Value} {a h:Nat}
  (j:BG V.w V.O .str xv s) (g:aK lo 0 a) (f:aK hi s.size h) (c:a<=h) (d:h<=s.size) :
  ∃u,(Instr.sliceAt id xv lo hi none).run P V.w=.ok u V.w/\Bn V (.p .str (s.extract a h)) u:=by
 obtain⟨rfl,i⟩:=Ed j;have b:=hT.2;rw[e]at b;exact⟨_,xS b _ g f c d,QM (f3 (Ph s a h) i)⟩
theorem ID {z:Int} {n:Nat} (_h:0<=z) (a:z<=(n:Int)):z.toNat<=n:=by omega
theorem Ul {a b:Int} (h:a<=b):a.toNat<=b.toNat:=by omega
def WM:Option AV->Option Value->Prop
 | none,none=>True
 | some x,some v=>Bn V x v
 | _,_=>False
theorem kA (hT:Dg P tb id ti) (m:DG P tb) {x g i:AV} {xv d f:Value} (h:DY (some ti) (some x) (some g) (some i)=some (vc,v,obs)) (D:vc) (E:Bn V x xv) (t:Bn V g d) (z:Bn V i f) :
  obs=[]/\∃u,(Instr.sliceAt id xv none (some d) (some f)).run P V.w=.ok u V.w/\Bn V v u:=by
 unfold DY at h;split at h
 .rename_i e offs el bytes H l F a G b n o p q;cases n;cases o;cases p;cases q;split at h
  .rename_i r;subst r;cases h;obtain⟨C,hs,_⟩:=CA hT m;obtain⟨rfl,rfl⟩:=D;obtain⟨rfl,_⟩:=A3 (t:BG V.w V.O (.int F) d _);obtain⟨rfl,_⟩:=A3 (z:BG V.w V.O (.int G) f _);obtain⟨cs,B,rfl⟩:=(E:BG V.w V.O (.slice e) xv l);obtain⟨a0,c,rfl,y,A,s⟩:=B;refine⟨rfl,.slice a0 (List.length l) (List.length l),?_,⟨_,⟨a0,_,rfl,If _,A,s⟩,rfl⟩,a0,rfl⟩;have j:((List.length l:Nat):Int)<=(c:Int):=by omega
   have k:(0:Int)<=((List.length l:Nat):Int):=by omega
   simp[Ty.wrap,Instr.sliceAt,On C,Instr.slice,Instr.sliceBounds,Instr.sliceBound,asIntOf,hs V.w,j,k,Addr.add];intro I;exact absurd y oa
  cases h
 cases h
theorem qW (hT:Dg P tb id ti) (m:DG P tb) {x:AV} {xv:Value} {lo hi:Option AV} {D C:Option Value}
  (h:Eq (some ti) (some x) (some lo) (some hi)=some (vc,v,obs)) (a:vc) (c:Bn V x xv) (i:WM (V:=V) lo D) (g:WM (V:=V) hi C) :
  obs=[]/\∃u,(Instr.sliceAt id xv D C none).run P V.w=.ok u V.w/\Bn V v u:=by
 have j:∀ {o:Option Value} (d:Nat),WM (V:=V) none o->aK o d d:=λ{o} d h=>by
  cases o with
  | none=>exact .none d
  | some v=>exact h.elim
 have f:∀ {o:Option Value} {k:IntKind} {z:Int} (d:Nat),WM (V:=V) (some (.p (.int k) z)) o->0<=z->aK o d z.toNat:=λ{o k z} d h F=>by
  cases o with
  | none=>exact h.elim
  | some v =>
   obtain⟨rfl,_⟩:=A3 (h:BG V.w V.O (.int k) v z);exact .some k z d F
 unfold Eq at h;split at h
 .rename_i e offs el bytes E l a0 B q r t y;cases q;cases r;cases t;cases y;split at h
  .rename_i A;subst A;have c:BG V.w V.O (.slice e) xv l:=c;unfold Gy at h;split at h<;>first|(cases h;done)|(rename_i g1;cases g1<;>cases h)
   .exact⟨rfl,QN hT m rfl c (j 0 i) (f _ g a.1) (BY _) (ID a.1 a.2)⟩
   .exact⟨rfl,QN hT m rfl c (f 0 i a.1) (j _ g) (ID a.1 a.2) (If _)⟩
   exact⟨rfl,QN hT m rfl c (f 0 i a.1) (f _ g (AAE a.1 a.2.1)) (Ul a.2.1) (ID (AAE a.1 a.2.1) a.2.2)⟩
  cases h
 .rename_i e offs el bytes n E b c0 a0 B q r t y;cases q;cases r;cases t;cases y;split at h
  .rename_i A;subst A;unfold Gy at h;split at h<;>first|(cases h;done)|(rename_i g1;cases g1<;>cases h)
   .refine⟨rfl,?_⟩;have:=QO (P:=P) hT m rfl c (j 0 i) (f _ g a.1) (BY _) (ID a.1 a.2);simpa using this
   .refine⟨rfl,?_⟩;have:=QO (P:=P) hT m rfl c (f 0 i a.1) (j _ g) (ID a.1 a.2) (If _);have H:=ID a.1 a.2;obtain⟨_,_,_,_,_,G,_⟩:=c;grind
   exact⟨rfl,QO hT m rfl c (f 0 i a.1) (f _ g (AAE a.1 a.2.1)) (Ul a.2.1) (ID (AAE a.1 a.2.1) a.2.2)⟩
  cases h
 .rename_i offs el bytes s a0 B q r t y;cases q;cases r;cases t;cases y;have c:BG V.w V.O .str xv s:=c;unfold Gy at h;split at h<;>first|(cases h;done)|(rename_i g1;cases g1<;>cases h)
  .exact⟨rfl,QP hT rfl c (j 0 i) (f _ g a.1) (BY _) (ID a.1 a.2)⟩
  .exact⟨rfl,QP hT rfl c (f 0 i a.1) (j _ g) (ID a.1 a.2) (If _)⟩
  exact⟨rfl,QP hT rfl c (f 0 i a.1) (f _ g (AAE a.1 a.2.1)) (Ul a.2.1) (ID (AAE a.1 a.2.1) a.2.2)⟩
 cases h
end
end
end Go.Proofs.YtaoonfcjbmcmpaaGreatDoor.Fw
