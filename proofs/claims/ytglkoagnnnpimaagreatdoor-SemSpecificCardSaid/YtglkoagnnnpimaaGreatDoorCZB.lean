/- The executor's quiet operations are sound, first part. -/
import Derived.Test.YtglkoagnnnpimaaGreatDoorCZA
import Derived.Laws.IdiomStrings
set_option linter.unusedVariables false
set_option linter.unusedSimpArgs false
namespace Go.Proofs.YtglkoagnnnpimaaGreatDoor.Fw
variable {v d:Value} {D C:Option Value} {k:IntKind} {s:ByteArray} {b:List Value} {z:Int} {e:Ty} {Z:Type} {a:Option Addr} {Y:BinOp} {x:AV} {l:List AV}
section
open Go Go.RowKit
theorem Oy {w:World} {O:Nat->Prop}:∀ {t:Ty} {k:Nat} {d:t.den} {pv:PV} {cs:List Value},Gz t k d=some pv->Bq w O t cs d ->
  bP t k=some pv.t/\∃o,Kv t k=some o/\o+pv.t.size<=t.size/\Bq w O pv.t ((cs.drop o).take pv.t.size) pv.d
 | .prod a b,0,d,pv,cs,h,c=>by
  simp only[Gz]at h;cases h;obtain⟨c1,c2,rfl,h1,f⟩:=c;refine⟨rfl,0,rfl,by simp[Ty.size],?_⟩;have e:=h1.length;simp only[AAL,<-e,List.take_left];exact h1
 | .prod a b,k+1,d,pv,cs,h,c=>by
  simp only[Gz]at h;obtain⟨c1,c2,rfl,h1,f⟩:=c;obtain⟨g,o,i,l,j⟩:=Oy h f;refine⟨g,a.size+o,by simp[Kv,i],by simp[Ty.size];omega,?_⟩;have e:=h1.length;rw[<-e,<-ABZ,List.drop_left];exact j
 | .int _,0,d,pv,cs,h,c=>by
  simp only[Gz]at h;cases h;refine⟨rfl,0,rfl,by simp,?_⟩;have e:=c.length;simp only[AAL,<-e,tO];exact c
 | .bool,0,d,pv,cs,h,c=>by
  simp only[Gz]at h;cases h;refine⟨rfl,0,rfl,by simp,?_⟩;have e:=c.length;simp only[AAL,<-e,tO];exact c
 | .str,0,d,pv,cs,h,c=>by
  simp only[Gz]at h;cases h;refine⟨rfl,0,rfl,by simp,?_⟩;have e:=c.length;simp only[AAL,<-e,tO];exact c
 | .slice _,0,d,pv,cs,h,c=>by
  simp only[Gz]at h;cases h;refine⟨rfl,0,rfl,by simp,?_⟩;have e:=c.length;simp only[AAL,<-e,tO];exact c
 | .ref _,0,d,pv,cs,h,c=>by
  simp only[Gz]at h;cases h;refine⟨rfl,0,rfl,by simp,?_⟩;have e:=c.length;simp only[AAL,<-e,tO];exact c
 | .ref _,_+1,d,pv,cs,h,c=>by simp[Gz]at h
 | .agg _,0,d,pv,cs,h,c=>by
  simp only[Gz]at h;cases h;refine⟨rfl,0,rfl,by simp,?_⟩;have e:=c.length;simp only[AAL,<-e,tO];exact c
 | .int _,_+1,d,pv,cs,h,c=>by simp[Gz]at h
 | .bool,_+1,d,pv,cs,h,c=>by simp[Gz]at h
 | .str,_+1,d,pv,cs,h,c=>by simp[Gz]at h
 | .slice _,_+1,d,pv,cs,h,c=>by simp[Gz]at h
 | .agg _,_+1,d,pv,cs,h,c=>by simp[Gz]at h
theorem ZD {α:Type} (cs:List α) (o m a n:Nat) (h:a+n<=m):(((cs.drop o).take m).drop a).take n=(cs.drop (o+a)).take n:=by
 rw[List.drop_take,ACI,ABZ]
 congr 1
 omega
theorem Tv {w:World} {O:Nat->Prop}:∀ {f:List Nat} {t:Ty} {d:t.den} {pv:PV} {cs:List Value} {off:Nat},Tk f t d=some pv->Mz f t=some off->Bq w O t cs d ->
  off+pv.t.size<=t.size/\Bq w O pv.t ((cs.drop off).take pv.t.size) pv.d
 | [],t,d,pv,cs,off,h,a,b=>by
  simp only[Tk]at h;simp only[Mz]at a;cases h;cases a;have e:=b.length;simp only[AAL,<-e,tO];exact⟨by simp[e],b⟩
 | k :: r,t,d,pv,cs,off,h,a,b=>by
  cases t<;>simp only[Tk,Mz]at h a<;>try(cases h;done)
  rename_i t;split at h
  .rename_i p m;have b:Bq w O t cs d:=b;obtain⟨h1,o,g,n,i⟩:=Oy m b;rw[h1,g]at a;simp only[No]at a;obtain⟨q,l,rfl⟩:=a;obtain⟨j,c⟩:=Tv h l i;refine⟨by simp only[Ty.size];omega,?_⟩;rw[ZD _ _ _ _ _ j]at c;exact c
  cases h
def A1 {α:Type} (cs:List α) (o:Nat) (a:List α):List α:=cs.take o++a++cs.drop (o+a.length)
theorem Dy {α:Type} {cs:List α} {o:Nat} {a:List α} (h:o+a.length<=cs.length):(A1 cs o a).length=cs.length:=by
 simp[A1];omega
theorem Di {α:Type} {cs a:List α} (h:a.length=cs.length):A1 cs 0 a=a:=by
 simp[A1,h]
theorem Oz {α:Type} (a b:List α) (o:Nat) (c:List α):A1 (a++b) (a.length+o) c=a++A1 b o c:=by
 simp only[A1,List.take_append,ACT,AA8];have h1:List.take (a.length+o) a=a:=BY O1;have d:List.drop (a.length+o+c.length) a=[]:=If O1;have e:a.length+o-a.length=o:=by omega
 have f:a.length+o+c.length-a.length=o+c.length:=by omega
 rw[h1,d,e,f];simp
theorem Rm {α:Type} (a b:List α) (c:List α) (h:c.length=a.length):A1 (a++b) 0 c=c++b:=by
 simp[A1,h]
theorem bX {w:World} {O:Nat->Prop}:∀ {t:Ty} {k:Nat} {d i:t.den} {pv:PV} {cs g:List Value} {o:Nat},Nc t k d pv=some i->Kv t k=some o->Bq w O t cs d->Bq w O pv.t g pv.d ->
  Bq w O t (A1 cs o g) i/\bP t k=some pv.t
 | .prod a b,0,d,i,pv,cs,g,o,h,c,f,e=>by
  simp only[Nc,No]at h;obtain⟨y,l,rfl⟩:=h;have:=BF l;subst this;simp only[Kv]at c;cases c;obtain⟨c1,c2,rfl,h1,j⟩:=f;rw[Rm _ _ _ (by rw[e.length,h1.length])];exact⟨⟨g,c2,rfl,e,j⟩,rfl⟩
 | .prod a b,k+1,d,i,pv,cs,g,o,h,c,f,e=>by
  simp only[Nc,No]at h;obtain⟨y,l,rfl⟩:=h;simp only[Kv,No]at c;obtain⟨q,p,rfl⟩:=c;obtain⟨c1,c2,rfl,h1,j⟩:=f;obtain⟨m,n⟩:=bX l p j e;rw[<-h1.length,Oz];exact⟨⟨c1,_,rfl,h1,m⟩,n⟩
 | .int _,0,d,i,pv,cs,g,o,h,c,f,e=>by
  have:=BF h;subst this;simp only[Kv]at c;cases c;rw[Di (by rw[e.length,f.length])];exact⟨e,rfl⟩
 | .bool,0,d,i,pv,cs,g,o,h,c,f,e=>by
  have:=BF h;subst this;simp only[Kv]at c;cases c;rw[Di (by rw[e.length,f.length])];exact⟨e,rfl⟩
 | .str,0,d,i,pv,cs,g,o,h,c,f,e=>by
  have:=BF h;subst this;simp only[Kv]at c;cases c;rw[Di (by rw[e.length,f.length])];exact⟨e,rfl⟩
 | .slice _,0,d,i,pv,cs,g,o,h,c,f,e=>by
  have:=BF h;subst this;simp only[Kv]at c;cases c;rw[Di (by rw[e.length,f.length])];exact⟨e,rfl⟩
 | .ref _,0,d,i,pv,cs,g,o,h,c,f,e=>by
  have:=BF h;subst this;simp only[Kv]at c;cases c;rw[Di (by rw[e.length,f.length])];exact⟨e,rfl⟩
 | .ref _,_+1,d,i,pv,cs,g,o,h,c,f,e=>by simp[Nc]at h
 | .agg _,0,d,i,pv,cs,g,o,h,c,f,e=>by
  have:=BF h;subst this;simp only[Kv]at c;cases c;rw[Di (by rw[e.length,f.length])];exact⟨e,rfl⟩
 | .int _,_+1,d,i,pv,cs,g,o,h,c,f,e=>by simp[Nc]at h
 | .bool,_+1,d,i,pv,cs,g,o,h,c,f,e=>by simp[Nc]at h
 | .str,_+1,d,i,pv,cs,g,o,h,c,f,e=>by simp[Nc]at h
 | .slice _,_+1,d,i,pv,cs,g,o,h,c,f,e=>by simp[Nc]at h
 | .agg _,_+1,d,i,pv,cs,g,o,h,c,f,e=>by simp[Nc]at h
theorem Ie {α:Type} (cs:List α) (o m a:Nat) (b:List α) (h:a+b.length<=m) (i:o+m<=cs.length) :
  A1 cs o (A1 ((cs.drop o).take m) a b)=A1 cs (o+a) b:=by
 apply ACg;intro j;have c:(A1 ((cs.drop o).take m) a b).length=m:=by rw[Dy]<;>simp<;>omega
 simp only[A1]at c ⊢;rw[c];simp only[AAM,Do,Of,ABc,AAj,AAO];have d:min o cs.length=o:=by omega
 have e:min m (cs.length-o)=m:=by omega
 have f:min a m=a:=by omega
 have g:min (o+a) cs.length=o+a:=by omega
 rw[d,e,f,g];by_cases c1:j<o
 .grind
 grind
theorem Tw {w:World} {O:Nat->Prop}:∀ {l:List Nat} {t:Ty} {d f:t.den} {pv:PV} {cs c:List Value} {off:Nat},Wg l t d pv=some f->Mz l t=some off->Bq w O t cs d->Bq w O pv.t c pv.d ->
  Bq w O t (A1 cs off c) f/\off+c.length<=cs.length
 | [],t,d,f,pv,cs,c,off,h,b,a,e=>by
  have:=BF h;subst this;simp only[Mz]at b;cases b;rw[Di (by rw[e.length,a.length])];exact⟨e,by simp[e.length,a.length]⟩
 | k :: r,t,d,f,pv,cs,c,off,h,b,a,e=>by
  cases t<;>simp only[Wg,Mz]at h b<;>try(cases h;done)
  rename_i t;have a:Bq w O t cs d:=a;split at h
  .rename_i p u;obtain⟨h1,o,g,x,m⟩:=Oy u a;rw[h1,g]at b;simp only[No]at b;obtain⟨A,s,rfl⟩:=b;split at h
   .rename_i y v;obtain⟨n,i⟩:=Tw v s m e;have z:=a.length;have q:((cs.drop o).take p.t.size).length=p.t.size:=by simp;omega
    rw[q]at i;obtain⟨j,_⟩:=bX (pv:=⟨p.t,y⟩) h g a n;rw[Ie _ _ _ _ _ i O1]at j;exact⟨j,by omega⟩
   cases h
  cases h
end
section
open Go Go.RowKit
section
variable {V:Vw}
theorem XA:∀l:List AV,AV.cellss l=CO l l.length
 | []=>rfl
 | x :: r=>by simp only[AV.cellss,Is,CO,XA r]
theorem Sw:(∀(x:AV) (cs:List Value),Fm V x cs->cs.length=x.cells/\∀u∈cs,u.oneCell'=true)/\∀(l:List AV) (cs:List Value),AVCs V l cs->cs.length=AV.cellss l/\∀u∈cs,u.oneCell'=true:=by
 have key:∀n:Nat,(∀(x:AV) (cs:List Value),SizeOf.sizeOf x<n->Fm V x cs->cs.length=x.cells/\∀u∈cs,u.oneCell'=true)/\∀(l:List AV) (cs:List Value),SizeOf.sizeOf l<n->AVCs V l cs->cs.length=AV.cellss l/\∀u∈cs,u.oneCell'=true:=by
  intro n;induction n with
  | zero=>exact⟨λ_ _ h=>by omega,λ_ _ h=>by omega⟩
  | succ n a =>
   refine⟨λx cs hn h=>?_,λl cs hn h=>?_⟩
   .cases x;case p t d=>exact⟨Bq.length (show Bq V.w V.O t cs d from h),Bq.one (show Bq V.w V.O t cs d from h)⟩
    case ag l =>
     simp only[AV.ag.sizeOf_spec]at hn;exact a.2 l cs O1 h
    case tup l=>obtain⟨v,_,_,hf⟩:=h;exact hf.elim
    all_goals(obtain⟨v,rfl,h1,_⟩:=h;exact⟨rfl,λu hu=>by simp at hu;subst hu;exact h1⟩)
   cases l with
   | nil=>have h:cs=[]:=h;subst h;exact⟨rfl,by simp⟩
   | cons x r =>
    obtain⟨c1,c2,rfl,h1,e⟩:=h;simp only[ACl]at hn;have b:=a.1 x c1 O1 h1;have c:=a.2 r c2 O1 e;refine⟨by simp only[Do,AV.cellss,b.1,c.1],λu hu=>?_⟩;rcases NO.1 hu with hu|hu
    .exact b.2 u hu
    exact c.2 u hu
 exact⟨λx cs=>(key _).1 x cs (AB7 _),λl cs=>(key _).2 l cs (AB7 _)⟩
theorem Fm.length {cs:List Value} (h:Fm V x cs):cs.length=x.cells:=(Sw.1 x cs h).1
theorem Fm.one {cs:List Value} (h:Fm V x cs):∀u∈cs,u.oneCell'=true:=(Sw.1 x cs h).2
theorem AVCs.one {cs:List Value} (h:AVCs V l cs):∀u∈cs,u.oneCell'=true:=(Sw.2 l cs h).2
theorem AVCs.length {cs:List Value} (h:AVCs V l cs):cs.length=CO l l.length:=(Sw.2 l cs h).1.trans (XA l)
theorem AVCs.get:∀ {l:List AV} {cs:List Value} {k:Nat} {x:AV},AVCs V l cs->l[k]?=some x ->
  CO l k+x.cells<=cs.length/\Fm V x ((cs.drop (CO l k)).take x.cells)
 | [],cs,k,x,h,hk=>by simp at hk
 | y :: r,cs,0,x,h,hk=>by
  obtain⟨c1,c2,rfl,h1,a⟩:=h;simp at hk;subst hk;have:=h1.length;grind [CO]
 | y :: r,cs,k+1,x,h,hk=>by
  obtain⟨c1,c2,rfl,h1,a⟩:=h;have hk:r[k]?=some x:=by simpa using hk
  obtain⟨c,b⟩:=AVCs.get a hk;have:=h1.length;refine⟨by simp only[CO,Do];omega,?_⟩;simp only[CO,<-this];rw[<-ABZ,List.drop_left];exact b
theorem AVCs.set:∀ {l:List AV} {cs:List Value} {k:Nat} {x y:AV} {a:List Value},AVCs V l cs->l[k]?=some x->Fm V y a->y.cells=x.cells ->
  AVCs V (l.set k y) (A1 cs (CO l k) a)
 | [],cs,k,x,y,a,h,hk,b,c=>by simp at hk
 | z :: r,cs,0,x,y,a,h,hk,b,c=>by
  obtain⟨c1,c2,rfl,h1,d⟩:=h;simp at hk;subst hk;simp only[CO,ACx];rw[Rm _ _ _ (by rw[b.length,h1.length,c])];exact⟨a,c2,rfl,b,d⟩
 | z :: r,cs,k+1,x,y,a,h,hk,b,c=>by
  obtain⟨c1,c2,rfl,h1,d⟩:=h;have hk:r[k]?=some x:=by simpa using hk
  have:=h1.length;simp only[CO,ACy,<-this];rw[Oz];exact⟨c1,_,rfl,h1,AVCs.set d hk b c⟩
theorem i9 {ty:Ty} (a:Fm V x b) (hf:CP ty x=true):b.length=ty.size/\Bx V x (ty.wrap b):=by
 cases x;case p t d =>
  simp only[CP,IN]at hf;subst hf;have a:Bq V.w V.O ty b d:=a;exact⟨Bq.length a,b,a,rfl⟩
 case ag l =>
  have a:AVCs V l b:=a;have e:=a.length;cases ty<;>simp only[CP]at hf<;>try(cases hf;done)
  simp only[AAb]at hf;exact⟨by simp only[Ty.size];omega,b,rfl,a⟩
 case tup l=>obtain⟨v,_,_,hf⟩:=a;exact hf.elim
 all_goals
  obtain⟨v,rfl,_,h1⟩:=a;have c:ty.cell1=true:=by simp only[CP]at hf;first|exact hf|(simp only[An]at hf;exact hf.2)|exact absurd hf dg
  cases ty<;>first|(cases c;done)|exact⟨rfl,h1⟩
theorem wV {ty:Ty} (i:Bx V x v) (hf:CP ty x=true) (o:ty.cell1=true->v.oneCell'=true):v.cells.size=ty.size/\((∀l,x≠.ag l)->Fm V x v.cells.toList):=by
 cases x;case p t d =>
  simp only[CP,IN]at hf;subst hf;obtain⟨cs,f,rfl⟩:=i;have g:=f.length;cases ty;case agg t=>exact⟨by simpa[Ty.wrap,Value.cells] using g,λ_=>by simpa[Ty.wrap,Value.cells,Fm] using f⟩
  case prod a b=>exact⟨by simpa[Ty.wrap,Value.cells] using g,λ_=>by simpa[Ty.wrap,Value.cells,Fm] using f⟩
  case slice e =>
   obtain⟨a,c,rfl,h⟩:=f;exact⟨rfl,λ_=>⟨a,c,rfl,h⟩⟩
  case int k =>
   obtain⟨rfl,h⟩:=f;exact⟨rfl,λ_=>⟨rfl,h⟩⟩
  case bool =>
   have f:cs=_:=f;subst f;exact⟨rfl,λ_=>rfl⟩
  case str =>
   obtain⟨rfl,h⟩:=f;exact⟨rfl,λ_=>⟨rfl,h⟩⟩
  case ref k =>
   obtain⟨rfl,h⟩:=f;have q:(Ty.ref k).wrap [QU k d]=QU k d:=rfl;rw[q,Tj];exact⟨rfl,λ_=>⟨rfl,h⟩⟩
 case ag l =>
  obtain⟨cs,rfl,n⟩:=i;have g:=n.length;cases ty<;>simp only[CP]at hf<;>try(cases hf;done)
  rename_i t;simp only[AAb]at hf;exact⟨by simp[Value.cells,Ty.size,g,hf],λh=>absurd rfl (h l)⟩
 case tup l=>simp[CP]at hf
 all_goals
  have h1:ty.cell1=true:=by simp only[CP]at hf;first|exact hf|(simp only[An]at hf;exact hf.2)|exact absurd hf dg
  have j:v.oneCell'=true:=o h1;have m:v.cells=#[v]:=by cases v<;>first|rfl|simp[Value.oneCell']at j
  have hs:ty.size=1:=by cases ty<;>simp[Ty.cell1]at h1<;>rfl
  rw[m];exact⟨by simp[hs],λ_=>⟨v,rfl,j,i⟩⟩
end
end
section
open Go Go.RowKit
section
variable {P:Program} {tb:Tb} {id:TypeId} {ti:TI} {w:World} {O0:Nat->Prop} {σ:St} {ρ:Nat->Value} {vc:Prop} {v:AV} {obs:List (Nat×Obj)}
theorem XB {w:World} {base:Nat} {et:TypeId} {size:Nat} {g m c n:Nat} {cells:List Value} (h:w.ownsRow base et size (.slice (some ⟨g,0,none⟩) m c) n cells) :
  m=n/\∀(j:Nat) (u:Value),cells[j]?=some u->w.cell? ⟨g,j,none⟩=some u:=by
 constructor
 .rcases h.2 with ⟨a,_⟩|⟨e,cap,d,a,_⟩
  .injection a with h1;cases h1
  injection a
 intro j u b;have:=h.cells (g:=g) rfl j u b
 rwa [Th]at this
theorem bZ {V:Vw} {ty:Ty} {v:AV} (e:CP ty v=true):∀ {p:List Nat} {st:Bool} {fs:List AV} {cs:List Value} {off:Nat},AVCs V fs cs->Eo st fs p=some v->Iz fs p=some off ->
  off+ty.size<=cs.length/\∃j:List Value,j.length=ty.size/\j=(cs.drop off).take ty.size/\Bx V v (ty.wrap j)
 | [],st,fs,cs,off,g,a,c=>by
  simp only[Iz]at c;cases c;cases st with
  | true =>
   simp only[Eo,AAQ]at a;cases a;have A:=g.length;cases x:ty<;>rw[x]at e<;>simp only[CP]at e<;>try(cases e;done)
   rename_i t;simp only[AAb]at e;have o:cs.length=(Ty.agg t).size:=by simp only[Ty.size];omega
   exact⟨by omega,cs,o,by rw[<-o];simp,cs,rfl,g⟩
  | false =>
   simp only[Eo,AB4,AB9]at a;have y:CO fs 0=0:=by cases fs<;>rfl
   obtain⟨h1,b⟩:=g.get a;rw[y]at h1 b;obtain⟨h,m⟩:=i9 b e;have f:=b.length;exact⟨by omega,_,h,by rw[<-h,f],m⟩
 | [k],st,fs,cs,off,g,a,c=>by
  cases st with
  | false=>simp[Eo]at a
  | true =>
   simp only[Eo,AAQ]at a;obtain⟨h1,b⟩:=g.get a;obtain⟨h,m⟩:=i9 b e;have f:=b.length;have s:off=CO fs k:=by
    simp only[Iz,a]at c;cases v<;>simp only[Mz,Iz,ABu,List.isEmpty_nil,AAQ]at c<;>cases c<;>rfl
   subst s;exact⟨by omega,_,h,by rw[<-h,f],m⟩
 | k :: B :: r,st,fs,cs,off,g,a,c=>by
  cases st with
  | false=>simp[Eo]at a
  | true =>
   simp only[Eo,AAQ]at a;split at a
   .rename_i t d hk;simp only[No]at a;obtain⟨pv,u,rfl⟩:=a;simp only[Iz,hk,No]at c;obtain⟨z,n,rfl⟩:=c;obtain⟨h1,b⟩:=g.get hk;have b:Bq V.w V.O t _ d:=b;obtain⟨f,i⟩:=Tv u n b;simp only[AV.cells]at h1 i;rw[ZD _ _ _ _ _ f]at i;simp only[CP,IN]at e;subst e;have q:=i.length;exact⟨by omega,_,q,rfl,_,i,rfl⟩
   .rename_i l hk;simp only[Iz,hk,No]at c;obtain⟨z,n,rfl⟩:=c;obtain⟨h1,b⟩:=g.get hk;have b:AVCs V l _:=b;obtain⟨h,j,m,f,i⟩:=bZ e b a (by simpa only[Iz] using n);simp only[Of,ABc]at h;rw[ZD _ _ _ _ _ O1]at f;exact⟨by omega,j,m,f,i⟩
   cases a
theorem wW (hT:Ds P tb id ti) (K:∀n o,lk n σ.objs=some o->A7 (vw w O0 σ ρ) o (ρ n)) {x:AV} {xv:Value}
  (h:KX σ (some ti) (some x)=some (vc,v,obs)) (O:Bx (vw w O0 σ ρ) x xv):obs=[]/\∃u,(Instr.loadAt id xv).run P w=.ok u w/\Bx (vw w O0 σ ρ) v u:=by
 unfold KX at h;split at h
 .rename_i n R off E F;cases E;cases F;obtain⟨T,b,q,rfl⟩:=O;cases hn:lk n σ.objs with
  | none=>rw[hn]at h;simp[EJ]at h
  | some o =>
   rw[hn]at h;cases o with
   | arr et e xs=>simp[EJ]at h
   | mapo k v l=>simp[EJ]at h
   | frame ax fs=>simp[EJ]at h
   | loop L=>simp[EJ]at h
   | itr ar aw au av ap=>simp[EJ]at h
   | dfr=>simp[EJ]at h
   | sit sb sp=>simp[EJ]at h
   | nest et aq k e xs B=>simp[EJ]at h
   | box et st fs =>
    simp only[EJ]at h;cases B:Eo st fs R with
    | none=>rw[B]at h;simp[Jl]at h
    | some y =>
     rw[B]at h;simp only[Jl]at h;split at h
     .rename_i z;obtain⟨ai,M⟩:=z;cases h;obtain⟨be,ay,cs,f,aj,ae⟩:=K n _ hn;have q:ρ n=_:=q;rw[q]at f;injection f with f
      injection f with f
      injection f with f
      subst f;have D:∀(t:List Value) (o:Nat),t=(cs.drop o).take t.length->∀(j:Nat) (u:Value),t[j]?=some u->w.cell? ((⟨b,o,none⟩:Addr).add j)=some u:=by
       intro t o V j u a;rw[Iy,cell_of_row w b (o+j) cs.toArray et (0,0) aj];rw[V,AAj,AAO]at a;split at a
       .simpa using a
       cases a
      refine⟨rfl,?_⟩;obtain⟨bc,t,A,H,I⟩:=bZ ai ae B M;have:=F3 w hT A (D t off (by rw[A];exact H));exact⟨_,this,I⟩
     cases h
 .rename_i n e i R off E F;cases E;cases F;obtain⟨T,g,m,c,q,am,rfl⟩:=O;cases hn:lk n σ.objs with
  | none=>rw[hn]at h;simp[EK]at h
  | some o =>
   rw[hn]at h;cases o with
   | box et st fs=>simp[EK]at h
   | mapo k v l=>simp[EK]at h
   | frame ax fs=>simp[EK]at h
   | loop L=>simp[EK]at h
   | itr ar aw au av ap=>simp[EK]at h
   | dfr=>simp[EK]at h
   | sit sb sp=>simp[EK]at h
   | nest et aq k r xs B =>
    cases B with
    | some j=>simp[EK]at h
    | none =>
     simp only[EK]at h;split at h
     .rename_i af;subst af;obtain⟨o,ins,cells,f,J⟩:=K n _ hn;have q:plc (ρ n)=_:=q;have an:plc (ρ n)=o:=f.plc;have s:=J.own;rw[<-an,q]at s;obtain⟨rfl,D⟩:=XB s;have Q:xs[i]?=some (xs.getD i (k.dflt,[])):=by grind
      have G:i<ins.length:=by rw[J.len];exact am
      obtain⟨c1,v1,U,Y,A⟩:=J.row i _ ins[i] Q (AT G);rcases A with ⟨A,_⟩|⟨_,Z,I⟩
      .cases A
      have W:c1.length=k.size:=Y.length;unfold QV at h;split at h
      .split at h
       .rename_i C;obtain⟨p,rfl⟩:=C;cases h;have:=F3 (ad:=⟨g,i*(Ty.agg (.prod k (.slice r))).size+0,none⟩) w hT (by rw[p];exact W) (λj u a=>by
         rw[Iy];refine D _ _ (U j u ?_);rw[AA7 (QO.1 a).1];exact a)
        rw[p]at this;exact⟨rfl,_,this,c1,Y,rfl⟩
       cases h
      .split at h
       .rename_i C;obtain⟨p,rfl⟩:=C;cases h;have:=F3 (ad:=⟨g,i*(Ty.agg (.prod k (.slice r))).size+k.size,none⟩) (cs:=[v1]) w hT (by rw[p];rfl) (λj u a=>by
         have ak:j=0:=by have:=(QO.1 a).1;simpa using this
         subst ak;rw[Iy];refine D _ _ (U k.size u ?_);rw[sA O1,W,ABh];exact a)
        rw[p]at this;obtain⟨aa,ab,ao⟩:=wP Z I;exact⟨rfl,_,this,T,_,aa,ab,ins[i],f.resolve_right (λh=>by rw[h.2.2]at G;simp at G),by simp[G],Z,ao⟩
       cases h
      cases h
     cases h
   | arr et r xs =>
    simp only[EK]at h;cases z:BT (.slice e) ⟨.slice r,xs⟩ with
    | none=>rw[z]at h;simp[Jn]at h
    | some ys =>
     obtain⟨rfl,H⟩:=Bo z;cases H;rw[z]at h;simp only[Jn]at h;cases N:Tk R r (xs.getD i r.dflt) with
     | none=>rw[N]at h;simp[Jm]at h
     | some pv =>
      rw[N]at h;simp only[Jm]at h;split at h
      .rename_i C;obtain⟨p,M⟩:=C;cases h;obtain⟨bd,cells,s,ag⟩:=K n _ hn;have q:plc (ρ n)=_:=q;have s:w.ownsRow 0 et r.size (ρ n) xs.length cells:=s;rw[G2 s]at q;rw[q]at s;obtain⟨rfl,D⟩:=XB s;have Q:xs[i]?=some (xs.getD i r.dflt):=by grind
       obtain⟨t,V,bb,ah⟩:=ag i _ Q;obtain⟨az,S⟩:=Tv N M ah;have al:=S.length;have:=F3 (ad:=⟨g,i*r.size+off,none⟩) w hT (by rw[p];exact al) (λj u a=>by
        rw[Iy,ACq];rw[AAj,AAO]at a;split at a
        .grind
        cases a)
       rw[p]at this;exact⟨rfl,_,this,_,S,rfl⟩
      cases h
 .rename_i u d E F;cases E;cases F;obtain⟨ad,cs,rfl,ba,z,X⟩:=O;split at h
  .rename_i p;cases h;have:=F3 w hT (by rw[p];exact X.length) z;rw[p]at this;exact⟨rfl,_,this,cs,X,rfl⟩
  cases h
 cases h
end
end
section
open Go Go.RowKit
section
variable {P:Program} {tb:Tb} {id:TypeId} {ti:TI} {w:World} {V:Vw} {vc:Prop} {v:AV} {obs:List (Nat×Obj)}
theorem jA {α:Type} {l:List α} {k:Nat} {x:α} (h:l[k]?=some x):x∈l:=AAF h
theorem b3 (hT:Ds P tb id ti) {u:Ty} (p:ti.ty=.agg u) (d:ti.el=0) {f k s:Nat} (hf:ti.offs[f]?=some (k,s)) (ad:Addr) (w:World) :
  (Instr.fieldAt id (.pointer (some ad)) f).run P w=.ok (.pointer (some (ad.add k))) w:=by
 obtain⟨⟨⟨m,_⟩,_⟩,a⟩:=hT;rw[p]at a;simp only at a;rcases a with ⟨fs,_,hu,o⟩|⟨n,e,i,l,_⟩
 .have b:(ti.offs.map some)[f]?=some (some (k,s)):=by simp[hf]
  rw[o]at b;simp only[AAD,No]at b;obtain⟨fl,h,g⟩:=b;obtain⟨i,hi,c⟩:=g;cases c;have j:fs[f]?=some fl:=by simpa using h
  have hs:i.size≠0:=m _ (jA hf);simp[Instr.fieldAt,f8 hu,j,Instr.sureAddr,fieldPlace,sizeOf,LI w hi,hs]
 exact absurd d l
theorem b4 (hT:Ds P tb id ti) {u:Ty} (h:ti.ty=.agg u) (c:ti.el≠0) {k s:Nat} {kd:IntKind} (j:0<=z) (hf:ti.offs[z.toNat]?=some (k,s)) (ad:Addr) (w:World) :
  (Instr.indexAt id (.pointer (some ad)) (.int kd z)).run P w=.ok (.pointer (some (ad.add k))) w:=by
 obtain⟨_,a⟩:=hT;rw[h]at a;simp only at a;rcases a with ⟨fs,h0,_⟩|⟨n,e,i,_,hu,hi,g⟩
 .exact absurd h0 c
 rw[g]at hf;simp only[AAD,No]at hf;obtain⟨l,d,b⟩:=hf;cases b;obtain⟨h1,a⟩:=QO.1 d;simp only[ACf]at h1;simp only[ABD]at a;subst a;have f:z<(n:Int):=by omega
 simp[Instr.indexAt,asIntOf,f8 hu,Instr.sureAddr,sizeOf,LI w hi,j,f]
theorem wX {f:Nat} {o:Option (Nat×Nat)} {x:AV} {xv:Value} {run:Value->Result Value} (y:∀k s ad,o=some (k,s)->run (.pointer (some ad))=.ok (.pointer (some (ad.add k))) w)
  (h:Rc f o x=some (vc,v,obs)) (z:Bx V x xv):obs=[]/\∃u,run xv=.ok u w/\Bx V v u:=by
 unfold Rc at h;split at h
 .rename_i n G off;obtain⟨q,b,A,rfl⟩:=z;cases o with
  | none=>simp[Wh]at h
  | some p =>
   obtain⟨k,s⟩:=p;simp only[Wh]at h;cases h;exact⟨rfl,_,y k s _ rfl,q,b,A,by rw[Iy]⟩
 .rename_i n e i G off;obtain⟨q,g,m,c,A,F,rfl⟩:=z;cases o with
  | none=>simp[Wh]at h
  | some p =>
   obtain⟨k,s⟩:=p;simp only[Wh]at h;cases h;exact⟨rfl,_,y k s _ rfl,q,g,m,c,A,F,by rw[Iy,ACq]⟩
 .rename_i u d;obtain⟨ad,cs,rfl,D,E,t⟩:=z;cases r:Gz u f d with
  | none=>rw[r]at h;simp[Jo]at h
  | some pv =>
   rw[r]at h;simp only[Jo]at h;split at h
   .rename_i l;cases h;have t:Bq V.w V.O u cs d:=t;obtain⟨h1,I,B,H,C⟩:=Oy r t;rw[B]at l;cases o with
    | none=>simp at l
    | some p =>
     obtain⟨k,s⟩:=p;simp only[ABu,AB1]at l;subst l;refine⟨rfl,_,y k s _ rfl,ad.add k,_,rfl,by rw[B0];exact D,λj u a=>?_,C⟩;rw[Cp];rw[AAj,AAO]at a;split at a
     .exact E _ _ a
     cases a
   cases h
 cases h
theorem A2V (hT:Ds P tb id ti) {f:Nat} {x:AV} {xv:Value} (w:World)
  (h:HQ f (some ti) (some x)=some (vc,v,obs)) (e:Bx V x xv):obs=[]/\∃u,(Instr.fieldAt id xv f).run P w=.ok u w/\Bx V v u:=by
 unfold HQ at h;split at h
 .rename_i u offs b g a c;cases a;cases c;exact wX (run:=λxv=>(Instr.fieldAt id xv f).run P w) (λk s ad d=>b3 hT rfl rfl d ad w) h e
 cases h
theorem Rn {e:TypeId} (hu:P.underlying id=some (.slice e)) {size:Nat} (hs:(sizeOf e).run P w=.ok size w) (a:Addr) (n c:Nat) (k:IntKind) (i:Int) (h0:0<=i) (h1:i<n) :
  (Instr.indexAt id (.slice (some a) n c) (.int k i)).run P w=.ok (.pointer (some (a.add (i.toNat*size)))) w:=by
 simp[Instr.indexAt,asIntOf,f8 hu,h0,h1,hs]
theorem A9U {el:TypeId} (hu:P.underlying id=some (.slice el)) (hs:(sizeOf el).run P V.w=.ok e.size V.w) {l:List e.den} {kd:IntKind} {k:Int} {xv:Value}
  (r:BS V.w V.O (.slice e) xv l) (n:0<=k) (o:k<(l.length:Int)) :
  ∃u,(Instr.indexAt id xv (.int kd k)).run P V.w=.ok u V.w/\Bx V (.ip e (l.getD k.toNat e.dflt)) u:=by
 obtain⟨cs,h,rfl⟩:=r;obtain⟨a,c,rfl,h1,t,b⟩:=h;have p:k.toNat<l.length:=by omega
 rcases b with b|⟨ad,rfl,f,i⟩
 .subst b;simp at p
 refine⟨_,Rn hu hs _ _ _ _ _ n o,?_⟩;have s:l[k.toNat]?=some (l.getD k.toNat e.dflt):=by grind
 obtain⟨d,v,g,q⟩:=i _ _ s;exact⟨_,d,rfl,by rw[B0];exact f,λj u m=>by rw[Cp];exact g j u m,q⟩
theorem A9V {el:TypeId} (hu:P.underlying id=some (.slice el)) (hs:(sizeOf el).run P V.w=.ok e.size V.w) {n lo hi:Nat} {kd:IntKind} {k:Int} {xv:Value}
  (s:Bx V (.sr n e lo hi) xv) (h:∀n,V.L n->∃o,A7 V o (V.ρ n)) (j:0<=k) (l:k<((hi-lo:Nat):Int)) :
  ∃u,(Instr.indexAt id xv (.int kd k)).run P V.w=.ok u V.w/\Bx V (.ep n e (lo+k.toNat) [] 0) u:=by
 obtain⟨b,a,m,c,f,A,z,t,v,rfl,y,h0,h1⟩:=s;have p:lo<hi:=by omega
 have i:=h1 p;obtain⟨o,q⟩:=h n b;obtain⟨g,rfl⟩:∃g,a=some ⟨g,0,none⟩:=by
  obtain⟨_,_,cells,r,_⟩:=W9 q f;rcases r.2 with ⟨d,hn⟩|⟨g,cap,x,d,_⟩
  .injection d;omega
  grind
 subst i;refine⟨_,Rn hu hs _ _ _ _ _ j l,b,g,m,c,f,by omega,?_⟩;rw[Cp,Th,ACd];rfl
theorem BO {O:Nat->Prop} {w:World} {kd:IntKind} {k:Int} {v:Value} (h:BS w O (.int kd) v k):v=.int kd k/\H2 kd k:=by
 obtain⟨cs,⟨rfl,h1⟩,rfl⟩:=h;exact⟨rfl,h1⟩
theorem BQ {O:Nat->Prop} {w:World} {kd:IntKind} {k:Int} (h:H2 kd k):BS w O (.int kd) (.int kd k) k:=⟨_,⟨rfl,h⟩,rfl⟩
theorem Dz {O:Nat->Prop} {w:World} {b:Bool} {v:Value} (h:BS w O .bool v b):v=.bool b:=by
 obtain⟨cs,h1,rfl⟩:=h;have h1:cs=_:=h1;subst h1;rfl
theorem Bk {O:Nat->Prop} {w:World} (b:Bool):BS w O .bool (.bool b) b:=⟨[.bool b],rfl,rfl⟩
theorem GV {O:Nat->Prop} {w:World} {v:Value} (h:BS w O .str v s):v=.string s/\s.size<=AO:=by
 obtain⟨cs,⟨rfl,h1⟩,rfl⟩:=h;exact⟨rfl,h1⟩
theorem Tx {O:Nat->Prop} {w:World} (h:s.size<=AO):BS w O .str (.string s) s:=⟨_,⟨rfl,h⟩,rfl⟩
theorem CV {offs:List (Nat×Nat)} {el:TypeId} {bytes:Nat} (hT:Ds P tb id ⟨.slice e,offs,el,bytes⟩) (b:C5 P tb) :
  P.underlying id=some (.slice el)/\(∀w,(sizeOf el).run P w=.ok e.size w)/\∃te,lk el tb.ty=some te/\te.ty=e:=by
 obtain⟨_,hu,te,a,rfl⟩:=hT;exact⟨hu,λw=>HT w (b _ _ a),te,a,rfl⟩
theorem A2W (hT:Ds P tb id ti) (m:C5 P tb) {x y:AV} {xv p:Value}
  (h:Fz (some ti) (some x) (some y)=some (vc,v,obs)) (f:vc) (i:Bx V x xv) (j:Bx V y p) (r:∀n,V.L n->∃o,A7 V o (V.ρ n)) :
  obs=[]/\∃u,(Instr.indexAt id xv p).run P V.w=.ok u V.w/\Bx V v u:=by
 unfold Fz at h;split at h
 .rename_i e offs el bytes q l kd k a c d;cases a;cases c;cases d;split at h
  .rename_i g;subst g;cases h;obtain⟨hu,hs,_⟩:=CV hT m;obtain⟨rfl,_⟩:=BO j;exact⟨rfl,A9U hu (hs _) i f.1 f.2⟩
  cases h
 .rename_i e offs el bytes n q lo hi kd k a c d;cases a;cases c;cases d;split at h
  .rename_i g;subst g;cases h;obtain⟨hu,hs,_⟩:=CV hT m;obtain⟨rfl,_⟩:=BO j;exact⟨rfl,A9V hu (hs _) i r f.1 f.2⟩
  cases h
 .rename_i u offs el b A B a c d;cases a;cases c;cases d;unfold MR at h;split at h
  .rename_i kd k;split at h
   .rename_i hk;obtain⟨rfl,_⟩:=BO j;exact wX (run:=λxv=>(Instr.indexAt id xv (.int kd k)).run P V.w) (λz s ad t=>b4 hT rfl sc hk t ad V.w) h i
   cases h
  cases h
 cases h
theorem Ju {n:Int} (h:H2 k n):k.wrap n=n:=by
 obtain⟨h1,a⟩:=h;cases k<;>simp[IntKind.min,IntKind.max,IntKind.signed,IntKind.bits]at h1 a<;>simp[IntKind.wrap,IntKind.signed,IntKind.bits]<;>omega
theorem MU (k:IntKind) (n:Int):H2 k (k.wrap n):=by
 cases k<;>simp only[H2,IntKind.min,IntKind.max,IntKind.wrap,IntKind.signed,IntKind.bits]<;>simp<;>omega
theorem A6g {op:BinOp} {t:TypeId} {e:IntKind} {a b:Int} (w:World) (c:(bin op k a e b).1) (ha:H2 k a) :
  ∃u,(binOp op t (.int k a) (.int e b)).run P w=.ok u w/\Bx V (bin op k a e b).2 u:=by
 unfold bin at c ⊢;split at c
 .have d:¬b<0:=by have h:0<=b:=c;omega
  exact⟨_,by simp[binOp,Op.shift,d];rfl,BQ (MU _ _)⟩
 .have d:¬b<0:=by have h:0<=b:=c.1;omega
  exact⟨_,by simp[binOp,Op.shift,d];rfl,BQ c.2⟩
 split at c
 .rename_i f g hk;subst hk;cases op<;>simp only[sB]at c ⊢;case add=>exact⟨.int k (a+b),by simp[binOp,Op.intArith,Ju c],BQ c⟩
  case sub=>exact⟨.int k (a-b),by simp[binOp,Op.intArith,Ju c],BQ c⟩
  case mul=>exact⟨.int k (a*b),by simp[binOp,Op.intArith,Ju c],BQ c⟩
  case quo=>exact⟨.int k (a.tdiv b),by simp[binOp,Op.intDiv,c.1,Ju c.2],BQ c.2⟩
  case rem=>exact⟨.int k (a.tmod b),by simp[binOp,Op.intDiv,c.1],BQ c.2⟩
  case and=>exact⟨.int k (Cl .and k a b),by simp only[binOp,ne_eq,ABV,AB9,Op.intBits];rfl,BQ (MU _ _)⟩
  case or=>exact⟨.int k (Cl .or k a b),by simp only[binOp,ne_eq,ABV,AB9,Op.intBits];rfl,BQ (MU _ _)⟩
  case xor=>exact⟨.int k (Cl .xor k a b),by simp only[binOp,ne_eq,ABV,AB9,Op.intBits];rfl,BQ (MU _ _)⟩
  case andNot=>exact⟨.int k (Cl .andNot k a b),by simp only[binOp,ne_eq,ABV,AB9,Op.intBits];rfl,BQ (MU _ _)⟩
  case eql=>exact⟨.bool (a==b),by simp[binOp,Op.intCmp],Bk _⟩
  case neq=>exact⟨.bool (a != b),by simp[binOp,Op.intCmp],Bk _⟩
  case lss=>exact⟨.bool (decide (a<b)),by simp[binOp,Op.intCmp],Bk _⟩
  case leq=>exact⟨.bool (decide (a<=b)),by simp[binOp,Op.intCmp],Bk _⟩
  case gtr=>exact⟨.bool (decide (b<a)),by simp[binOp,Op.intCmp],Bk _⟩
  case geq=>exact⟨.bool (decide (b<=a)),by simp[binOp,Op.intCmp],Bk _⟩
 exact c.elim
theorem A2X {op:BinOp} {t:TypeId} {a b:ByteArray} (w:World) (c:(Y3 a b op).1) :
  ∃u,(binOp op t (.string a) (.string b)).run P w=.ok u w/\Bx V (Y3 a b op).2 u:=by
 cases op<;>simp only[Y3]at c ⊢;case add =>
  have d:AO=140737488355328:=rfl;have hh:¬(((a.size+b.size:Nat):Int) > IntKind.i64.max):=by
   have:IntKind.i64.max=9223372036854775807:=by decide
   omega
  exact⟨.string (a++b),by simp only[binOp,Op.stringOp,As hh];rfl,Tx (by simpa[ABE] using c)⟩
 case eql=>exact⟨.bool (AM a b),by simp only[binOp,Op.stringOp];rfl,Bk _⟩
 case neq=>exact⟨.bool (!AM a b),by simp only[binOp,Op.stringOp];rfl,Bk _⟩
 case lss=>exact⟨.bool (CJ a b),by simp only[binOp,Op.stringOp];rfl,Bk _⟩
 case leq=>exact⟨.bool (CJ a b||AM a b),by simp only[binOp,Op.stringOp];rfl,Bk _⟩
 case gtr=>exact⟨.bool (!(CJ a b||AM a b)),by simp only[binOp,Op.stringOp];rfl,Bk _⟩
 case geq=>exact⟨.bool (!CJ a b),by simp only[binOp,Op.stringOp];rfl,Bk _⟩
 all_goals exact c.elim
theorem A8r {op:BinOp} {t:TypeId} {ti:Option TI} (n:Tp ti=true->P.underlying t=some .bool) {x y:AV} {xv l:Value} (w:World)
  (h:SX op ti (some x) (some y)=some (vc,v,obs)) (m:vc) (i:Bx V x xv) (j:Bx V y l) :
  obs=[]/\(∀e f,(eqGuard op t e f xv l).run P w=.ok () w)/\∃u,(binOp op t xv l).run P w=.ok u w/\Bx V v u:=by
 unfold SX at h;split at h
 .rename_i k a o b c d;cases c;cases d;cases h;obtain⟨rfl,ha⟩:=BO i;obtain⟨rfl,_⟩:=BO j;refine⟨rfl,λe f=>?_,A6g w m ha⟩;cases op<;>simp[eqGuard]
 .rename_i a b c d;cases c;cases d;cases h;obtain⟨rfl,ha⟩:=GV i;obtain⟨rfl,_⟩:=GV j;refine⟨rfl,λe f=>?_,A2X w m⟩;cases op<;>simp[eqGuard]
 .rename_i a b c d;cases c;cases d;have ha:=Dz i;have g:=Dz j;subst ha g;split at h
  .rename_i g;have hu:=n g;cases op<;>simp only[sF]at h<;>cases h
   .exact⟨rfl,λe f=>by simp[eqGuard],.bool (a==b),by simp[binOp,run_equal_bool w t a b hu],Bk _⟩
   exact⟨rfl,λe f=>by simp[eqGuard],.bool (a != b),by simp[binOp,run_equal_bool w t a b hu,bne],Bk _⟩
  cases h
 cases h
theorem A9W {op:UnOp} {x:AV} {xv:Value} (w:World) (h:qUn op (some x)=some (vc,v,obs)) (c:vc) (e:Bx V x xv) :
  obs=[]/\∃u,(Op.unary op xv).run P w=.ok u w/\Bx V v u:=by
 unfold qUn at h;split at h
 .rename_i b d;cases d;cases h;have:=Dz e;subst this;exact⟨rfl,.bool (!b),by simp[Op.unary],Bk _⟩
 .rename_i k a d;cases d;cases h;obtain⟨rfl,ha⟩:=BO e;have c:H2 k (0-a):=c;exact⟨rfl,_,by simp only[Op.unary,Op.intArith,Ju c];rfl,BQ c⟩
 cases h
end
end
section
open Go Go.RowKit
section
variable {P:Program} {tb:Tb} {id:TypeId} {ti:TI} {w:World} {V:Vw} {vc:Prop} {v:AV} {obs:List (Nat×Obj)}
theorem jB (l:List Int):(Rd l).size=l.length:=by
 show (Rd l).data.size=l.length;unfold Rd;simp
theorem A6h (G:C5 P tb) (H:V.w=w) {s t:TypeId} {B ti:TI} (hs:Ds P tb s B) (y:Ds P tb t ti) {x:AV} {xv:Value} (h:KY (some B) (some ti) (some x)=some (vc,v,obs)) (i:vc) (A:Bx V x xv) :
  obs=[]/\∃u,(convert s t xv).run P w=.ok u w/\Bx V v u:=by
 unfold KY at h;split at h
 .rename_i T U m b1 k W D b2 ab a n o p;cases n;cases o;cases p;cases h;obtain⟨rfl,ha⟩:=BO A;have i:H2 k a:=i;have f:P.underlying s=some (.int T):=hs.2;have g:P.underlying t=some (.int k):=y.2;refine⟨rfl,.int k a,?_,BQ i⟩;simp[convert,f8 f,f8 g,Conv.intToInt,Ju i]
 .rename_i U m b1 W D b2 l n o p;cases n;cases o;cases p;cases h;obtain⟨f,te,O,Q⟩:=hs.2;have g:P.underlying t=some .string:=y.2;have z:P.underlying m=some (.int .u8):=by
   have:=(G _ _ O).2;rw[Q]at this;exact this
  obtain⟨cs,⟨a,c,rfl,h1,E,d⟩,rfl⟩:=A;have N:(Rd l).size<=AO:=by rw[jB];exact E
  refine⟨rfl,.string (Rd l),?_,⟨[.string (Rd l)],⟨rfl,N⟩,rfl⟩⟩;have L:a=none->l=[]:=λe=>by grind
  cases a with
  | none =>
   have:=L rfl;subst this;show (convert s t (.slice none 0 c)).run P w=_;have C:Rd []=ByteArray.empty:=rfl;rw[C];simp[convert,f8 f,f8 g,f8 z,Conv.bytesToString]
  | some ad =>
   have r:=run_convert_bytes_back (P:=P) w s t m ad c (l.map λx=>UInt8.ofNat x.toNat) f z g λj q=>by
    have b:j<List.length l:=by rw[aS]at q;exact q
    rcases d with d|⟨X,d,Z,F⟩
    .rw[d]at b;cases b
    cases d;obtain⟨Y,-,J,M⟩:=F j l[j] (AT b);obtain⟨rfl,K⟩:=M;have I:=J 0 (.int .u8 l[j]) rfl;rw[H]at I;obtain⟨R,S⟩:(0:Int)<=(l:List Int)[j]'b/\(l:List Int)[j]'b<=255:=by
     simpa[H2,IntKind.min,IntKind.max,IntKind.signed,IntKind.bits] using K
    have e:(((List.map (λx:Int=>UInt8.ofNat x.toNat) l)[j]'q).toNat:Int)=l[j]:=by
     rw[ABA,UInt8.toNat_ofNat'];have aa:((l:List Int)[j]'b).toNat % 2 ^ 8=((l:List Int)[j]'b).toNat:=Nat.mod_eq_of_lt ((ACE R).2 (ACF S dg));grind
    grind [Ty.size]
   rw[aS]at r;exact r
 cases h
theorem A8s (r:∀n,V.L n->∃o,A7 V o (V.ρ n)) {x:AV} {xv:Value} {t ty:TypeId} (hT:Ds P tb t ti) (w:World) (h:Tq (some ti) (some x)=some (vc,v,obs)) (g:Bx V x xv) :
  obs=[]/\∃u,(Builtin.len_ #[t] ty #[xv]).run P w=.ok u w/\Bx V v u:=by
 have j:∀n:Nat,n<=AO->H2 .i64 (n:Int):=λn hn=>by
  simp[H2,IntKind.min,IntKind.max,IntKind.signed,IntKind.bits];simp[AO]at hn;omega
 unfold Tq at h;split at h
 .rename_i e o el b q l d f;cases d;cases f;cases h;obtain⟨cs,⟨a,c,rfl,h1,y,_⟩,rfl⟩:=g;have hu:=hT.2.1;exact⟨rfl,.int .i64 (List.length l:Int),by simp[Builtin.len_,f8 hu,goInt,Ty.wrap],BQ (j _ y)⟩
 .rename_i e o el b n q lo hi d f;cases d;cases f;cases h;obtain⟨k,a,m,c,C,I,H,E,F,rfl,G,h0,h1⟩:=g;have hu:=hT.2.1;obtain⟨D,p⟩:=r n k;obtain⟨_,_,_,_,this⟩:=W9 p C;exact⟨rfl,.int .i64 ((hi-lo:Nat):Int),by simp[Builtin.len_,f8 hu,goInt],BQ (j _ O1)⟩
 .rename_i e o el b n q i len d f;cases d;cases f;cases h;obtain⟨k,K,a,c,J,B,A,z,rfl⟩:=g;have hu:=hT.2.1;obtain⟨D,p⟩:=r n k;have:=A2P p B A z rfl;exact⟨rfl,.int .i64 (len:Int),by simp[Builtin.len_,f8 hu,goInt],BQ (j _ this)⟩
 .rename_i e o el b d f;cases d;cases f;cases h;have g:xv=_:=g;subst g;have hu:=hT.2.1;exact⟨rfl,.int .i64 0,by simp[Builtin.len_,f8 hu,goInt],BQ (j 0 sc)⟩
 .rename_i o el b s d f;cases d;cases f;cases h;obtain⟨rfl,h1⟩:=GV g;have hu:P.underlying t=some .string:=hT.2;exact⟨rfl,.int .i64 (s.size:Int),by simp[Builtin.len_,f8 hu,goInt],BQ (j _ h1)⟩
 cases h
theorem sI {i:Nat} {x:AV} {xv:Value} (w:World) (h:Ep i (some x)=some (vc,v,obs)) (g:Bx V x xv) :
  obs=[]/\∃u,(Instr.extract xv i).run P w=.ok u w/\Bx V v u:=by
 have get:∀(l:List AV) (a:List Value) (i:Nat) (y:AV),HR V l a->l[i]?=some y->∃u,a[i]?=some u/\Bx V y u:=by
  intro l;induction l with
  | nil=>intro a i y _ h;simp at h
  | cons z r j =>
   intro a i y c h;obtain⟨u,k,rfl,h1,d⟩:=c;cases i with
   | zero =>
    simp at h;subst h;exact⟨u,rfl,wO h1⟩
   | succ i=>exact j k i y d (by simpa using h)
 unfold Ep at h;split at h
 .rename_i l e;cases e;obtain⟨a,rfl,c⟩:=g;cases b:l[i]? with
  | none=>rw[b]at h;simp[Gm]at h
  | some y =>
   rw[b]at h;simp only[Gm]at h;cases h;obtain⟨u,hu,f⟩:=get l a i _ c b;exact⟨rfl,u,by simp[Instr.extract,hu],f⟩
 cases h
theorem A8t {x y:AV} {xv:Value} {ts:Array TypeId} {ty:TypeId} (w:World) (h:SY (some x) (some y)=some (vc,v,obs)) (g:Bx V x xv) (i:Bx V y d) :
  obs=[]/\∃u,(Builtin.min_ ts ty #[xv,d]).run P w=.ok u w/\Bx V v u:=by
 unfold SY at h;split at h
 .rename_i k a j b e f;cases e;cases f;split at h
  .rename_i hk;subst hk;cases h;obtain⟨rfl,ha⟩:=BO g;obtain⟨rfl,c⟩:=BO i;have ha:H2 k a:=ha;have c:H2 k b:=c;refine⟨rfl,.int k (if (b:Int)<a then b else a),by simp[Builtin.min_,Builtin.min2],BQ ?_⟩;split
   .exact c
   exact ha
  cases h
 cases h
theorem A6i {x y z:AV} {xv f g:Value} {ts:Array TypeId} {ty:TypeId} (w:World) (h:I1 (some x) (some y) (some z)=some (vc,v,obs)) (o:Bx V x xv) (p:Bx V y f) (q:Bx V z g) :
  obs=[]/\∃u,(Builtin.min_ ts ty #[xv,f,g]).run P w=.ok u w/\Bx V v u:=by
 unfold I1 at h;split at h
 .rename_i k a s b t c i j l;cases i;cases j;cases l;split at h
  .rename_i hk;obtain⟨m,n⟩:=hk;subst m;subst n;cases h;obtain⟨rfl,ha⟩:=BO o;obtain⟨rfl,d⟩:=BO p;obtain⟨rfl,e⟩:=BO q;have ha:H2 k a:=ha;have d:H2 k b:=d;have e:H2 k c:=e;refine⟨rfl,.int k (if (c:Int)<(if (b:Int)<a then b else a) then c else (if (b:Int)<a then b else a)),by simp[Builtin.min_,Builtin.min2],BQ ?_⟩;by_cases r:(b:Int)<a
   .grind
   grind
  cases h
 cases h
theorem A8u {x y:AV} {xv:Value} {ts:Array TypeId} {ty:TypeId} (w:World) (h:SZ (some x) (some y)=some (vc,v,obs)) (g:Bx V x xv) (i:Bx V y d) :
  obs=[]/\∃u,(Builtin.max_ ts ty #[xv,d]).run P w=.ok u w/\Bx V v u:=by
 unfold SZ at h;split at h
 .rename_i k a j b e f;cases e;cases f;split at h
  .rename_i hk;subst hk;cases h;obtain⟨rfl,ha⟩:=BO g;obtain⟨rfl,c⟩:=BO i;have ha:H2 k a:=ha;have c:H2 k b:=c;refine⟨rfl,.int k (if (a:Int)<b then b else a),by simp[Builtin.max_,Builtin.max2],BQ ?_⟩;split
   .exact c
   exact ha
  cases h
 cases h
theorem A6j {t:TypeId} (hu:P.underlying t=some .string) (w:World) {kd:IntKind} {k:Int} (h0:0<=k) (h1:k<(s.size:Int)) :
  (Instr.index t (.string s) (.int kd k)).run P w=.ok (.int .u8 ((s.data.getD k.toNat 0).toNat:Int)) w/\H2 .u8 ((s.data.getD k.toNat 0).toNat:Int):=by
 have a:k.toNat<s.size:=by omega
 have d:k.toNat<s.data.size:=a;have c:s[k.toNat]?=some (s.data.getD k.toNat 0):=by
  rw[getElem?_pos s k.toNat a];simp only[Array.getD,d,dite_true];rfl
 refine⟨by simp[Instr.index,asIntOf,f8 hu,h0,c],?_⟩;generalize s.data.getD k.toNat 0=b;have:=b.toNat_lt;simp[H2,IntKind.min,IntKind.max,IntKind.signed,IntKind.bits];omega
theorem wY {t:TypeId} {x y:AV} {xv c:Value} (hT:Ds P tb t ti) (w:World) (h:EZ (some ti) (some x) (some y)=some (vc,v,obs)) (a:vc) (i:Bx V x xv) (j:Bx V y c) :
  obs=[]/\∃u,(Instr.index t xv c).run P w=.ok u w/\Bx V v u:=by
 unfold EZ at h;split at h
 .rename_i o el b s kd k e f g;cases e;cases f;cases g;cases h;obtain⟨rfl,_⟩:=GV i;obtain⟨rfl,_⟩:=BO j;have hu:P.underlying t=some .string:=hT.2;obtain⟨h1,d⟩:=A6j (P:=P) hu w (kd:=kd) a.1 a.2;exact⟨rfl,_,h1,BQ d⟩
 cases h
theorem A8v {x:AV} {xv:Value} (h:Wi (some x)=some (vc,v,obs)) (e:Bx V x xv):obs=[]/\(∃ad,xv=.pointer (some ad))/\Bx V v xv:=by
 unfold Wi at h;split at h
 .rename_i a;cases a;cases h;obtain⟨d,b,f,rfl⟩:=e;exact⟨rfl,⟨_,rfl⟩,d,b,f,rfl⟩
 .rename_i a;cases a;cases h;obtain⟨ad,cs,rfl,r⟩:=e;exact⟨rfl,⟨_,rfl⟩,ad,cs,rfl,r⟩
 .rename_i a;cases a;cases h;obtain⟨d,g,m,c,f,i,rfl⟩:=e;exact⟨rfl,⟨_,rfl⟩,d,g,m,c,f,i,rfl⟩
 cases h
end
end
section
open Go Go.RowKit
section
variable {P:Program} {tb:Tb} {id:TypeId} {ti:TI} {V:Vw} {vc:Prop} {v:AV} {obs:List (Nat×Obj)}
def E1 (a:Option Addr) (c l sz:Nat):Option Addr:=if c=l then a else a.map (·.add (l*sz))
inductive nN:Option Value->Nat->Nat->Prop
 | none (d:Nat):nN none d d
 | some (k:IntKind) (z:Int) (d:Nat) (h:0<=z):nN (some (.int k z)) d z.toNat
theorem wZ {el:TypeId} (hu:P.underlying id=some (.slice el)) {sz:Nat} (w:World) (hs:(sizeOf el).run P w=.ok sz w) {n c l h:Nat} {lo:Option Value}
  (i:nN lo 0 l) (hh:nN C n h) (h1:l<=h) (m:h<=c) :
  (Instr.sliceAt id (.slice a n c) lo C none).run P w=.ok (.slice (E1 a c l sz) (h-l) (c-l)) w:=by
 cases i with
 | none =>
  cases hh with
  | none=>simp[Instr.sliceAt,f8 hu,Instr.slice,Instr.sliceBounds,hs,E1]
  | some k z _ b =>
   have e:z<=(c:Int):=by omega
   simp[Instr.sliceAt,f8 hu,Instr.slice,Instr.sliceBounds,Instr.sliceBound,asIntOf,hs,E1,b,e]
 | some k z _ b =>
  cases hh with
  | none =>
   have e:z<=(n:Int):=by omega
   simp[Instr.sliceAt,f8 hu,Instr.slice,Instr.sliceBounds,Instr.sliceBound,asIntOf,hs,E1,b,e]
  | some o d _ j =>
   have e:d<=(c:Int):=by omega
   have f:max d 0=d:=by omega
   have g:z<=d:=by omega
   simp[Instr.sliceAt,f8 hu,Instr.slice,Instr.sliceBounds,Instr.sliceBound,asIntOf,hs,E1,b,j,e,f,g]
theorem A6k (hu:P.underlying id=some .string) (w:World) {l h:Nat} {lo:Option Value} (f:nN lo 0 l) (hh:nN C s.size h) (h1:l<=h) (i:h<=s.size) :
  (Instr.sliceAt id (.string s) lo C none).run P w=.ok (.string (s.extract l h)) w:=by
 cases f with
 | none =>
  cases hh with
  | none=>simp[Instr.sliceAt,f8 hu,Instr.slice,Instr.sliceBounds]
  | some k z _ a =>
   have e:z<=(s.size:Int):=by omega
   simp[Instr.sliceAt,f8 hu,Instr.slice,Instr.sliceBounds,Instr.sliceBound,asIntOf,a,e]
 | some k z _ a =>
  cases hh with
  | none =>
   have e:z<=(s.size:Int):=by omega
   simp[Instr.sliceAt,f8 hu,Instr.slice,Instr.sliceBounds,Instr.sliceBound,asIntOf,a,e]
  | some j b _ g =>
   have e:b<=(s.size:Int):=by omega
   have c:max b 0=b:=by omega
   have d:z<=b:=by omega
   simp[Instr.sliceAt,f8 hu,Instr.slice,Instr.sliceBounds,Instr.sliceBound,asIntOf,a,g,e,c,d]
theorem A2Y {xs:List e.den} {n c l h:Nat} (p:Bq V.w V.O (.slice e) [.slice a n c] xs) (h1:l<=h) (g:h<=xs.length) :
  BS V.w V.O (.slice e) (.slice (E1 a c l e.size) (h-l) (c-l)) (sub xs l h)/\n=xs.length/\h<=c:=by
 obtain⟨q,r,f,s,t,b⟩:=p;injection f with f
 injection f with j k m
 subst j;subst k;subst m;have d:=Nm xs (lo:=l) g;refine⟨⟨_,⟨E1 a c l e.size,c-l,by rw[d],by rw[d];omega,by rw[d];omega,?_⟩,rfl⟩,rfl,by omega⟩;by_cases v:l<h
 .right;rcases b with b|⟨ad,rfl,o,u⟩
  .subst b;simp at g;omega
  refine⟨ad.add (l*e.size),?_,by rw[B0];exact o,λi x hi=>?_⟩
  .grind [E1]
  obtain⟨y,_⟩:=Y8 xs l h i hi;grind [Cp]
 simp_all
theorem w3 {loc:Value} {sz b c0 l h:Nat} {n c:Nat} (s:DJ loc sz b c0 (.slice a n c)) (h1:l<=h) (x:h<=c0-b) :
  DJ loc sz (b+l) (b+h) (.slice (E1 a c l sz) (h-l) (c-l))/\n=c0-b/\h<=c:=by
 obtain⟨d,m,e,q,y,A,v,w,t,z,j,k⟩:=s;injection t with f g i
 subst f;subst g;subst i;refine⟨⟨d,m,e,q,by omega,by omega,E1 a c l sz,c-l,by rw[show b+h-(b+l)=h-l by omega],by omega,λC=>?_,λB=>?_⟩,rfl,by omega⟩
 .have o:b=0:=by omega
  have p:l=0:=by omega
  subst o;subst p;obtain⟨u,D⟩:=j rfl;refine⟨?_,by omega⟩;rw[<-u];unfold E1;split
  .rfl
  simp only[ACU];cases a<;>rfl
 have:=k O1;subst this;have r:¬c=l:=by omega
 simp only[E1,As r,Option.map_map]
 congr 1
 grind [Cp]
theorem Sa (s:ByteArray) (l h:Nat):(s.extract l h).size<=s.size:=by
 simp only[ByteArray.size_extract];omega
theorem Tz (hT:Ds P tb id ti) (k:C5 P tb) (f:ti.ty=.slice e) {l:List e.den} {xv:Value} {lo:Option Value} {a h:Nat}
  (n:BS V.w V.O (.slice e) xv l) (m:nN lo 0 a) (hh:nN C l.length h) (h1:a<=h) (g:h<=l.length) :
  ∃u,(Instr.sliceAt id xv lo C none).run P V.w=.ok u V.w/\Bx V (.p (.slice e) (sub l a h)) u:=by
 obtain⟨ty,offs,el,bytes⟩:=ti;simp only at f;subst f;obtain⟨hu,hs,_⟩:=CV hT k;obtain⟨cs,b,rfl⟩:=n;obtain⟨d,c,rfl,r⟩:=b;have b:Bq V.w V.O (.slice e) [.slice d l.length c] l:=⟨d,c,rfl,r⟩;obtain⟨i,_,j⟩:=A2Y b h1 g;exact⟨_,wZ hu _ (hs _) m hh h1 j,i⟩
theorem T6 (hT:Ds P tb id ti) (k:C5 P tb) {n b c0:Nat} (c:ti.ty=.slice e) {xv:Value} {lo:Option Value} {a h:Nat}
  (o:Bx V (.sr n e b c0) xv) (l:nN lo 0 a) (hh:nN C (c0-b) h) (h1:a<=h) (f:h<=c0-b) :
  ∃u,(Instr.sliceAt id xv lo C none).run P V.w=.ok u V.w/\Bx V (.sr n e (b+a) (b+h)) u:=by
 obtain⟨ty,offs,el,bytes⟩:=ti;simp only at c;subst c;obtain⟨hu,hs,_⟩:=CV hT k;obtain⟨j,d⟩:=o;have m:=d;obtain⟨_,_,_,_,_,_,p,q,rfl,_⟩:=m;obtain⟨g,r,i⟩:=w3 d h1 f;exact⟨_,wZ hu _ (hs _) l hh h1 i,j,g⟩
theorem T7 (hT:Ds P tb id ti) (c:ti.ty=.str) {xv:Value} {lo:Option Value} {a h:Nat}
  (f:BS V.w V.O .str xv s) (d:nN lo 0 a) (hh:nN C s.size h) (h1:a<=h) (b:h<=s.size) :
  ∃u,(Instr.sliceAt id xv lo C none).run P V.w=.ok u V.w/\Bx V (.p .str (s.extract a h)) u:=by
 obtain⟨rfl,e⟩:=GV f;have hu:=hT.2;rw[c]at hu;exact⟨_,A6k hu _ d hh h1 b,Tx (iF (Sa s a h) e)⟩
theorem Ig {n:Nat} (_h:0<=z) (a:z<=(n:Int)):z.toNat<=n:=by omega
theorem ZE {a b:Int} (h:a<=b):a.toNat<=b.toNat:=by omega
def b5:Option AV->Option Value->Prop
 | none,none=>True
 | some x,some v=>Bx V x v
 | _,_=>False
theorem w4 (hT:Ds P tb id ti) (m:C5 P tb) {x ha i:AV} {xv f g:Value} (h:D5 (some ti) (some x) (some ha) (some i)=some (vc,v,obs)) (B:vc) (C:Bx V x xv) (hh:Bx V ha f) (y:Bx V i g) :
  obs=[]/\∃u,(Instr.sliceAt id xv none (some f) (some g)).run P V.w=.ok u V.w/\Bx V v u:=by
 unfold D5 at h;split at h
 .rename_i e offs el bytes F l D a E b n o p q;cases n;cases o;cases p;cases q;split at h
  .rename_i r;subst r;cases h;obtain⟨hu,hs,_⟩:=CV hT m;obtain⟨rfl,rfl⟩:=B;obtain⟨rfl,_⟩:=BO (hh:BS V.w V.O (.int D) f _);obtain⟨rfl,_⟩:=BO (y:BS V.w V.O (.int E) g _);obtain⟨cs,A,rfl⟩:=(C:BS V.w V.O (.slice e) xv l);obtain⟨d,c,rfl,t,z,s⟩:=A;refine⟨rfl,.slice d (List.length l) (List.length l),?_,⟨_,⟨d,_,rfl,OS _,z,s⟩,rfl⟩,d,rfl⟩;have j:((List.length l:Nat):Int)<=(c:Int):=by omega
   have k:(0:Int)<=((List.length l:Nat):Int):=by omega
   simp[Ty.wrap,Instr.sliceAt,f8 hu,Instr.slice,Instr.sliceBounds,Instr.sliceBound,asIntOf,hs V.w,j,k,Addr.add];intro G;exact absurd t O1
  cases h
 cases h
theorem A2Z (hT:Ds P tb id ti) (j:C5 P tb) {x:AV} {xv:Value} {lo hi:Option AV} 
  (h:FM (some ti) (some x) (some lo) (some hi)=some (vc,v,obs)) (a:vc) (c:Bx V x xv) (g:b5 (V:=V) lo D) (f:b5 (V:=V) hi C) :
  obs=[]/\∃u,(Instr.sliceAt id xv D C none).run P V.w=.ok u V.w/\Bx V v u:=by
 have i:∀ {o:Option Value} (d:Nat),b5 (V:=V) none o->nN o d d:=λ{o} d h=>by
  cases o with
  | none=>exact .none d
  | some v=>exact h.elim
 have b1:∀ {o:Option Value} {k:IntKind} {z:Int} (d:Nat),b5 (V:=V) (some (.p (.int k) z)) o->0<=z->nN o d z.toNat:=λ{o k z} d h F=>by
  cases o with
  | none=>exact h.elim
  | some v =>
   obtain⟨rfl,_⟩:=BO (h:BS V.w V.O (.int k) v z);exact .some k z d F
 unfold FM at h;split at h
 .rename_i e offs el bytes E l B h0 q r t y;cases q;cases r;cases t;cases y;split at h
  .rename_i A;subst A;have c:BS V.w V.O (.slice e) xv l:=c;unfold Ia at h;split at h<;>first|(cases h;done)|(rename_i m;cases m<;>cases h)
   .exact⟨rfl,Tz hT j rfl c (i 0 g) (b1 _ f a.1) (DO _) (Ig a.1 a.2)⟩
   .exact⟨rfl,Tz hT j rfl c (b1 0 g a.1) (i _ f) (Ig a.1 a.2) (OS _)⟩
   exact⟨rfl,Tz hT j rfl c (b1 0 g a.1) (b1 _ f (ABs a.1 a.2.1)) (ZE a.2.1) (Ig (ABs a.1 a.2.1) a.2.2)⟩
  cases h
 .rename_i e offs el bytes n E b c0 B h0 q r t y;cases q;cases r;cases t;cases y;split at h
  .rename_i A;subst A;unfold Ia at h;split at h<;>first|(cases h;done)|(rename_i m;cases m<;>cases h)
   .refine⟨rfl,?_⟩;have:=T6 (P:=P) hT j rfl c (i 0 g) (b1 _ f a.1) (DO _) (Ig a.1 a.2);simpa using this
   .refine⟨rfl,?_⟩;have:=T6 (P:=P) hT j rfl c (b1 0 g a.1) (i _ f) (Ig a.1 a.2) (OS _);have H:=Ig a.1 a.2;obtain⟨_,_,_,_,_,G,_⟩:=c;grind
   exact⟨rfl,T6 hT j rfl c (b1 0 g a.1) (b1 _ f (ABs a.1 a.2.1)) (ZE a.2.1) (Ig (ABs a.1 a.2.1) a.2.2)⟩
  cases h
 .rename_i offs el bytes s B h0 q r t y;cases q;cases r;cases t;cases y;have c:BS V.w V.O .str xv s:=c;unfold Ia at h;split at h<;>first|(cases h;done)|(rename_i m;cases m<;>cases h)
  .exact⟨rfl,T7 hT rfl c (i 0 g) (b1 _ f a.1) (DO _) (Ig a.1 a.2)⟩
  .exact⟨rfl,T7 hT rfl c (b1 0 g a.1) (i _ f) (Ig a.1 a.2) (OS _)⟩
  exact⟨rfl,T7 hT rfl c (b1 0 g a.1) (b1 _ f (ABs a.1 a.2.1)) (ZE a.2.1) (Ig (ABs a.1 a.2.1) a.2.2)⟩
 cases h
end
end
end Go.Proofs.YtglkoagnnnpimaaGreatDoor.Fw
