/- The executor's quiet operations are sound, first part. -/
import Derived.Test.YtglkoagnnnpimaaGreatDoorBZA
import Derived.Laws.IdiomStrings
set_option linter.unusedVariables false
set_option linter.unusedSimpArgs false
namespace Go.Proofs.YtglkoagnnnpimaaGreatDoor.Fw
variable {v d:Value} {D C:Option Value} {k:IntKind} {s:ByteArray} {b:List Value} {z:Int} {e:Ty} {Z:Type} {a:Option Addr} {Y:BinOp} {x:AV} {l:List AV}
section
open Go Go.RowKit
theorem Oj {w:World} {O:Nat->Prop}:∀ {t:Ty} {k:Nat} {d:t.den} {pv:PV} {cs:List Value},Gz t k d=some pv->Bu w O t cs d ->
  bF t k=some pv.t/\∃o,Ks t k=some o/\o+pv.t.size<=t.size/\Bu w O pv.t ((cs.drop o).take pv.t.size) pv.d
 | .prod a b,0,d,pv,cs,h,c=>by
  simp only[Gz]at h;cases h;obtain⟨c1,c2,rfl,h1,f⟩:=c;refine⟨rfl,0,rfl,by simp[Ty.size],?_⟩;have e:=h1.length;simp only[AAD,<-e,List.take_left];exact h1
 | .prod a b,k+1,d,pv,cs,h,c=>by
  simp only[Gz]at h;obtain⟨c1,c2,rfl,h1,f⟩:=c;obtain⟨g,o,i,l,j⟩:=Oj h f;refine⟨g,a.size+o,by simp[Ks,i],by simp[Ty.size];omega,?_⟩;have e:=h1.length;rw[<-e,<-ABO,List.drop_left];exact j
 | .int _,0,d,pv,cs,h,c=>by
  simp only[Gz]at h;cases h;refine⟨rfl,0,rfl,by simp,?_⟩;have e:=c.length;simp only[AAD,<-e,oF];exact c
 | .bool,0,d,pv,cs,h,c=>by
  simp only[Gz]at h;cases h;refine⟨rfl,0,rfl,by simp,?_⟩;have e:=c.length;simp only[AAD,<-e,oF];exact c
 | .str,0,d,pv,cs,h,c=>by
  simp only[Gz]at h;cases h;refine⟨rfl,0,rfl,by simp,?_⟩;have e:=c.length;simp only[AAD,<-e,oF];exact c
 | .slice _,0,d,pv,cs,h,c=>by
  simp only[Gz]at h;cases h;refine⟨rfl,0,rfl,by simp,?_⟩;have e:=c.length;simp only[AAD,<-e,oF];exact c
 | .ref _,0,d,pv,cs,h,c=>by
  simp only[Gz]at h;cases h;refine⟨rfl,0,rfl,by simp,?_⟩;have e:=c.length;simp only[AAD,<-e,oF];exact c
 | .ref _,_+1,d,pv,cs,h,c=>by simp[Gz]at h
 | .agg _,0,d,pv,cs,h,c=>by
  simp only[Gz]at h;cases h;refine⟨rfl,0,rfl,by simp,?_⟩;have e:=c.length;simp only[AAD,<-e,oF];exact c
 | .int _,_+1,d,pv,cs,h,c=>by simp[Gz]at h
 | .bool,_+1,d,pv,cs,h,c=>by simp[Gz]at h
 | .str,_+1,d,pv,cs,h,c=>by simp[Gz]at h
 | .slice _,_+1,d,pv,cs,h,c=>by simp[Gz]at h
 | .agg _,_+1,d,pv,cs,h,c=>by simp[Gz]at h
theorem Y5 {α:Type} (cs:List α) (o m a n:Nat) (h:a+n<=m):(((cs.drop o).take m).drop a).take n=(cs.drop (o+a)).take n:=by
 rw[List.drop_take,ABM,ABO]
 congr 1
 omega
theorem Tf {w:World} {O:Nat->Prop}:∀ {f:List Nat} {t:Ty} {d:t.den} {pv:PV} {cs:List Value} {off:Nat},TT f t d=some pv->Mu f t=some off->Bu w O t cs d ->
  off+pv.t.size<=t.size/\Bu w O pv.t ((cs.drop off).take pv.t.size) pv.d
 | [],t,d,pv,cs,off,h,a,b=>by
  simp only[TT]at h;simp only[Mu]at a;cases h;cases a;have e:=b.length;simp only[AAD,<-e,oF];exact⟨by simp[e],b⟩
 | k :: r,t,d,pv,cs,off,h,a,b=>by
  cases t<;>simp only[TT,Mu]at h a<;>try(cases h;done)
  rename_i t;split at h
  .rename_i p m;have b:Bu w O t cs d:=b;obtain⟨h1,o,g,n,i⟩:=Oj m b;rw[h1,g]at a;simp only[No]at a;obtain⟨q,l,rfl⟩:=a;obtain⟨j,c⟩:=Tf h l i;refine⟨by simp only[Ty.size];omega,?_⟩;rw[Y5 _ _ _ _ _ j]at c;exact c
  cases h
def A1 {α:Type} (cs:List α) (o:Nat) (a:List α):List α:=cs.take o++a++cs.drop (o+a.length)
theorem D0 {α:Type} {cs:List α} {o:Nat} {a:List α} (h:o+a.length<=cs.length):(A1 cs o a).length=cs.length:=by
 simp[A1];omega
theorem Dk {α:Type} {cs a:List α} (h:a.length=cs.length):A1 cs 0 a=a:=by
 simp[A1,h]
theorem Ol {α:Type} (a b:List α) (o:Nat) (c:List α):A1 (a++b) (a.length+o) c=a++A1 b o c:=by
 simp only[A1,List.take_append,ACJ,AA9];have h1:List.take (a.length+o) a=a:=At O1;have d:List.drop (a.length+o+c.length) a=[]:=NO O1;have e:a.length+o-a.length=o:=by omega
 have f:a.length+o+c.length-a.length=o+c.length:=by omega
 rw[h1,d,e,f];simp
theorem RZ {α:Type} (a b:List α) (c:List α) (h:c.length=a.length):A1 (a++b) 0 c=c++b:=by
 simp[A1,h]
theorem bN {w:World} {O:Nat->Prop}:∀ {t:Ty} {k:Nat} {d i:t.den} {pv:PV} {cs g:List Value} {o:Nat},NW t k d pv=some i->Ks t k=some o->Bu w O t cs d->Bu w O pv.t g pv.d ->
  Bu w O t (A1 cs o g) i/\bF t k=some pv.t
 | .prod a b,0,d,i,pv,cs,g,o,h,c,f,e=>by
  simp only[NW,No]at h;obtain⟨y,l,rfl⟩:=h;have:=BF l;subst this;simp only[Ks]at c;cases c;obtain⟨c1,c2,rfl,h1,j⟩:=f;rw[RZ _ _ _ (by rw[e.length,h1.length])];exact⟨⟨g,c2,rfl,e,j⟩,rfl⟩
 | .prod a b,k+1,d,i,pv,cs,g,o,h,c,f,e=>by
  simp only[NW,No]at h;obtain⟨y,l,rfl⟩:=h;simp only[Ks,No]at c;obtain⟨q,p,rfl⟩:=c;obtain⟨c1,c2,rfl,h1,j⟩:=f;obtain⟨m,n⟩:=bN l p j e;rw[<-h1.length,Ol];exact⟨⟨c1,_,rfl,h1,m⟩,n⟩
 | .int _,0,d,i,pv,cs,g,o,h,c,f,e=>by
  have:=BF h;subst this;simp only[Ks]at c;cases c;rw[Dk (by rw[e.length,f.length])];exact⟨e,rfl⟩
 | .bool,0,d,i,pv,cs,g,o,h,c,f,e=>by
  have:=BF h;subst this;simp only[Ks]at c;cases c;rw[Dk (by rw[e.length,f.length])];exact⟨e,rfl⟩
 | .str,0,d,i,pv,cs,g,o,h,c,f,e=>by
  have:=BF h;subst this;simp only[Ks]at c;cases c;rw[Dk (by rw[e.length,f.length])];exact⟨e,rfl⟩
 | .slice _,0,d,i,pv,cs,g,o,h,c,f,e=>by
  have:=BF h;subst this;simp only[Ks]at c;cases c;rw[Dk (by rw[e.length,f.length])];exact⟨e,rfl⟩
 | .ref _,0,d,i,pv,cs,g,o,h,c,f,e=>by
  have:=BF h;subst this;simp only[Ks]at c;cases c;rw[Dk (by rw[e.length,f.length])];exact⟨e,rfl⟩
 | .ref _,_+1,d,i,pv,cs,g,o,h,c,f,e=>by simp[NW]at h
 | .agg _,0,d,i,pv,cs,g,o,h,c,f,e=>by
  have:=BF h;subst this;simp only[Ks]at c;cases c;rw[Dk (by rw[e.length,f.length])];exact⟨e,rfl⟩
 | .int _,_+1,d,i,pv,cs,g,o,h,c,f,e=>by simp[NW]at h
 | .bool,_+1,d,i,pv,cs,g,o,h,c,f,e=>by simp[NW]at h
 | .str,_+1,d,i,pv,cs,g,o,h,c,f,e=>by simp[NW]at h
 | .slice _,_+1,d,i,pv,cs,g,o,h,c,f,e=>by simp[NW]at h
 | .agg _,_+1,d,i,pv,cs,g,o,h,c,f,e=>by simp[NW]at h
theorem Ie {α:Type} (cs:List α) (o m a:Nat) (b:List α) (h:a+b.length<=m) (i:o+m<=cs.length) :
  A1 cs o (A1 ((cs.drop o).take m) a b)=A1 cs (o+a) b:=by
 apply AC7;intro j;have c:(A1 ((cs.drop o).take m) a b).length=m:=by rw[D0]<;>simp<;>omega
 simp only[A1]at c ⊢;rw[c];simp only[AAE,Do,OR,AB3,AAg,AAG];have d:min o cs.length=o:=by omega
 have e:min m (cs.length-o)=m:=by omega
 have f:min a m=a:=by omega
 have g:min (o+a) cs.length=o+a:=by omega
 rw[d,e,f,g];by_cases c1:j<o
 .grind
 grind
theorem Tg {w:World} {O:Nat->Prop}:∀ {l:List Nat} {t:Ty} {d f:t.den} {pv:PV} {cs c:List Value} {off:Nat},Wd l t d pv=some f->Mu l t=some off->Bu w O t cs d->Bu w O pv.t c pv.d ->
  Bu w O t (A1 cs off c) f/\off+c.length<=cs.length
 | [],t,d,f,pv,cs,c,off,h,b,a,e=>by
  have:=BF h;subst this;simp only[Mu]at b;cases b;rw[Dk (by rw[e.length,a.length])];exact⟨e,by simp[e.length,a.length]⟩
 | k :: r,t,d,f,pv,cs,c,off,h,b,a,e=>by
  cases t<;>simp only[Wd,Mu]at h b<;>try(cases h;done)
  rename_i t;have a:Bu w O t cs d:=a;split at h
  .rename_i p u;obtain⟨h1,o,g,x,m⟩:=Oj u a;rw[h1,g]at b;simp only[No]at b;obtain⟨A,s,rfl⟩:=b;split at h
   .rename_i y v;obtain⟨n,i⟩:=Tg v s m e;have z:=a.length;have q:((cs.drop o).take p.t.size).length=p.t.size:=by simp;omega
    rw[q]at i;obtain⟨j,_⟩:=bN (pv:=⟨p.t,y⟩) h g a n;rw[Ie _ _ _ _ _ i O1]at j;exact⟨j,by omega⟩
   cases h
  cases h
end
section
open Go Go.RowKit
section
variable {V:Vw}
theorem W5:∀l:List AV,AV.cellss l=CO l l.length
 | []=>rfl
 | x :: r=>by simp only[AV.cellss,IS,CO,W5 r]
theorem Sh:(∀(x:AV) (cs:List Value),Fl V x cs->cs.length=x.cells/\∀u∈cs,u.oneCell'=true)/\∀(l:List AV) (cs:List Value),AVCs V l cs->cs.length=AV.cellss l/\∀u∈cs,u.oneCell'=true:=by
 have key:∀n:Nat,(∀(x:AV) (cs:List Value),SizeOf.sizeOf x<n->Fl V x cs->cs.length=x.cells/\∀u∈cs,u.oneCell'=true)/\∀(l:List AV) (cs:List Value),SizeOf.sizeOf l<n->AVCs V l cs->cs.length=AV.cellss l/\∀u∈cs,u.oneCell'=true:=by
  intro n;induction n with
  | zero=>exact⟨λ_ _ h=>by omega,λ_ _ h=>by omega⟩
  | succ n a =>
   refine⟨λx cs hn h=>?_,λl cs hn h=>?_⟩
   .cases x;case p t d=>exact⟨Bu.length (show Bu V.w V.O t cs d from h),Bu.one (show Bu V.w V.O t cs d from h)⟩
    case ag l =>
     simp only[AV.ag.sizeOf_spec]at hn;exact a.2 l cs O1 h
    case tup l=>obtain⟨v,_,_,hf⟩:=h;exact hf.elim
    all_goals(obtain⟨v,rfl,h1,_⟩:=h;exact⟨rfl,λu hu=>by simp at hu;subst hu;exact h1⟩)
   cases l with
   | nil=>have h:cs=[]:=h;subst h;exact⟨rfl,by simp⟩
   | cons x r =>
    obtain⟨c1,c2,rfl,h1,e⟩:=h;simp only[ACd]at hn;have b:=a.1 x c1 O1 h1;have c:=a.2 r c2 O1 e;refine⟨by simp only[Do,AV.cellss,b.1,c.1],λu hu=>?_⟩;rcases Is.1 hu with hu|hu
    .exact b.2 u hu
    exact c.2 u hu
 exact⟨λx cs=>(key _).1 x cs (AAX _),λl cs=>(key _).2 l cs (AAX _)⟩
theorem Fl.length {cs:List Value} (h:Fl V x cs):cs.length=x.cells:=(Sh.1 x cs h).1
theorem Fl.one {cs:List Value} (h:Fl V x cs):∀u∈cs,u.oneCell'=true:=(Sh.1 x cs h).2
theorem AVCs.one {cs:List Value} (h:AVCs V l cs):∀u∈cs,u.oneCell'=true:=(Sh.2 l cs h).2
theorem AVCs.length {cs:List Value} (h:AVCs V l cs):cs.length=CO l l.length:=(Sh.2 l cs h).1.trans (W5 l)
theorem AVCs.get:∀ {l:List AV} {cs:List Value} {k:Nat} {x:AV},AVCs V l cs->l[k]?=some x ->
  CO l k+x.cells<=cs.length/\Fl V x ((cs.drop (CO l k)).take x.cells)
 | [],cs,k,x,h,hk=>by simp at hk
 | y :: r,cs,0,x,h,hk=>by
  obtain⟨c1,c2,rfl,h1,a⟩:=h;simp at hk;subst hk;have:=h1.length;grind [CO]
 | y :: r,cs,k+1,x,h,hk=>by
  obtain⟨c1,c2,rfl,h1,a⟩:=h;have hk:r[k]?=some x:=by simpa using hk
  obtain⟨c,b⟩:=AVCs.get a hk;have:=h1.length;refine⟨by simp only[CO,Do];omega,?_⟩;simp only[CO,<-this];rw[<-ABO,List.drop_left];exact b
theorem AVCs.set:∀ {l:List AV} {cs:List Value} {k:Nat} {x y:AV} {a:List Value},AVCs V l cs->l[k]?=some x->Fl V y a->y.cells=x.cells ->
  AVCs V (l.set k y) (A1 cs (CO l k) a)
 | [],cs,k,x,y,a,h,hk,b,c=>by simp at hk
 | z :: r,cs,0,x,y,a,h,hk,b,c=>by
  obtain⟨c1,c2,rfl,h1,d⟩:=h;simp at hk;subst hk;simp only[CO,ACr];rw[RZ _ _ _ (by rw[b.length,h1.length,c])];exact⟨a,c2,rfl,b,d⟩
 | z :: r,cs,k+1,x,y,a,h,hk,b,c=>by
  obtain⟨c1,c2,rfl,h1,d⟩:=h;have hk:r[k]?=some x:=by simpa using hk
  have:=h1.length;simp only[CO,ACs,<-this];rw[Ol];exact⟨c1,_,rfl,h1,AVCs.set d hk b c⟩
theorem iX {ty:Ty} (a:Fl V x b) (hf:CP ty x=true):b.length=ty.size/\B1 V x (ty.wrap b):=by
 cases x;case p t d =>
  simp only[CP,If]at hf;subst hf;have a:Bu V.w V.O ty b d:=a;exact⟨Bu.length a,b,a,rfl⟩
 case ag l =>
  have a:AVCs V l b:=a;have e:=a.length;cases ty<;>simp only[CP]at hf<;>try(cases hf;done)
  simp only[AAc]at hf;exact⟨by simp only[Ty.size];omega,b,rfl,a⟩
 case tup l=>obtain⟨v,_,_,hf⟩:=a;exact hf.elim
 all_goals
  obtain⟨v,rfl,_,h1⟩:=a;have c:ty.cell1=true:=by simp only[CP]at hf;first|exact hf|(simp only[An]at hf;exact hf.2)|exact absurd hf dg
  cases ty<;>first|(cases c;done)|exact⟨rfl,h1⟩
theorem wI {ty:Ty} (i:B1 V x v) (hf:CP ty x=true) (o:ty.cell1=true->v.oneCell'=true):v.cells.size=ty.size/\((∀l,x≠.ag l)->Fl V x v.cells.toList):=by
 cases x;case p t d =>
  simp only[CP,If]at hf;subst hf;obtain⟨cs,f,rfl⟩:=i;have g:=f.length;cases ty;case agg t=>exact⟨by simpa[Ty.wrap,Value.cells] using g,λ_=>by simpa[Ty.wrap,Value.cells,Fl] using f⟩
  case prod a b=>exact⟨by simpa[Ty.wrap,Value.cells] using g,λ_=>by simpa[Ty.wrap,Value.cells,Fl] using f⟩
  case slice e =>
   obtain⟨a,c,rfl,h⟩:=f;exact⟨rfl,λ_=>⟨a,c,rfl,h⟩⟩
  case int k =>
   obtain⟨rfl,h⟩:=f;exact⟨rfl,λ_=>⟨rfl,h⟩⟩
  case bool =>
   have f:cs=_:=f;subst f;exact⟨rfl,λ_=>rfl⟩
  case str =>
   obtain⟨rfl,h⟩:=f;exact⟨rfl,λ_=>⟨rfl,h⟩⟩
  case ref k =>
   obtain⟨rfl,h⟩:=f;have q:(Ty.ref k).wrap [QG k d]=QG k d:=rfl;rw[q,TS];exact⟨rfl,λ_=>⟨rfl,h⟩⟩
 case ag l =>
  obtain⟨cs,rfl,n⟩:=i;have g:=n.length;cases ty<;>simp only[CP]at hf<;>try(cases hf;done)
  rename_i t;simp only[AAc]at hf;exact⟨by simp[Value.cells,Ty.size,g,hf],λh=>absurd rfl (h l)⟩
 case tup l=>simp[CP]at hf
 all_goals
  have h1:ty.cell1=true:=by simp only[CP]at hf;first|exact hf|(simp only[An]at hf;exact hf.2)|exact absurd hf dg
  have j:v.oneCell'=true:=o h1;have m:v.cells=#[v]:=by cases v<;>first|rfl|simp[Value.oneCell']at j
  have hs:ty.size=1:=by cases ty<;>simp[Ty.cell1]at h1<;>rfl
  rw[m];exact⟨by simp[hs],λ_=>⟨v,rfl,j,i⟩⟩
end
end
section
open Go Go.RowKit
section
variable {P:Program} {tb:Tb} {id:TypeId} {ti:TI} {w:World} {O0:Nat->Prop} {σ:St} {ρ:Nat->Value} {vc:Prop} {v:AV} {obs:List (Nat×Obj)}
theorem W6 {w:World} {base:Nat} {et:TypeId} {size:Nat} {g m c n:Nat} {cells:List Value} (h:w.ownsRow base et size (.slice (some ⟨g,0,none⟩) m c) n cells) :
  m=n/\∀(j:Nat) (u:Value),cells[j]?=some u->w.cell? ⟨g,j,none⟩=some u:=by
 constructor
 .rcases h.2 with ⟨a,_⟩|⟨e,cap,d,a,_⟩
  .injection a with h1;cases h1
  injection a
 intro j u b;have:=h.cells (g:=g) rfl j u b
 rwa [TQ]at this
theorem bO {V:Vw} {ty:Ty} {v:AV} (e:CP ty v=true):∀ {p:List Nat} {st:Bool} {fs:List AV} {cs:List Value} {off:Nat},AVCs V fs cs->Eo st fs p=some v->I0 fs p=some off ->
  off+ty.size<=cs.length/\∃j:List Value,j.length=ty.size/\j=(cs.drop off).take ty.size/\B1 V v (ty.wrap j)
 | [],st,fs,cs,off,g,a,c=>by
  simp only[I0]at c;cases c;cases st with
  | true =>
   simp only[Eo,AAJ]at a;cases a;have A:=g.length;cases x:ty<;>rw[x]at e<;>simp only[CP]at e<;>try(cases e;done)
   rename_i t;simp only[AAc]at e;have o:cs.length=(Ty.agg t).size:=by simp only[Ty.size];omega
   exact⟨by omega,cs,o,by rw[<-o];simp,cs,rfl,g⟩
  | false =>
   simp only[Eo,AAT,AB1]at a;have y:CO fs 0=0:=by cases fs<;>rfl
   obtain⟨h1,b⟩:=g.get a;rw[y]at h1 b;obtain⟨h,m⟩:=iX b e;have f:=b.length;exact⟨by omega,_,h,by rw[<-h,f],m⟩
 | [k],st,fs,cs,off,g,a,c=>by
  cases st with
  | false=>simp[Eo]at a
  | true =>
   simp only[Eo,AAJ]at a;obtain⟨h1,b⟩:=g.get a;obtain⟨h,m⟩:=iX b e;have f:=b.length;have s:off=CO fs k:=by
    simp only[I0,a]at c;cases v<;>simp only[Mu,I0,ABm,List.isEmpty_nil,AAJ]at c<;>cases c<;>rfl
   subst s;exact⟨by omega,_,h,by rw[<-h,f],m⟩
 | k :: B :: r,st,fs,cs,off,g,a,c=>by
  cases st with
  | false=>simp[Eo]at a
  | true =>
   simp only[Eo,AAJ]at a;split at a
   .rename_i t d hk;simp only[No]at a;obtain⟨pv,u,rfl⟩:=a;simp only[I0,hk,No]at c;obtain⟨z,n,rfl⟩:=c;obtain⟨h1,b⟩:=g.get hk;have b:Bu V.w V.O t _ d:=b;obtain⟨f,i⟩:=Tf u n b;simp only[AV.cells]at h1 i;rw[Y5 _ _ _ _ _ f]at i;simp only[CP,If]at e;subst e;have q:=i.length;exact⟨by omega,_,q,rfl,_,i,rfl⟩
   .rename_i l hk;simp only[I0,hk,No]at c;obtain⟨z,n,rfl⟩:=c;obtain⟨h1,b⟩:=g.get hk;have b:AVCs V l _:=b;obtain⟨h,j,m,f,i⟩:=bO e b a (by simpa only[I0] using n);simp only[OR,AB3]at h;rw[Y5 _ _ _ _ _ O1]at f;exact⟨by omega,j,m,f,i⟩
   cases a
theorem wJ (hT:Du P tb id ti) (K:∀n o,lk n σ.objs=some o->A8 (vw w O0 σ ρ) o (ρ n)) {x:AV} {xv:Value}
  (h:KV σ (some ti) (some x)=some (vc,v,obs)) (O:B1 (vw w O0 σ ρ) x xv):obs=[]/\∃u,(Instr.loadAt id xv).run P w=.ok u w/\B1 (vw w O0 σ ρ) v u:=by
 unfold KV at h;split at h
 .rename_i n R off E F;cases E;cases F;obtain⟨T,b,q,rfl⟩:=O;cases hn:lk n σ.objs with
  | none=>rw[hn]at h;simp[EJ]at h
  | some o =>
   rw[hn]at h;cases o with
   | arr et e xs=>simp[EJ]at h
   | mapo k v l=>simp[EJ]at h
   | frame ax fs=>simp[EJ]at h
   | loop L=>simp[EJ]at h
   | itr ar aw au av ap=>simp[EJ]at h
   | dfr=>simp[EJ]at h
   | sit sb sp=>simp[EJ]at h
   | nest et aq k e xs B=>simp[EJ]at h
   | box et st fs =>
    simp only[EJ]at h;cases B:Eo st fs R with
    | none=>rw[B]at h;simp[Jj]at h
    | some y =>
     rw[B]at h;simp only[Jj]at h;split at h
     .rename_i z;obtain⟨ai,M⟩:=z;cases h;obtain⟨be,ay,cs,f,aj,ae⟩:=K n _ hn;have q:ρ n=_:=q;rw[q]at f;injection f with f
      injection f with f
      injection f with f
      subst f;have D:∀(t:List Value) (o:Nat),t=(cs.drop o).take t.length->∀(j:Nat) (u:Value),t[j]?=some u->w.cell? ((⟨b,o,none⟩:Addr).add j)=some u:=by
       intro t o V j u a;rw[Iz,cell_of_row w b (o+j) cs.toArray et (0,0) aj];rw[V,AAg,AAG]at a;split at a
       .simpa using a
       cases a
      refine⟨rfl,?_⟩;obtain⟨bc,t,A,H,I⟩:=bO ai ae B M;have:=F5 w hT A (D t off (by rw[A];exact H));exact⟨_,this,I⟩
     cases h
 .rename_i n e i R off E F;cases E;cases F;obtain⟨T,g,m,c,q,am,rfl⟩:=O;cases hn:lk n σ.objs with
  | none=>rw[hn]at h;simp[EK]at h
  | some o =>
   rw[hn]at h;cases o with
   | box et st fs=>simp[EK]at h
   | mapo k v l=>simp[EK]at h
   | frame ax fs=>simp[EK]at h
   | loop L=>simp[EK]at h
   | itr ar aw au av ap=>simp[EK]at h
   | dfr=>simp[EK]at h
   | sit sb sp=>simp[EK]at h
   | nest et aq k r xs B =>
    cases B with
    | some j=>simp[EK]at h
    | none =>
     simp only[EK]at h;split at h
     .rename_i af;subst af;obtain⟨o,ins,cells,f,J⟩:=K n _ hn;have q:plc (ρ n)=_:=q;have an:plc (ρ n)=o:=f.plc;have s:=J.own;rw[<-an,q]at s;obtain⟨rfl,D⟩:=W6 s;have Q:xs[i]?=some (xs.getD i (k.dflt,[])):=by grind
      have G:i<ins.length:=by rw[J.len];exact am
      obtain⟨c1,v1,U,Y,A⟩:=J.row i _ ins[i] Q (AT G);rcases A with ⟨A,_⟩|⟨_,Z,I⟩
      .cases A
      have W:c1.length=k.size:=Y.length;unfold QH at h;split at h
      .split at h
       .rename_i C;obtain⟨p,rfl⟩:=C;cases h;have:=F5 (ad:=⟨g,i*(Ty.agg (.prod k (.slice r))).size+0,none⟩) w hT (by rw[p];exact W) (λj u a=>by
         rw[Iz];refine D _ _ (U j u ?_);rw[AA8 (On.1 a).1];exact a)
        rw[p]at this;exact⟨rfl,_,this,c1,Y,rfl⟩
       cases h
      .split at h
       .rename_i C;obtain⟨p,rfl⟩:=C;cases h;have:=F5 (ad:=⟨g,i*(Ty.agg (.prod k (.slice r))).size+k.size,none⟩) (cs:=[v1]) w hT (by rw[p];rfl) (λj u a=>by
         have ak:j=0:=by have:=(On.1 a).1;simpa using this
         subst ak;rw[Iz];refine D _ _ (U k.size u ?_);rw[rQ O1,W,AB7];exact a)
        rw[p]at this;obtain⟨aa,ab,ao⟩:=wC Z I;exact⟨rfl,_,this,T,_,aa,ab,ins[i],f.resolve_right (λh=>by rw[h.2.2]at G;simp at G),by simp[G],Z,ao⟩
       cases h
      cases h
     cases h
   | arr et r xs =>
    simp only[EK]at h;cases z:BW (.slice e) ⟨.slice r,xs⟩ with
    | none=>rw[z]at h;simp[Jl]at h
    | some ys =>
     obtain⟨rfl,H⟩:=Bo z;cases H;rw[z]at h;simp only[Jl]at h;cases N:TT R r (xs.getD i r.dflt) with
     | none=>rw[N]at h;simp[Jk]at h
     | some pv =>
      rw[N]at h;simp only[Jk]at h;split at h
      .rename_i C;obtain⟨p,M⟩:=C;cases h;obtain⟨bd,cells,s,ag⟩:=K n _ hn;have q:plc (ρ n)=_:=q;have s:w.ownsRow 0 et r.size (ρ n) xs.length cells:=s;rw[G2 s]at q;rw[q]at s;obtain⟨rfl,D⟩:=W6 s;have Q:xs[i]?=some (xs.getD i r.dflt):=by grind
       obtain⟨t,V,bb,ah⟩:=ag i _ Q;obtain⟨az,S⟩:=Tf N M ah;have al:=S.length;have:=F5 (ad:=⟨g,i*r.size+off,none⟩) w hT (by rw[p];exact al) (λj u a=>by
        rw[Iz,ACj];rw[AAg,AAG]at a;split at a
        .grind
        cases a)
       rw[p]at this;exact⟨rfl,_,this,_,S,rfl⟩
      cases h
 .rename_i u d E F;cases E;cases F;obtain⟨ad,cs,rfl,ba,z,X⟩:=O;split at h
  .rename_i p;cases h;have:=F5 w hT (by rw[p];exact X.length) z;rw[p]at this;exact⟨rfl,_,this,cs,X,rfl⟩
  cases h
 cases h
end
end
section
open Go Go.RowKit
section
variable {P:Program} {tb:Tb} {id:TypeId} {ti:TI} {w:World} {V:Vw} {vc:Prop} {v:AV} {obs:List (Nat×Obj)}
theorem iY {α:Type} {l:List α} {k:Nat} {x:α} (h:l[k]?=some x):x∈l:=AAy h
theorem bP (hT:Du P tb id ti) {u:Ty} (p:ti.ty=.agg u) (d:ti.el=0) {f k s:Nat} (hf:ti.offs[f]?=some (k,s)) (ad:Addr) (w:World) :
  (Instr.fieldAt id (.pointer (some ad)) f).run P w=.ok (.pointer (some (ad.add k))) w:=by
 obtain⟨⟨⟨m,_⟩,_⟩,a⟩:=hT;rw[p]at a;simp only at a;rcases a with ⟨fs,_,hu,o⟩|⟨n,e,i,l,_⟩
 .have b:(ti.offs.map some)[f]?=some (some (k,s)):=by simp[hf]
  rw[o]at b;simp only[AAw,No]at b;obtain⟨fl,h,g⟩:=b;obtain⟨i,hi,c⟩:=g;cases c;have j:fs[f]?=some fl:=by simpa using h
  have hs:i.size≠0:=m _ (iY hf);simp[Instr.fieldAt,aT hu,j,Instr.sureAddr,fieldPlace,sizeOf,LG w hi,hs]
 exact absurd d l
theorem bQ (hT:Du P tb id ti) {u:Ty} (h:ti.ty=.agg u) (c:ti.el≠0) {k s:Nat} {kd:IntKind} (j:0<=z) (hf:ti.offs[z.toNat]?=some (k,s)) (ad:Addr) (w:World) :
  (Instr.indexAt id (.pointer (some ad)) (.int kd z)).run P w=.ok (.pointer (some (ad.add k))) w:=by
 obtain⟨_,a⟩:=hT;rw[h]at a;simp only at a;rcases a with ⟨fs,h0,_⟩|⟨n,e,i,_,hu,hi,g⟩
 .exact absurd h0 c
 rw[g]at hf;simp only[AAw,No]at hf;obtain⟨l,d,b⟩:=hf;cases b;obtain⟨h1,a⟩:=On.1 d;simp only[AC6]at h1;simp only[ABV]at a;subst a;have f:z<(n:Int):=by omega
 simp[Instr.indexAt,asIntOf,aT hu,Instr.sureAddr,sizeOf,LG w hi,j,f]
theorem wK {f:Nat} {o:Option (Nat×Nat)} {x:AV} {xv:Value} {run:Value->Result Value} (y:∀k s ad,o=some (k,s)->run (.pointer (some ad))=.ok (.pointer (some (ad.add k))) w)
  (h:RM f o x=some (vc,v,obs)) (z:B1 V x xv):obs=[]/\∃u,run xv=.ok u w/\B1 V v u:=by
 unfold RM at h;split at h
 .rename_i n G off;obtain⟨q,b,A,rfl⟩:=z;cases o with
  | none=>simp[We]at h
  | some p =>
   obtain⟨k,s⟩:=p;simp only[We]at h;cases h;exact⟨rfl,_,y k s _ rfl,q,b,A,by rw[Iz]⟩
 .rename_i n e i G off;obtain⟨q,g,m,c,A,F,rfl⟩:=z;cases o with
  | none=>simp[We]at h
  | some p =>
   obtain⟨k,s⟩:=p;simp only[We]at h;cases h;exact⟨rfl,_,y k s _ rfl,q,g,m,c,A,F,by rw[Iz,ACj]⟩
 .rename_i u d;obtain⟨ad,cs,rfl,D,E,t⟩:=z;cases r:Gz u f d with
  | none=>rw[r]at h;simp[Jm]at h
  | some pv =>
   rw[r]at h;simp only[Jm]at h;split at h
   .rename_i l;cases h;have t:Bu V.w V.O u cs d:=t;obtain⟨h1,I,B,H,C⟩:=Oj r t;rw[B]at l;cases o with
    | none=>simp at l
    | some p =>
     obtain⟨k,s⟩:=p;simp only[ABm,AAQ]at l;subst l;refine⟨rfl,_,y k s _ rfl,ad.add k,_,rfl,by rw[B2];exact D,λj u a=>?_,C⟩;rw[Cp];rw[AAg,AAG]at a;split at a
     .exact E _ _ a
     cases a
   cases h
 cases h
theorem A2H (hT:Du P tb id ti) {f:Nat} {x:AV} {xv:Value} (w:World)
  (h:HS f (some ti) (some x)=some (vc,v,obs)) (e:B1 V x xv):obs=[]/\∃u,(Instr.fieldAt id xv f).run P w=.ok u w/\B1 V v u:=by
 unfold HS at h;split at h
 .rename_i u offs b g a c;cases a;cases c;exact wK (run:=λxv=>(Instr.fieldAt id xv f).run P w) (λk s ad d=>bP hT rfl rfl d ad w) h e
 cases h
theorem Ra {e:TypeId} (hu:P.underlying id=some (.slice e)) {size:Nat} (hs:(sizeOf e).run P w=.ok size w) (a:Addr) (n c:Nat) (k:IntKind) (i:Int) (h0:0<=i) (h1:i<n) :
  (Instr.indexAt id (.slice (some a) n c) (.int k i)).run P w=.ok (.pointer (some (a.add (i.toNat*size)))) w:=by
 simp[Instr.indexAt,asIntOf,aT hu,h0,h1,hs]
theorem A9F {el:TypeId} (hu:P.underlying id=some (.slice el)) (hs:(sizeOf el).run P V.w=.ok e.size V.w) {l:List e.den} {kd:IntKind} {k:Int} {xv:Value}
  (r:BV V.w V.O (.slice e) xv l) (n:0<=k) (o:k<(l.length:Int)) :
  ∃u,(Instr.indexAt id xv (.int kd k)).run P V.w=.ok u V.w/\B1 V (.ip e (l.getD k.toNat e.dflt)) u:=by
 obtain⟨cs,h,rfl⟩:=r;obtain⟨a,c,rfl,h1,t,b⟩:=h;have p:k.toNat<l.length:=by omega
 rcases b with b|⟨ad,rfl,f,i⟩
 .subst b;simp at p
 refine⟨_,Ra hu hs _ _ _ _ _ n o,?_⟩;have s:l[k.toNat]?=some (l.getD k.toNat e.dflt):=by grind
 obtain⟨d,v,g,q⟩:=i _ _ s;exact⟨_,d,rfl,by rw[B2];exact f,λj u m=>by rw[Cp];exact g j u m,q⟩
theorem A9G {el:TypeId} (hu:P.underlying id=some (.slice el)) (hs:(sizeOf el).run P V.w=.ok e.size V.w) {n lo hi:Nat} {kd:IntKind} {k:Int} {xv:Value}
  (s:B1 V (.sr n e lo hi) xv) (h:∀n,V.L n->∃o,A8 V o (V.ρ n)) (j:0<=k) (l:k<((hi-lo:Nat):Int)) :
  ∃u,(Instr.indexAt id xv (.int kd k)).run P V.w=.ok u V.w/\B1 V (.ep n e (lo+k.toNat) [] 0) u:=by
 obtain⟨b,a,m,c,f,A,z,t,v,rfl,y,h0,h1⟩:=s;have p:lo<hi:=by omega
 have i:=h1 p;obtain⟨o,q⟩:=h n b;obtain⟨g,rfl⟩:∃g,a=some ⟨g,0,none⟩:=by
  obtain⟨_,_,cells,r,_⟩:=W4 q f;rcases r.2 with ⟨d,hn⟩|⟨g,cap,x,d,_⟩
  .injection d;omega
  grind
 subst i;refine⟨_,Ra hu hs _ _ _ _ _ j l,b,g,m,c,f,by omega,?_⟩;rw[Cp,TQ,AC4];rfl
theorem BP {O:Nat->Prop} {w:World} {kd:IntKind} {k:Int} {v:Value} (h:BV w O (.int kd) v k):v=.int kd k/\H5 kd k:=by
 obtain⟨cs,⟨rfl,h1⟩,rfl⟩:=h;exact⟨rfl,h1⟩
theorem BU {O:Nat->Prop} {w:World} {kd:IntKind} {k:Int} (h:H5 kd k):BV w O (.int kd) (.int kd k) k:=⟨_,⟨rfl,h⟩,rfl⟩
theorem D1 {O:Nat->Prop} {w:World} {b:Bool} {v:Value} (h:BV w O .bool v b):v=.bool b:=by
 obtain⟨cs,h1,rfl⟩:=h;have h1:cs=_:=h1;subst h1;rfl
theorem Bk {O:Nat->Prop} {w:World} (b:Bool):BV w O .bool (.bool b) b:=⟨[.bool b],rfl,rfl⟩
theorem GV {O:Nat->Prop} {w:World} {v:Value} (h:BV w O .str v s):v=.string s/\s.size<=AO:=by
 obtain⟨cs,⟨rfl,h1⟩,rfl⟩:=h;exact⟨rfl,h1⟩
theorem Th {O:Nat->Prop} {w:World} (h:s.size<=AO):BV w O .str (.string s) s:=⟨_,⟨rfl,h⟩,rfl⟩
theorem CT {offs:List (Nat×Nat)} {el:TypeId} {bytes:Nat} (hT:Du P tb id ⟨.slice e,offs,el,bytes⟩) (b:C4 P tb) :
  P.underlying id=some (.slice el)/\(∀w,(sizeOf el).run P w=.ok e.size w)/\∃te,lk el tb.ty=some te/\te.ty=e:=by
 obtain⟨_,hu,te,a,rfl⟩:=hT;exact⟨hu,λw=>HW w (b _ _ a),te,a,rfl⟩
theorem A2I (hT:Du P tb id ti) (m:C4 P tb) {x y:AV} {xv p:Value}
  (h:F1 (some ti) (some x) (some y)=some (vc,v,obs)) (f:vc) (i:B1 V x xv) (j:B1 V y p) (r:∀n,V.L n->∃o,A8 V o (V.ρ n)) :
  obs=[]/\∃u,(Instr.indexAt id xv p).run P V.w=.ok u V.w/\B1 V v u:=by
 unfold F1 at h;split at h
 .rename_i e offs el bytes q l kd k a c d;cases a;cases c;cases d;split at h
  .rename_i g;subst g;cases h;obtain⟨hu,hs,_⟩:=CT hT m;obtain⟨rfl,_⟩:=BP j;exact⟨rfl,A9F hu (hs _) i f.1 f.2⟩
  cases h
 .rename_i e offs el bytes n q lo hi kd k a c d;cases a;cases c;cases d;split at h
  .rename_i g;subst g;cases h;obtain⟨hu,hs,_⟩:=CT hT m;obtain⟨rfl,_⟩:=BP j;exact⟨rfl,A9G hu (hs _) i r f.1 f.2⟩
  cases h
 .rename_i u offs el b A B a c d;cases a;cases c;cases d;unfold MN at h;split at h
  .rename_i kd k;split at h
   .rename_i hk;obtain⟨rfl,_⟩:=BP j;exact wK (run:=λxv=>(Instr.indexAt id xv (.int kd k)).run P V.w) (λz s ad t=>bQ hT rfl sc hk t ad V.w) h i
   cases h
  cases h
 cases h
theorem Js {n:Int} (h:H5 k n):k.wrap n=n:=by
 obtain⟨h1,a⟩:=h;cases k<;>simp[IntKind.min,IntKind.max,IntKind.signed,IntKind.bits]at h1 a<;>simp[IntKind.wrap,IntKind.signed,IntKind.bits]<;>omega
theorem MQ (k:IntKind) (n:Int):H5 k (k.wrap n):=by
 cases k<;>simp only[H5,IntKind.min,IntKind.max,IntKind.wrap,IntKind.signed,IntKind.bits]<;>simp<;>omega
theorem A66 {op:BinOp} {t:TypeId} {e:IntKind} {a b:Int} (w:World) (c:(bin op k a e b).1) (ha:H5 k a) :
  ∃u,(binOp op t (.int k a) (.int e b)).run P w=.ok u w/\B1 V (bin op k a e b).2 u:=by
 unfold bin at c ⊢;split at c
 .have d:¬b<0:=by have h:0<=b:=c;omega
  exact⟨_,by simp[binOp,Op.shift,d];rfl,BU (MQ _ _)⟩
 .have d:¬b<0:=by have h:0<=b:=c.1;omega
  exact⟨_,by simp[binOp,Op.shift,d];rfl,BU c.2⟩
 split at c
 .rename_i f g hk;subst hk;cases op<;>simp only[rR]at c ⊢;case add=>exact⟨.int k (a+b),by simp[binOp,Op.intArith,Js c],BU c⟩
  case sub=>exact⟨.int k (a-b),by simp[binOp,Op.intArith,Js c],BU c⟩
  case mul=>exact⟨.int k (a*b),by simp[binOp,Op.intArith,Js c],BU c⟩
  case quo=>exact⟨.int k (a.tdiv b),by simp[binOp,Op.intDiv,c.1,Js c.2],BU c.2⟩
  case rem=>exact⟨.int k (a.tmod b),by simp[binOp,Op.intDiv,c.1],BU c.2⟩
  case and=>exact⟨.int k (Ck .and k a b),by simp only[binOp,ne_eq,ABK,AB1,Op.intBits];rfl,BU (MQ _ _)⟩
  case or=>exact⟨.int k (Ck .or k a b),by simp only[binOp,ne_eq,ABK,AB1,Op.intBits];rfl,BU (MQ _ _)⟩
  case xor=>exact⟨.int k (Ck .xor k a b),by simp only[binOp,ne_eq,ABK,AB1,Op.intBits];rfl,BU (MQ _ _)⟩
  case andNot=>exact⟨.int k (Ck .andNot k a b),by simp only[binOp,ne_eq,ABK,AB1,Op.intBits];rfl,BU (MQ _ _)⟩
  case eql=>exact⟨.bool (a==b),by simp[binOp,Op.intCmp],Bk _⟩
  case neq=>exact⟨.bool (a != b),by simp[binOp,Op.intCmp],Bk _⟩
  case lss=>exact⟨.bool (decide (a<b)),by simp[binOp,Op.intCmp],Bk _⟩
  case leq=>exact⟨.bool (decide (a<=b)),by simp[binOp,Op.intCmp],Bk _⟩
  case gtr=>exact⟨.bool (decide (b<a)),by simp[binOp,Op.intCmp],Bk _⟩
  case geq=>exact⟨.bool (decide (b<=a)),by simp[binOp,Op.intCmp],Bk _⟩
 exact c.elim
theorem A2J {op:BinOp} {t:TypeId} {a b:ByteArray} (w:World) (c:(Yu a b op).1) :
  ∃u,(binOp op t (.string a) (.string b)).run P w=.ok u w/\B1 V (Yu a b op).2 u:=by
 cases op<;>simp only[Yu]at c ⊢;case add =>
  have d:AO=140737488355328:=rfl;have hh:¬(((a.size+b.size:Nat):Int) > IntKind.i64.max):=by
   have:IntKind.i64.max=9223372036854775807:=by decide
   omega
  exact⟨.string (a++b),by simp only[binOp,Op.stringOp,As hh];rfl,Th (by simpa[ABu] using c)⟩
 case eql=>exact⟨.bool (AM a b),by simp only[binOp,Op.stringOp];rfl,Bk _⟩
 case neq=>exact⟨.bool (!AM a b),by simp only[binOp,Op.stringOp];rfl,Bk _⟩
 case lss=>exact⟨.bool (CJ a b),by simp only[binOp,Op.stringOp];rfl,Bk _⟩
 case leq=>exact⟨.bool (CJ a b||AM a b),by simp only[binOp,Op.stringOp];rfl,Bk _⟩
 case gtr=>exact⟨.bool (!(CJ a b||AM a b)),by simp only[binOp,Op.stringOp];rfl,Bk _⟩
 case geq=>exact⟨.bool (!CJ a b),by simp only[binOp,Op.stringOp];rfl,Bk _⟩
 all_goals exact c.elim
theorem A8c {op:BinOp} {t:TypeId} {ti:Option TI} (n:TY ti=true->P.underlying t=some .bool) {x y:AV} {xv l:Value} (w:World)
  (h:SH op ti (some x) (some y)=some (vc,v,obs)) (m:vc) (i:B1 V x xv) (j:B1 V y l) :
  obs=[]/\(∀e f,(eqGuard op t e f xv l).run P w=.ok () w)/\∃u,(binOp op t xv l).run P w=.ok u w/\B1 V v u:=by
 unfold SH at h;split at h
 .rename_i k a o b c d;cases c;cases d;cases h;obtain⟨rfl,ha⟩:=BP i;obtain⟨rfl,_⟩:=BP j;refine⟨rfl,λe f=>?_,A66 w m ha⟩;cases op<;>simp[eqGuard]
 .rename_i a b c d;cases c;cases d;cases h;obtain⟨rfl,ha⟩:=GV i;obtain⟨rfl,_⟩:=GV j;refine⟨rfl,λe f=>?_,A2J w m⟩;cases op<;>simp[eqGuard]
 .rename_i a b c d;cases c;cases d;have ha:=D1 i;have g:=D1 j;subst ha g;split at h
  .rename_i g;have hu:=n g;cases op<;>simp only[rV]at h<;>cases h
   .exact⟨rfl,λe f=>by simp[eqGuard],.bool (a==b),by simp[binOp,run_equal_bool w t a b hu],Bk _⟩
   exact⟨rfl,λe f=>by simp[eqGuard],.bool (a != b),by simp[binOp,run_equal_bool w t a b hu,bne],Bk _⟩
  cases h
 cases h
theorem A9H {op:UnOp} {x:AV} {xv:Value} (w:World) (h:qUn op (some x)=some (vc,v,obs)) (c:vc) (e:B1 V x xv) :
  obs=[]/\∃u,(Op.unary op xv).run P w=.ok u w/\B1 V v u:=by
 unfold qUn at h;split at h
 .rename_i b d;cases d;cases h;have:=D1 e;subst this;exact⟨rfl,.bool (!b),by simp[Op.unary],Bk _⟩
 .rename_i k a d;cases d;cases h;obtain⟨rfl,ha⟩:=BP e;have c:H5 k (0-a):=c;exact⟨rfl,_,by simp only[Op.unary,Op.intArith,Js c];rfl,BU c⟩
 cases h
end
end
section
open Go Go.RowKit
section
variable {P:Program} {tb:Tb} {id:TypeId} {ti:TI} {w:World} {V:Vw} {vc:Prop} {v:AV} {obs:List (Nat×Obj)}
theorem iZ (l:List Int):(RN l).size=l.length:=by
 show (RN l).data.size=l.length;unfold RN;simp
theorem A67 (G:C4 P tb) (H:V.w=w) {s t:TypeId} {B ti:TI} (hs:Du P tb s B) (y:Du P tb t ti) {x:AV} {xv:Value} (h:KW (some B) (some ti) (some x)=some (vc,v,obs)) (i:vc) (A:B1 V x xv) :
  obs=[]/\∃u,(convert s t xv).run P w=.ok u w/\B1 V v u:=by
 unfold KW at h;split at h
 .rename_i T U m b1 k W D b2 ab a n o p;cases n;cases o;cases p;cases h;obtain⟨rfl,ha⟩:=BP A;have i:H5 k a:=i;have f:P.underlying s=some (.int T):=hs.2;have g:P.underlying t=some (.int k):=y.2;refine⟨rfl,.int k a,?_,BU i⟩;simp[convert,aT f,aT g,Conv.intToInt,Js i]
 .rename_i U m b1 W D b2 l n o p;cases n;cases o;cases p;cases h;obtain⟨f,te,O,Q⟩:=hs.2;have g:P.underlying t=some .string:=y.2;have z:P.underlying m=some (.int .u8):=by
   have:=(G _ _ O).2;rw[Q]at this;exact this
  obtain⟨cs,⟨a,c,rfl,h1,E,d⟩,rfl⟩:=A;have N:(RN l).size<=AO:=by rw[iZ];exact E
  refine⟨rfl,.string (RN l),?_,⟨[.string (RN l)],⟨rfl,N⟩,rfl⟩⟩;have L:a=none->l=[]:=λe=>by grind
  cases a with
  | none =>
   have:=L rfl;subst this;show (convert s t (.slice none 0 c)).run P w=_;have C:RN []=ByteArray.empty:=rfl;rw[C];simp[convert,aT f,aT g,aT z,Conv.bytesToString]
  | some ad =>
   have r:=run_convert_bytes_back (P:=P) w s t m ad c (l.map λx=>UInt8.ofNat x.toNat) f z g λj q=>by
    have b:j<List.length l:=by rw[aS]at q;exact q
    rcases d with d|⟨X,d,Z,F⟩
    .rw[d]at b;cases b
    cases d;obtain⟨Y,-,J,M⟩:=F j l[j] (AT b);obtain⟨rfl,K⟩:=M;have I:=J 0 (.int .u8 l[j]) rfl;rw[H]at I;obtain⟨R,S⟩:(0:Int)<=(l:List Int)[j]'b/\(l:List Int)[j]'b<=255:=by
     simpa[H5,IntKind.min,IntKind.max,IntKind.signed,IntKind.bits] using K
    have e:(((List.map (λx:Int=>UInt8.ofNat x.toNat) l)[j]'q).toNat:Int)=l[j]:=by
     rw[ABQ,UInt8.toNat_ofNat'];have aa:((l:List Int)[j]'b).toNat % 2 ^ 8=((l:List Int)[j]'b).toNat:=Nat.mod_eq_of_lt ((ACe R).2 (ACx S dg));grind
    grind [Ty.size]
   rw[aS]at r;exact r
 cases h
theorem A8d (r:∀n,V.L n->∃o,A8 V o (V.ρ n)) {x:AV} {xv:Value} {t ty:TypeId} (hT:Du P tb t ti) (w:World) (h:TZ (some ti) (some x)=some (vc,v,obs)) (g:B1 V x xv) :
  obs=[]/\∃u,(Builtin.len_ #[t] ty #[xv]).run P w=.ok u w/\B1 V v u:=by
 have j:∀n:Nat,n<=AO->H5 .i64 (n:Int):=λn hn=>by
  simp[H5,IntKind.min,IntKind.max,IntKind.signed,IntKind.bits];simp[AO]at hn;omega
 unfold TZ at h;split at h
 .rename_i e o el b q l d f;cases d;cases f;cases h;obtain⟨cs,⟨a,c,rfl,h1,y,_⟩,rfl⟩:=g;have hu:=hT.2.1;exact⟨rfl,.int .i64 (List.length l:Int),by simp[Builtin.len_,aT hu,goInt,Ty.wrap],BU (j _ y)⟩
 .rename_i e o el b n q lo hi d f;cases d;cases f;cases h;obtain⟨k,a,m,c,C,I,H,E,F,rfl,G,h0,h1⟩:=g;have hu:=hT.2.1;obtain⟨D,p⟩:=r n k;obtain⟨_,_,_,_,this⟩:=W4 p C;exact⟨rfl,.int .i64 ((hi-lo:Nat):Int),by simp[Builtin.len_,aT hu,goInt],BU (j _ O1)⟩
 .rename_i e o el b n q i len d f;cases d;cases f;cases h;obtain⟨k,K,a,c,J,B,A,z,rfl⟩:=g;have hu:=hT.2.1;obtain⟨D,p⟩:=r n k;have:=A2B p B A z rfl;exact⟨rfl,.int .i64 (len:Int),by simp[Builtin.len_,aT hu,goInt],BU (j _ this)⟩
 .rename_i e o el b d f;cases d;cases f;cases h;have g:xv=_:=g;subst g;have hu:=hT.2.1;exact⟨rfl,.int .i64 0,by simp[Builtin.len_,aT hu,goInt],BU (j 0 sc)⟩
 .rename_i o el b s d f;cases d;cases f;cases h;obtain⟨rfl,h1⟩:=GV g;have hu:P.underlying t=some .string:=hT.2;exact⟨rfl,.int .i64 (s.size:Int),by simp[Builtin.len_,aT hu,goInt],BU (j _ h1)⟩
 cases h
theorem r7 {i:Nat} {x:AV} {xv:Value} (w:World) (h:Ep i (some x)=some (vc,v,obs)) (g:B1 V x xv) :
  obs=[]/\∃u,(Instr.extract xv i).run P w=.ok u w/\B1 V v u:=by
 have get:∀(l:List AV) (a:List Value) (i:Nat) (y:AV),HT V l a->l[i]?=some y->∃u,a[i]?=some u/\B1 V y u:=by
  intro l;induction l with
  | nil=>intro a i y _ h;simp at h
  | cons z r j =>
   intro a i y c h;obtain⟨u,k,rfl,h1,d⟩:=c;cases i with
   | zero =>
    simp at h;subst h;exact⟨u,rfl,wB h1⟩
   | succ i=>exact j k i y d (by simpa using h)
 unfold Ep at h;split at h
 .rename_i l e;cases e;obtain⟨a,rfl,c⟩:=g;cases b:l[i]? with
  | none=>rw[b]at h;simp[Gn]at h
  | some y =>
   rw[b]at h;simp only[Gn]at h;cases h;obtain⟨u,hu,f⟩:=get l a i _ c b;exact⟨rfl,u,by simp[Instr.extract,hu],f⟩
 cases h
theorem A8e {x y:AV} {xv:Value} {ts:Array TypeId} {ty:TypeId} (w:World) (h:SI (some x) (some y)=some (vc,v,obs)) (g:B1 V x xv) (i:B1 V y d) :
  obs=[]/\∃u,(Builtin.min_ ts ty #[xv,d]).run P w=.ok u w/\B1 V v u:=by
 unfold SI at h;split at h
 .rename_i k a j b e f;cases e;cases f;split at h
  .rename_i hk;subst hk;cases h;obtain⟨rfl,ha⟩:=BP g;obtain⟨rfl,c⟩:=BP i;have ha:H5 k a:=ha;have c:H5 k b:=c;refine⟨rfl,.int k (if (b:Int)<a then b else a),by simp[Builtin.min_,Builtin.min2],BU ?_⟩;split
   .exact c
   exact ha
  cases h
 cases h
theorem A68 {x y z:AV} {xv f g:Value} {ts:Array TypeId} {ty:TypeId} (w:World) (h:I2 (some x) (some y) (some z)=some (vc,v,obs)) (o:B1 V x xv) (p:B1 V y f) (q:B1 V z g) :
  obs=[]/\∃u,(Builtin.min_ ts ty #[xv,f,g]).run P w=.ok u w/\B1 V v u:=by
 unfold I2 at h;split at h
 .rename_i k a s b t c i j l;cases i;cases j;cases l;split at h
  .rename_i hk;obtain⟨m,n⟩:=hk;subst m;subst n;cases h;obtain⟨rfl,ha⟩:=BP o;obtain⟨rfl,d⟩:=BP p;obtain⟨rfl,e⟩:=BP q;have ha:H5 k a:=ha;have d:H5 k b:=d;have e:H5 k c:=e;refine⟨rfl,.int k (if (c:Int)<(if (b:Int)<a then b else a) then c else (if (b:Int)<a then b else a)),by simp[Builtin.min_,Builtin.min2],BU ?_⟩;by_cases r:(b:Int)<a
   .grind
   grind
  cases h
 cases h
theorem A8f {x y:AV} {xv:Value} {ts:Array TypeId} {ty:TypeId} (w:World) (h:SJ (some x) (some y)=some (vc,v,obs)) (g:B1 V x xv) (i:B1 V y d) :
  obs=[]/\∃u,(Builtin.max_ ts ty #[xv,d]).run P w=.ok u w/\B1 V v u:=by
 unfold SJ at h;split at h
 .rename_i k a j b e f;cases e;cases f;split at h
  .rename_i hk;subst hk;cases h;obtain⟨rfl,ha⟩:=BP g;obtain⟨rfl,c⟩:=BP i;have ha:H5 k a:=ha;have c:H5 k b:=c;refine⟨rfl,.int k (if (a:Int)<b then b else a),by simp[Builtin.max_,Builtin.max2],BU ?_⟩;split
   .exact c
   exact ha
  cases h
 cases h
theorem A69 {t:TypeId} (hu:P.underlying t=some .string) (w:World) {kd:IntKind} {k:Int} (h0:0<=k) (h1:k<(s.size:Int)) :
  (Instr.index t (.string s) (.int kd k)).run P w=.ok (.int .u8 ((s.data.getD k.toNat 0).toNat:Int)) w/\H5 .u8 ((s.data.getD k.toNat 0).toNat:Int):=by
 have a:k.toNat<s.size:=by omega
 have d:k.toNat<s.data.size:=a;have c:s[k.toNat]?=some (s.data.getD k.toNat 0):=by
  rw[getElem?_pos s k.toNat a];simp only[Array.getD,d,dite_true];rfl
 refine⟨by simp[Instr.index,asIntOf,aT hu,h0,c],?_⟩;generalize s.data.getD k.toNat 0=b;have:=b.toNat_lt;simp[H5,IntKind.min,IntKind.max,IntKind.signed,IntKind.bits];omega
theorem wL {t:TypeId} {x y:AV} {xv c:Value} (hT:Du P tb t ti) (w:World) (h:EZ (some ti) (some x) (some y)=some (vc,v,obs)) (a:vc) (i:B1 V x xv) (j:B1 V y c) :
  obs=[]/\∃u,(Instr.index t xv c).run P w=.ok u w/\B1 V v u:=by
 unfold EZ at h;split at h
 .rename_i o el b s kd k e f g;cases e;cases f;cases g;cases h;obtain⟨rfl,_⟩:=GV i;obtain⟨rfl,_⟩:=BP j;have hu:P.underlying t=some .string:=hT.2;obtain⟨h1,d⟩:=A69 (P:=P) hu w (kd:=kd) a.1 a.2;exact⟨rfl,_,h1,BU d⟩
 cases h
theorem A8g {x:AV} {xv:Value} (h:Wf (some x)=some (vc,v,obs)) (e:B1 V x xv):obs=[]/\(∃ad,xv=.pointer (some ad))/\B1 V v xv:=by
 unfold Wf at h;split at h
 .rename_i a;cases a;cases h;obtain⟨d,b,f,rfl⟩:=e;exact⟨rfl,⟨_,rfl⟩,d,b,f,rfl⟩
 .rename_i a;cases a;cases h;obtain⟨ad,cs,rfl,r⟩:=e;exact⟨rfl,⟨_,rfl⟩,ad,cs,rfl,r⟩
 .rename_i a;cases a;cases h;obtain⟨d,g,m,c,f,i,rfl⟩:=e;exact⟨rfl,⟨_,rfl⟩,d,g,m,c,f,i,rfl⟩
 cases h
end
end
section
open Go Go.RowKit
section
variable {P:Program} {tb:Tb} {id:TypeId} {ti:TI} {V:Vw} {vc:Prop} {v:AV} {obs:List (Nat×Obj)}
def E1 (a:Option Addr) (c l sz:Nat):Option Addr:=if c=l then a else a.map (·.add (l*sz))
inductive nG:Option Value->Nat->Nat->Prop
 | none (d:Nat):nG none d d
 | some (k:IntKind) (z:Int) (d:Nat) (h:0<=z):nG (some (.int k z)) d z.toNat
theorem wM {el:TypeId} (hu:P.underlying id=some (.slice el)) {sz:Nat} (w:World) (hs:(sizeOf el).run P w=.ok sz w) {n c l h:Nat} {lo:Option Value}
  (i:nG lo 0 l) (hh:nG C n h) (h1:l<=h) (m:h<=c) :
  (Instr.sliceAt id (.slice a n c) lo C none).run P w=.ok (.slice (E1 a c l sz) (h-l) (c-l)) w:=by
 cases i with
 | none =>
  cases hh with
  | none=>simp[Instr.sliceAt,aT hu,Instr.slice,Instr.sliceBounds,hs,E1]
  | some k z _ b =>
   have e:z<=(c:Int):=by omega
   simp[Instr.sliceAt,aT hu,Instr.slice,Instr.sliceBounds,Instr.sliceBound,asIntOf,hs,E1,b,e]
 | some k z _ b =>
  cases hh with
  | none =>
   have e:z<=(n:Int):=by omega
   simp[Instr.sliceAt,aT hu,Instr.slice,Instr.sliceBounds,Instr.sliceBound,asIntOf,hs,E1,b,e]
  | some o d _ j =>
   have e:d<=(c:Int):=by omega
   have f:max d 0=d:=by omega
   have g:z<=d:=by omega
   simp[Instr.sliceAt,aT hu,Instr.slice,Instr.sliceBounds,Instr.sliceBound,asIntOf,hs,E1,b,j,e,f,g]
theorem A6a (hu:P.underlying id=some .string) (w:World) {l h:Nat} {lo:Option Value} (f:nG lo 0 l) (hh:nG C s.size h) (h1:l<=h) (i:h<=s.size) :
  (Instr.sliceAt id (.string s) lo C none).run P w=.ok (.string (s.extract l h)) w:=by
 cases f with
 | none =>
  cases hh with
  | none=>simp[Instr.sliceAt,aT hu,Instr.slice,Instr.sliceBounds]
  | some k z _ a =>
   have e:z<=(s.size:Int):=by omega
   simp[Instr.sliceAt,aT hu,Instr.slice,Instr.sliceBounds,Instr.sliceBound,asIntOf,a,e]
 | some k z _ a =>
  cases hh with
  | none =>
   have e:z<=(s.size:Int):=by omega
   simp[Instr.sliceAt,aT hu,Instr.slice,Instr.sliceBounds,Instr.sliceBound,asIntOf,a,e]
  | some j b _ g =>
   have e:b<=(s.size:Int):=by omega
   have c:max b 0=b:=by omega
   have d:z<=b:=by omega
   simp[Instr.sliceAt,aT hu,Instr.slice,Instr.sliceBounds,Instr.sliceBound,asIntOf,a,g,e,c,d]
theorem A2K {xs:List e.den} {n c l h:Nat} (p:Bu V.w V.O (.slice e) [.slice a n c] xs) (h1:l<=h) (g:h<=xs.length) :
  BV V.w V.O (.slice e) (.slice (E1 a c l e.size) (h-l) (c-l)) (sub xs l h)/\n=xs.length/\h<=c:=by
 obtain⟨q,r,f,s,t,b⟩:=p;injection f with f
 injection f with j k m
 subst j;subst k;subst m;have d:=Ng xs (lo:=l) g;refine⟨⟨_,⟨E1 a c l e.size,c-l,by rw[d],by rw[d];omega,by rw[d];omega,?_⟩,rfl⟩,rfl,by omega⟩;by_cases v:l<h
 .right;rcases b with b|⟨ad,rfl,o,u⟩
  .subst b;simp at g;omega
  refine⟨ad.add (l*e.size),?_,by rw[B2];exact o,λi x hi=>?_⟩
  .grind [E1]
  obtain⟨y,_⟩:=Yz xs l h i hi;grind [Cp]
 simp_all
theorem wN {loc:Value} {sz b c0 l h:Nat} {n c:Nat} (s:DL loc sz b c0 (.slice a n c)) (h1:l<=h) (x:h<=c0-b) :
  DL loc sz (b+l) (b+h) (.slice (E1 a c l sz) (h-l) (c-l))/\n=c0-b/\h<=c:=by
 obtain⟨d,m,e,q,y,A,v,w,t,z,j,k⟩:=s;injection t with f g i
 subst f;subst g;subst i;refine⟨⟨d,m,e,q,by omega,by omega,E1 a c l sz,c-l,by rw[show b+h-(b+l)=h-l by omega],by omega,λC=>?_,λB=>?_⟩,rfl,by omega⟩
 .have o:b=0:=by omega
  have p:l=0:=by omega
  subst o;subst p;obtain⟨u,D⟩:=j rfl;refine⟨?_,by omega⟩;rw[<-u];unfold E1;split
  .rfl
  simp only[ACK];cases a<;>rfl
 have:=k O1;subst this;have r:¬c=l:=by omega
 simp only[E1,As r,Option.map_map]
 congr 1
 grind [Cp]
theorem SK (s:ByteArray) (l h:Nat):(s.extract l h).size<=s.size:=by
 simp only[ByteArray.size_extract];omega
theorem Ti (hT:Du P tb id ti) (k:C4 P tb) (f:ti.ty=.slice e) {l:List e.den} {xv:Value} {lo:Option Value} {a h:Nat}
  (n:BV V.w V.O (.slice e) xv l) (m:nG lo 0 a) (hh:nG C l.length h) (h1:a<=h) (g:h<=l.length) :
  ∃u,(Instr.sliceAt id xv lo C none).run P V.w=.ok u V.w/\B1 V (.p (.slice e) (sub l a h)) u:=by
 obtain⟨ty,offs,el,bytes⟩:=ti;simp only at f;subst f;obtain⟨hu,hs,_⟩:=CT hT k;obtain⟨cs,b,rfl⟩:=n;obtain⟨d,c,rfl,r⟩:=b;have b:Bu V.w V.O (.slice e) [.slice d l.length c] l:=⟨d,c,rfl,r⟩;obtain⟨i,_,j⟩:=A2K b h1 g;exact⟨_,wM hu _ (hs _) m hh h1 j,i⟩
theorem Tj (hT:Du P tb id ti) (k:C4 P tb) {n b c0:Nat} (c:ti.ty=.slice e) {xv:Value} {lo:Option Value} {a h:Nat}
  (o:B1 V (.sr n e b c0) xv) (l:nG lo 0 a) (hh:nG C (c0-b) h) (h1:a<=h) (f:h<=c0-b) :
  ∃u,(Instr.sliceAt id xv lo C none).run P V.w=.ok u V.w/\B1 V (.sr n e (b+a) (b+h)) u:=by
 obtain⟨ty,offs,el,bytes⟩:=ti;simp only at c;subst c;obtain⟨hu,hs,_⟩:=CT hT k;obtain⟨j,d⟩:=o;have m:=d;obtain⟨_,_,_,_,_,_,p,q,rfl,_⟩:=m;obtain⟨g,r,i⟩:=wN d h1 f;exact⟨_,wM hu _ (hs _) l hh h1 i,j,g⟩
theorem Tk (hT:Du P tb id ti) (c:ti.ty=.str) {xv:Value} {lo:Option Value} {a h:Nat}
  (f:BV V.w V.O .str xv s) (d:nG lo 0 a) (hh:nG C s.size h) (h1:a<=h) (b:h<=s.size) :
  ∃u,(Instr.sliceAt id xv lo C none).run P V.w=.ok u V.w/\B1 V (.p .str (s.extract a h)) u:=by
 obtain⟨rfl,e⟩:=GV f;have hu:=hT.2;rw[c]at hu;exact⟨_,A6a hu _ d hh h1 b,Th (gO (SK s a h) e)⟩
theorem Ig {n:Nat} (_h:0<=z) (a:z<=(n:Int)):z.toNat<=n:=by omega
theorem Y6 {a b:Int} (h:a<=b):a.toNat<=b.toNat:=by omega
def bR:Option AV->Option Value->Prop
 | none,none=>True
 | some x,some v=>B1 V x v
 | _,_=>False
theorem wO (hT:Du P tb id ti) (m:C4 P tb) {x ha i:AV} {xv f g:Value} (h:D8 (some ti) (some x) (some ha) (some i)=some (vc,v,obs)) (B:vc) (C:B1 V x xv) (hh:B1 V ha f) (y:B1 V i g) :
  obs=[]/\∃u,(Instr.sliceAt id xv none (some f) (some g)).run P V.w=.ok u V.w/\B1 V v u:=by
 unfold D8 at h;split at h
 .rename_i e offs el bytes F l D a E b n o p q;cases n;cases o;cases p;cases q;split at h
  .rename_i r;subst r;cases h;obtain⟨hu,hs,_⟩:=CT hT m;obtain⟨rfl,rfl⟩:=B;obtain⟨rfl,_⟩:=BP (hh:BV V.w V.O (.int D) f _);obtain⟨rfl,_⟩:=BP (y:BV V.w V.O (.int E) g _);obtain⟨cs,A,rfl⟩:=(C:BV V.w V.O (.slice e) xv l);obtain⟨d,c,rfl,t,z,s⟩:=A;refine⟨rfl,.slice d (List.length l) (List.length l),?_,⟨_,⟨d,_,rfl,Of _,z,s⟩,rfl⟩,d,rfl⟩;have j:((List.length l:Nat):Int)<=(c:Int):=by omega
   have k:(0:Int)<=((List.length l:Nat):Int):=by omega
   simp[Ty.wrap,Instr.sliceAt,aT hu,Instr.slice,Instr.sliceBounds,Instr.sliceBound,asIntOf,hs V.w,j,k,Addr.add];intro G;exact absurd t O1
  cases h
 cases h
theorem A2L (hT:Du P tb id ti) (j:C4 P tb) {x:AV} {xv:Value} {lo hi:Option AV} 
  (h:FM (some ti) (some x) (some lo) (some hi)=some (vc,v,obs)) (a:vc) (c:B1 V x xv) (g:bR (V:=V) lo D) (f:bR (V:=V) hi C) :
  obs=[]/\∃u,(Instr.sliceAt id xv D C none).run P V.w=.ok u V.w/\B1 V v u:=by
 have i:∀ {o:Option Value} (d:Nat),bR (V:=V) none o->nG o d d:=λ{o} d h=>by
  cases o with
  | none=>exact .none d
  | some v=>exact h.elim
 have b1:∀ {o:Option Value} {k:IntKind} {z:Int} (d:Nat),bR (V:=V) (some (.p (.int k) z)) o->0<=z->nG o d z.toNat:=λ{o k z} d h F=>by
  cases o with
  | none=>exact h.elim
  | some v =>
   obtain⟨rfl,_⟩:=BP (h:BV V.w V.O (.int k) v z);exact .some k z d F
 unfold FM at h;split at h
 .rename_i e offs el bytes E l B h0 q r t y;cases q;cases r;cases t;cases y;split at h
  .rename_i A;subst A;have c:BV V.w V.O (.slice e) xv l:=c;unfold Ia at h;split at h<;>first|(cases h;done)|(rename_i m;cases m<;>cases h)
   .exact⟨rfl,Ti hT j rfl c (i 0 g) (b1 _ f a.1) (By _) (Ig a.1 a.2)⟩
   .exact⟨rfl,Ti hT j rfl c (b1 0 g a.1) (i _ f) (Ig a.1 a.2) (Of _)⟩
   exact⟨rfl,Ti hT j rfl c (b1 0 g a.1) (b1 _ f (ABk a.1 a.2.1)) (Y6 a.2.1) (Ig (ABk a.1 a.2.1) a.2.2)⟩
  cases h
 .rename_i e offs el bytes n E b c0 B h0 q r t y;cases q;cases r;cases t;cases y;split at h
  .rename_i A;subst A;unfold Ia at h;split at h<;>first|(cases h;done)|(rename_i m;cases m<;>cases h)
   .refine⟨rfl,?_⟩;have:=Tj (P:=P) hT j rfl c (i 0 g) (b1 _ f a.1) (By _) (Ig a.1 a.2);simpa using this
   .refine⟨rfl,?_⟩;have:=Tj (P:=P) hT j rfl c (b1 0 g a.1) (i _ f) (Ig a.1 a.2) (Of _);have H:=Ig a.1 a.2;obtain⟨_,_,_,_,_,G,_⟩:=c;grind
   exact⟨rfl,Tj hT j rfl c (b1 0 g a.1) (b1 _ f (ABk a.1 a.2.1)) (Y6 a.2.1) (Ig (ABk a.1 a.2.1) a.2.2)⟩
  cases h
 .rename_i offs el bytes s B h0 q r t y;cases q;cases r;cases t;cases y;have c:BV V.w V.O .str xv s:=c;unfold Ia at h;split at h<;>first|(cases h;done)|(rename_i m;cases m<;>cases h)
  .exact⟨rfl,Tk hT rfl c (i 0 g) (b1 _ f a.1) (By _) (Ig a.1 a.2)⟩
  .exact⟨rfl,Tk hT rfl c (b1 0 g a.1) (i _ f) (Ig a.1 a.2) (Of _)⟩
  exact⟨rfl,Tk hT rfl c (b1 0 g a.1) (b1 _ f (ABk a.1 a.2.1)) (Y6 a.2.1) (Ig (ABk a.1 a.2.1) a.2.2)⟩
 cases h
end
end
end Go.Proofs.YtglkoagnnnpimaaGreatDoor.Fw
