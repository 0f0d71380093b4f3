/- The executor's quiet operations are sound, first part. -/
import Derived.Test.YtglkoagnnnpimaaGreatDoorEZA
import Derived.Laws.IdiomStrings
set_option linter.unusedVariables false
set_option linter.unusedSimpArgs false
namespace Go.Proofs.YtglkoagnnnpimaaGreatDoor.Fw
variable {v d:Value} {D C:Option Value} {k:IntKind} {s:ByteArray} {Z:List Value} {z:Int} {e:Ty} {Y:Type} {a:Option Addr} {X:BinOp} {x:AV} {l:List AV}
section
open Go Go.RowKit
theorem O7 {w:World} {O:Nat->Prop}:∀ {t:Ty} {k:Nat} {d:t.den} {pv:PV} {cs:List Value},HH t k d=some pv->Bw w O t cs d ->
  bU t k=some pv.t/\∃o,LI t k=some o/\o+pv.t.size<=t.size/\Bw w O pv.t ((cs.drop o).take pv.t.size) pv.d
 | .prod a b,0,d,pv,cs,h,c=>by
  simp only[HH]at h;cases h;obtain⟨c1,c2,rfl,h1,f⟩:=c;refine⟨rfl,0,rfl,by simp[Ty.size],?_⟩;have e:=h1.length;simp only[AB3,<-e,List.take_left];exact h1
 | .prod a b,k+1,d,pv,cs,h,c=>by
  simp only[HH]at h;obtain⟨c1,c2,rfl,h1,f⟩:=c;obtain⟨g,o,i,l,j⟩:=O7 h f;refine⟨g,a.size+o,by simp[LI,i],by simp[Ty.size];omega,?_⟩;have e:=h1.length;rw[<-e,<-ACd,List.drop_left];exact j
 | .int _,0,d,pv,cs,h,c=>by
  simp only[HH]at h;cases h;refine⟨rfl,0,rfl,sc,?_⟩;have e:=c.length;simp only[AB3,<-e,sL];exact c
 | .bool,0,d,pv,cs,h,c=>by
  simp only[HH]at h;cases h;refine⟨rfl,0,rfl,sc,?_⟩;have e:=c.length;simp only[AB3,<-e,sL];exact c
 | .str,0,d,pv,cs,h,c=>by
  simp only[HH]at h;cases h;refine⟨rfl,0,rfl,sc,?_⟩;have e:=c.length;simp only[AB3,<-e,sL];exact c
 | .slice _,0,d,pv,cs,h,c=>by
  simp only[HH]at h;cases h;refine⟨rfl,0,rfl,sc,?_⟩;have e:=c.length;simp only[AB3,<-e,sL];exact c
 | .ref _,0,d,pv,cs,h,c=>by
  simp only[HH]at h;cases h;refine⟨rfl,0,rfl,sc,?_⟩;have e:=c.length;simp only[AB3,<-e,sL];exact c
 | .ref _,_+1,d,pv,cs,h,c=>by simp[HH]at h
 | .agg _,0,d,pv,cs,h,c=>by
  simp only[HH]at h;cases h;refine⟨rfl,0,rfl,sc,?_⟩;have e:=c.length;simp only[AB3,<-e,sL];exact c
 | .int _,_+1,d,pv,cs,h,c=>by simp[HH]at h
 | .bool,_+1,d,pv,cs,h,c=>by simp[HH]at h
 | .str,_+1,d,pv,cs,h,c=>by simp[HH]at h
 | .slice _,_+1,d,pv,cs,h,c=>by simp[HH]at h
 | .agg _,_+1,d,pv,cs,h,c=>by simp[HH]at h
theorem ZL {α:Type} (cs:List α) (o m a n:Nat) (h:a+n<=m):(((cs.drop o).take m).drop a).take n=(cs.drop (o+a)).take n:=by
 rw[List.drop_take,ACX,ACd]
 congr 1
 omega
theorem UI {w:World} {O:Nat->Prop}:∀ {f:List Nat} {t:Ty} {d:t.den} {pv:PV} {cs:List Value} {off:Nat},T7 f t d=some pv->NC f t=some off->Bw w O t cs d ->
  off+pv.t.size<=t.size/\Bw w O pv.t ((cs.drop off).take pv.t.size) pv.d
 | [],t,d,pv,cs,off,h,a,b=>by
  simp only[T7]at h;simp only[NC]at a;cases h;cases a;have e:=b.length;simp only[AB3,<-e,sL];exact⟨by simp[e],b⟩
 | k :: r,t,d,pv,cs,off,h,a,b=>by
  cases t<;>simp only[T7,NC]at h a<;>try(cases h;done)
  rename_i t;split at h
  .rename_i p m;have b:Bw w O t cs d:=b;obtain⟨h1,o,g,n,i⟩:=O7 m b;rw[h1,g]at a;simp only[OF]at a;obtain⟨q,l,rfl⟩:=a;obtain⟨j,c⟩:=UI h l i;refine⟨by simp only[Ty.size];omega,?_⟩;rw[ZL _ _ _ _ _ j]at c;exact c
  cases h
def A6 {α:Type} (cs:List α) (o:Nat) (es:List α):List α:=cs.take o++es++cs.drop (o+es.length)
theorem EA {α:Type} {cs:List α} {o:Nat} {es:List α} (h:o+es.length<=cs.length):(A6 cs o es).length=cs.length:=by
 simp[A6];omega
theorem Dr {α:Type} {cs es:List α} (h:es.length=cs.length):A6 cs 0 es=es:=by
 simp[A6,h]
theorem O8 {α:Type} (a b:List α) (o:Nat) (es:List α):A6 (a++b) (a.length+o) es=a++A6 b o es:=by
 simp only[A6,List.take_append,ADb,AAg];have h1:List.take (a.length+o) a=a:=BY O1;have c:List.drop (a.length+o+es.length) a=[]:=No O1;have d:a.length+o-a.length=o:=by omega
 have e:a.length+o+es.length-a.length=o+es.length:=by omega
 rw[h1,c,d,e];simp
theorem R3 {α:Type} (a b:List α) (es:List α) (h:es.length=a.length):A6 (a++b) 0 es=es++b:=by
 simp[A6,h]
theorem b7 {w:World} {O:Nat->Prop}:∀ {t:Ty} {k:Nat} {d g:t.den} {pv:PV} {cs es:List Value} {o:Nat},Nn t k d pv=some g->LI t k=some o->Bw w O t cs d->Bw w O pv.t es pv.d ->
  Bw w O t (A6 cs o es) g/\bU t k=some pv.t
 | .prod a b,0,d,g,pv,cs,es,o,h,c,f,e=>by
  simp only[Nn,OF]at h;obtain⟨y,j,rfl⟩:=h;have:=BJ j;subst this;simp only[LI]at c;cases c;obtain⟨c1,c2,rfl,h1,i⟩:=f;rw[R3 _ _ _ (by rw[e.length,h1.length])];exact⟨⟨es,c2,rfl,e,i⟩,rfl⟩
 | .prod a b,k+1,d,g,pv,cs,es,o,h,c,f,e=>by
  simp only[Nn,OF]at h;obtain⟨y,j,rfl⟩:=h;simp only[LI,OF]at c;obtain⟨p,n,rfl⟩:=c;obtain⟨c1,c2,rfl,h1,i⟩:=f;obtain⟨l,m⟩:=b7 j n i e;rw[<-h1.length,O8];exact⟨⟨c1,_,rfl,h1,l⟩,m⟩
 | .int _,0,d,g,pv,cs,es,o,h,c,f,e=>by
  have:=BJ h;subst this;simp only[LI]at c;cases c;rw[Dr (by rw[e.length,f.length])];exact⟨e,rfl⟩
 | .bool,0,d,g,pv,cs,es,o,h,c,f,e=>by
  have:=BJ h;subst this;simp only[LI]at c;cases c;rw[Dr (by rw[e.length,f.length])];exact⟨e,rfl⟩
 | .str,0,d,g,pv,cs,es,o,h,c,f,e=>by
  have:=BJ h;subst this;simp only[LI]at c;cases c;rw[Dr (by rw[e.length,f.length])];exact⟨e,rfl⟩
 | .slice _,0,d,g,pv,cs,es,o,h,c,f,e=>by
  have:=BJ h;subst this;simp only[LI]at c;cases c;rw[Dr (by rw[e.length,f.length])];exact⟨e,rfl⟩
 | .ref _,0,d,g,pv,cs,es,o,h,c,f,e=>by
  have:=BJ h;subst this;simp only[LI]at c;cases c;rw[Dr (by rw[e.length,f.length])];exact⟨e,rfl⟩
 | .ref _,_+1,d,g,pv,cs,es,o,h,c,f,e=>by simp[Nn]at h
 | .agg _,0,d,g,pv,cs,es,o,h,c,f,e=>by
  have:=BJ h;subst this;simp only[LI]at c;cases c;rw[Dr (by rw[e.length,f.length])];exact⟨e,rfl⟩
 | .int _,_+1,d,g,pv,cs,es,o,h,c,f,e=>by simp[Nn]at h
 | .bool,_+1,d,g,pv,cs,es,o,h,c,f,e=>by simp[Nn]at h
 | .str,_+1,d,g,pv,cs,es,o,h,c,f,e=>by simp[Nn]at h
 | .slice _,_+1,d,g,pv,cs,es,o,h,c,f,e=>by simp[Nn]at h
 | .agg _,_+1,d,g,pv,cs,es,o,h,c,f,e=>by simp[Nn]at h
theorem I6 {α:Type} (cs:List α) (o m a:Nat) (es:List α) (h:a+es.length<=m) (g:o+m<=cs.length) :
  A6 cs o (A6 ((cs.drop o).take m) a es)=A6 cs (o+a) es:=by
 apply ACv;intro j;have b:(A6 ((cs.drop o).take m) a es).length=m:=by rw[EA]<;>simp<;>omega
 simp only[A6]at b ⊢;rw[b];simp only[AB4,IS,Of,ABv,AAl,AB5];have c:min o cs.length=o:=by omega
 have d:min m (cs.length-o)=m:=by omega
 have e:min a m=a:=by omega
 have f:min (o+a) cs.length=o+a:=by omega
 rw[c,d,e,f];by_cases c1:j<o
 .grind
 grind
theorem UJ {w:World} {O:Nat->Prop}:∀ {j:List Nat} {t:Ty} {d e:t.den} {pv:PV} {cs es:List Value} {off:Nat},W3 j t d pv=some e->NC j t=some off->Bw w O t cs d->Bw w O pv.t es pv.d ->
  Bw w O t (A6 cs off es) e/\off+es.length<=cs.length
 | [],t,d,e,pv,cs,es,off,h,b,a,c=>by
  have:=BJ h;subst this;simp only[NC]at b;cases b;rw[Dr (by rw[c.length,a.length])];exact⟨c,by simp[c.length,a.length]⟩
 | k :: r,t,d,e,pv,cs,es,off,h,b,a,c=>by
  cases t<;>simp only[W3,NC]at h b<;>try(cases h;done)
  rename_i t;have a:Bw w O t cs d:=a;split at h
  .rename_i p s;obtain⟨h1,o,f,v,l⟩:=O7 s a;rw[h1,f]at b;simp only[OF]at b;obtain⟨z,q,rfl⟩:=b;split at h
   .rename_i y u;obtain⟨m,g⟩:=UJ u q l c;have x:=a.length;have n:((cs.drop o).take p.t.size).length=p.t.size:=by simp;omega
    rw[n]at g;obtain⟨i,_⟩:=b7 (pv:=⟨p.t,y⟩) h f a m;rw[I6 _ _ _ _ _ g O1]at i;exact⟨i,O1⟩
   cases h
  cases h
end
section
open Go Go.RowKit
section
variable {V:Vw}
theorem XQ:∀l:List AV,AV.cellss l=CU l l.length
 | []=>rfl
 | x :: r=>by simp only[AV.cellss,Is,CU,XQ r]
theorem S9:(∀(x:AV) (cs:List Value),F0 V x cs->cs.length=x.cells/\∀u∈cs,u.oneCell'=true)/\∀(l:List AV) (cs:List Value),AVCs V l cs->cs.length=AV.cellss l/\∀u∈cs,u.oneCell'=true:=by
 have key:∀n:Nat,(∀(x:AV) (cs:List Value),SizeOf.sizeOf x<n->F0 V x cs->cs.length=x.cells/\∀u∈cs,u.oneCell'=true)/\∀(l:List AV) (cs:List Value),SizeOf.sizeOf l<n->AVCs V l cs->cs.length=AV.cellss l/\∀u∈cs,u.oneCell'=true:=by
  intro n;induction n with
  | zero=>exact⟨λ_ _ h=>by omega,λ_ _ h=>by omega⟩
  | succ n a =>
   refine⟨λx cs hn h=>?_,λl cs hn h=>?_⟩
   .cases x;case p t d=>exact⟨Bw.length (show Bw V.w V.O t cs d from h),Bw.one (show Bw V.w V.O t cs d from h)⟩
    case ag l =>
     simp only[AV.ag.sizeOf_spec]at hn;exact a.2 l cs O1 h
    case tup l=>obtain⟨v,_,_,hf⟩:=h;exact hf.elim
    all_goals(obtain⟨v,rfl,h1,_⟩:=h;exact⟨rfl,λu hu=>by simp at hu;subst hu;exact h1⟩)
   cases l with
   | nil=>have h:cs=[]:=h;subst h;exact⟨rfl,sc⟩
   | cons x r =>
    obtain⟨c1,c2,rfl,h1,e⟩:=h;simp only[ACA]at hn;have b:=a.1 x c1 O1 h1;have c:=a.2 r c2 O1 e;refine⟨by simp only[IS,AV.cellss,b.1,c.1],λu hu=>?_⟩;rcases IN.1 hu with hu|hu
    .exact b.2 u hu
    exact c.2 u hu
 exact⟨λx cs=>(key _).1 x cs (ABn _),λl cs=>(key _).2 l cs (ABn _)⟩
theorem F0.length {cs:List Value} (h:F0 V x cs):cs.length=x.cells:=(S9.1 x cs h).1
theorem F0.one {cs:List Value} (h:F0 V x cs):∀u∈cs,u.oneCell'=true:=(S9.1 x cs h).2
theorem AVCs.one {cs:List Value} (h:AVCs V l cs):∀u∈cs,u.oneCell'=true:=(S9.2 l cs h).2
theorem AVCs.length {cs:List Value} (h:AVCs V l cs):cs.length=CU l l.length:=(S9.2 l cs h).1.trans (XQ l)
theorem AVCs.get:∀ {l:List AV} {cs:List Value} {k:Nat} {x:AV},AVCs V l cs->l[k]?=some x ->
  CU l k+x.cells<=cs.length/\F0 V x ((cs.drop (CU l k)).take x.cells)
 | [],cs,k,x,h,hk=>by simp at hk
 | y :: r,cs,0,x,h,hk=>by
  obtain⟨c1,c2,rfl,h1,a⟩:=h;simp at hk;subst hk;have:=h1.length;grind [CU]
 | y :: r,cs,k+1,x,h,hk=>by
  obtain⟨c1,c2,rfl,h1,a⟩:=h;have hk:r[k]?=some x:=by simpa using hk
  obtain⟨c,b⟩:=AVCs.get a hk;have:=h1.length;refine⟨by simp only[CU,IS];omega,?_⟩;simp only[CU,<-this];rw[<-ACd,List.drop_left];exact b
theorem AVCs.set:∀ {l:List AV} {cs:List Value} {k:Nat} {x y:AV} {es:List Value},AVCs V l cs->l[k]?=some x->F0 V y es->y.cells=x.cells ->
  AVCs V (l.set k y) (A6 cs (CU l k) es)
 | [],cs,k,x,y,es,h,hk,a,b=>by simp at hk
 | z :: r,cs,0,x,y,es,h,hk,a,b=>by
  obtain⟨c1,c2,rfl,h1,c⟩:=h;simp at hk;subst hk;simp only[CU,ACO];rw[R3 _ _ _ (by rw[a.length,h1.length,b])];exact⟨es,c2,rfl,a,c⟩
 | z :: r,cs,k+1,x,y,es,h,hk,a,b=>by
  obtain⟨c1,c2,rfl,h1,c⟩:=h;have hk:r[k]?=some x:=by simpa using hk
  have:=h1.length;simp only[CU,ACP,<-this];rw[O8];exact⟨c1,_,rfl,h1,AVCs.set c hk a b⟩
theorem jF {ty:Ty} {es:List Value} (a:F0 V x es) (hf:CV ty x=true):es.length=ty.size/\B4 V x (ty.wrap es):=by
 cases x;case p t d =>
  simp only[CV,If]at hf;subst hf;have a:Bw V.w V.O ty es d:=a;exact⟨Bw.length a,es,a,rfl⟩
 case ag l =>
  have a:AVCs V l es:=a;have c:=a.length;cases ty<;>simp only[CV]at hf<;>try(cases hf;done)
  simp only[AAh]at hf;exact⟨by simp only[Ty.size];omega,es,rfl,a⟩
 case tup l=>obtain⟨v,_,_,hf⟩:=a;exact hf.elim
 all_goals
  obtain⟨v,rfl,_,h1⟩:=a;have b:ty.cell1=true:=by simp only[CV]at hf;first|exact hf|(simp only[AT]at hf;exact hf.2)|exact absurd hf df
  cases ty<;>first|(cases b;done)|exact⟨rfl,h1⟩
theorem w3 {ty:Ty} (i:B4 V x v) (hf:CV ty x=true) (o:ty.cell1=true->v.oneCell'=true):v.cells.size=ty.size/\((∀l,x≠.ag l)->F0 V x v.cells.toList):=by
 cases x;case p t d =>
  simp only[CV,If]at hf;subst hf;obtain⟨cs,f,rfl⟩:=i;have g:=f.length;cases ty;case agg t=>exact⟨by simpa[Ty.wrap,Value.cells] using g,λ_=>by simpa[Ty.wrap,Value.cells,F0] using f⟩
  case prod a b=>exact⟨by simpa[Ty.wrap,Value.cells] using g,λ_=>by simpa[Ty.wrap,Value.cells,F0] using f⟩
  case slice e =>
   obtain⟨a,c,rfl,h⟩:=f;exact⟨rfl,λ_=>⟨a,c,rfl,h⟩⟩
  case int k =>
   obtain⟨rfl,h⟩:=f;exact⟨rfl,λ_=>⟨rfl,h⟩⟩
  case bool =>
   have f:cs=_:=f;subst f;exact⟨rfl,λ_=>rfl⟩
  case str =>
   obtain⟨rfl,h⟩:=f;exact⟨rfl,λ_=>⟨rfl,h⟩⟩
  case ref k =>
   obtain⟨rfl,h⟩:=f;have q:(Ty.ref k).wrap [Ql k d]=Ql k d:=rfl;rw[q,T6];exact⟨rfl,λ_=>⟨rfl,h⟩⟩
 case ag l =>
  obtain⟨cs,rfl,n⟩:=i;have g:=n.length;cases ty<;>simp only[CV]at hf<;>try(cases hf;done)
  rename_i t;simp only[AAh]at hf;exact⟨by simp[Value.cells,Ty.size,g,hf],λh=>absurd rfl (h l)⟩
 case tup l=>simp[CV]at hf
 all_goals
  have h1:ty.cell1=true:=by simp only[CV]at hf;first|exact hf|(simp only[AT]at hf;exact hf.2)|exact absurd hf df
  have j:v.oneCell'=true:=o h1;have m:v.cells=#[v]:=by cases v<;>first|rfl|simp[Value.oneCell']at j
  have hs:ty.size=1:=by cases ty<;>simp[Ty.cell1]at h1<;>rfl
  rw[m];exact⟨by simp[hs],λ_=>⟨v,rfl,j,i⟩⟩
end
end
section
open Go Go.RowKit
section
variable {P:Program} {tb:Tb} {id:TypeId} {ti:TI} {w:World} {O0:Nat->Prop} {σ:St} {ρ:Nat->Value} {vc:Prop} {v:AV} {obs:List (Nat×Obj)}
theorem XR {w:World} {base:Nat} {et:TypeId} {size:Nat} {g m c n:Nat} {cells:List Value} (h:w.ownsRow base et size (.slice (some ⟨g,0,none⟩) m c) n cells) :
  m=n/\∀(j:Nat) (u:Value),cells[j]?=some u->w.cell? ⟨g,j,none⟩=some u:=by
 constructor
 .rcases h.2 with ⟨a,_⟩|⟨e,cap,d,a,_⟩
  .injection a with h1;cases h1
  injection a
 intro j u b;have:=h.cells (g:=g) rfl j u b
 rwa [Tx]at this
theorem b8 {V:Vw} {ty:Ty} {v:AV} (e:CV ty v=true):∀ {o:List Nat} {st:Bool} {fs:List AV} {cs:List Value} {off:Nat},AVCs V fs cs->E3 st fs o=some v->JS fs o=some off ->
  off+ty.size<=cs.length/\∃es:List Value,es.length=ty.size/\es=(cs.drop off).take ty.size/\B4 V v (ty.wrap es)
 | [],st,fs,cs,off,g,a,c=>by
  simp only[JS]at c;cases c;cases st with
  | true =>
   simp only[E3,ABa]at a;cases a;have z:=g.length;cases u:ty<;>rw[u]at e<;>simp only[CV]at e<;>try(cases e;done)
   rename_i t;simp only[AAh]at e;have n:cs.length=(Ty.agg t).size:=by simp only[Ty.size];omega
   exact⟨O1,cs,n,by rw[<-n];simp,cs,rfl,g⟩
  | false =>
   simp only[E3,ABl,ABs]at a;have x:CU fs 0=0:=by cases fs<;>rfl
   obtain⟨h1,b⟩:=g.get a;rw[x]at h1 b;obtain⟨h,j⟩:=jF b e;have f:=b.length;exact⟨O1,_,h,by rw[<-h,f],j⟩
 | [k],st,fs,cs,off,g,a,c=>by
  cases st with
  | false=>simp[E3]at a
  | true =>
   simp only[E3,ABa]at a;obtain⟨h1,b⟩:=g.get a;obtain⟨h,j⟩:=jF b e;have f:=b.length;have q:off=CU fs k:=by
    simp only[JS,a]at c;cases v<;>simp only[NC,JS,ABM,List.isEmpty_nil,ABa]at c<;>cases c<;>rfl
   subst q;exact⟨O1,_,h,by rw[<-h,f],j⟩
 | k :: A :: r,st,fs,cs,off,g,a,c=>by
  cases st with
  | false=>simp[E3]at a
  | true =>
   simp only[E3,ABa]at a;split at a
   .rename_i t d hk;simp only[OF]at a;obtain⟨pv,s,rfl⟩:=a;simp only[JS,hk,OF]at c;obtain⟨y,m,rfl⟩:=c;obtain⟨h1,b⟩:=g.get hk;have b:Bw V.w V.O t _ d:=b;obtain⟨f,i⟩:=UI s m b;simp only[AV.cells]at h1 i;rw[ZL _ _ _ _ _ f]at i;simp only[CV,If]at e;subst e;have p:=i.length;exact⟨O1,_,p,rfl,_,i,rfl⟩
   .rename_i l hk;simp only[JS,hk,OF]at c;obtain⟨y,m,rfl⟩:=c;obtain⟨h1,b⟩:=g.get hk;have b:AVCs V l _:=b;obtain⟨h,es,j,f,i⟩:=b8 e b a (by simpa only[JS] using m);simp only[Of,ABv]at h;rw[ZL _ _ _ _ _ O1]at f;exact⟨O1,es,j,f,i⟩
   cases a
theorem w4 (hT:D2 P tb id ti) (J:∀n o,lk n σ.objs=some o->BC (vw w O0 σ ρ) o (ρ n)) {x:AV} {xv:Value}
  (h:Kx σ (some ti) (some x)=some (vc,v,obs)) (N:B4 (vw w O0 σ ρ) x xv):obs=[]/\∃u,(Instr.loadAt id xv).run P w=.ok u w/\B4 (vw w O0 σ ρ) v u:=by
 unfold Kx at h;split at h
 .rename_i n Q off D E;cases D;cases E;obtain⟨S,b,q,rfl⟩:=N;cases hn:lk n σ.objs with
  | none=>rw[hn]at h;simp[EV]at h
  | some o =>
   rw[hn]at h;cases o with
   | arr et e xs=>simp[EV]at h
   | mapo k v l=>simp[EV]at h
   | frame aw fs=>simp[EV]at h
   | loop L=>simp[EV]at h
   | itr aq av ar au ao=>simp[EV]at h
   | dfr=>simp[EV]at h
   | sit sb sp=>simp[EV]at h
   | nest et ap k e xs A=>simp[EV]at h
   | box et st fs =>
    simp only[EV]at h;cases A:E3 st fs Q with
    | none=>rw[A]at h;simp[J7]at h
    | some y =>
     rw[A]at h;simp only[J7]at h;split at h
     .rename_i t;obtain⟨ah,K⟩:=t;cases h;obtain⟨bd,ax,cs,f,ai,ab⟩:=J n _ hn;have q:ρ n=_:=q;rw[q]at f;injection f with f
      injection f with f
      injection f with f
      subst f;have C:∀(es:List Value) (o:Nat),es=(cs.drop o).take es.length->∀(j:Nat) (u:Value),es[j]?=some u->w.cell? ((⟨b,o,none⟩:Addr).add j)=some u:=by
       intro es o U j u a;rw[JR,cell_of_row w b (o+j) cs.toArray et (0,0) ai];rw[U,AAl,AB5]at a;split at a
       .simpa using a
       cases a
      refine⟨rfl,?_⟩;obtain⟨bb,es,z,G,H⟩:=b8 ah ab A K;have:=GC w hT z (C es off (by rw[z];exact G));exact⟨_,this,H⟩
     cases h
 .rename_i n e i Q off D E;cases D;cases E;obtain⟨S,g,m,c,q,al,rfl⟩:=N;cases hn:lk n σ.objs with
  | none=>rw[hn]at h;simp[EW]at h
  | some o =>
   rw[hn]at h;cases o with
   | box et st fs=>simp[EW]at h
   | mapo k v l=>simp[EW]at h
   | frame aw fs=>simp[EW]at h
   | loop L=>simp[EW]at h
   | itr aq av ar au ao=>simp[EW]at h
   | dfr=>simp[EW]at h
   | sit sb sp=>simp[EW]at h
   | nest et ap k r xs A =>
    cases A with
    | some j=>simp[EW]at h
    | none =>
     simp only[EW]at h;split at h
     .rename_i ae;subst ae;obtain⟨o,ins,cells,f,I⟩:=J n _ hn;have q:plc (ρ n)=_:=q;have am:plc (ρ n)=o:=f.plc;have s:=I.own;rw[<-am,q]at s;obtain⟨rfl,C⟩:=XR s;have O:xs[i]?=some (xs.getD i (k.dflt,[])):=by grind
      have F:i<ins.length:=by rw[I.len];exact al
      obtain⟨c1,v1,T,X,z⟩:=I.row i _ ins[i] O (As F);rcases z with ⟨z,_⟩|⟨_,Y,H⟩
      .cases z
      have V:c1.length=k.size:=X.length;unfold Qm at h;split at h
      .split at h
       .rename_i B;obtain⟨p,rfl⟩:=B;cases h;have:=GC (ad:=⟨g,i*(Ty.agg (.prod k (.slice r))).size+0,none⟩) w hT (by rw[p];exact V) (λj u a=>by
         rw[JR];refine C _ _ (T j u ?_);rw[AAn (TO.1 a).1];exact a)
        rw[p]at this;exact⟨rfl,_,this,c1,X,rfl⟩
       cases h
      .split at h
       .rename_i B;obtain⟨p,rfl⟩:=B;cases h;have:=GC (ad:=⟨g,i*(Ty.agg (.prod k (.slice r))).size+k.size,none⟩) (cs:=[v1]) w hT (by rw[p];rfl) (λj u a=>by
         have aj:j=0:=by have:=(TO.1 a).1;simpa using this
         subst aj;rw[JR];refine C _ _ (T k.size u ?_);rw[AAi O1,V,ABB];exact a)
        rw[p]at this;obtain⟨Z,aa,an⟩:=wU Y H;exact⟨rfl,_,this,S,_,Z,aa,ins[i],f.resolve_right (λh=>by rw[h.2.2]at F;simp at F),by simp[F],Y,an⟩
       cases h
      cases h
     cases h
   | arr et r xs =>
    simp only[EW]at h;cases t:BZ (.slice e) ⟨.slice r,xs⟩ with
    | none=>rw[t]at h;simp[J9]at h
    | some ys =>
     obtain⟨rfl,G⟩:=Bt t;cases G;rw[t]at h;simp only[J9]at h;cases M:T7 Q r (xs.getD i r.dflt) with
     | none=>rw[M]at h;simp[J8]at h
     | some pv =>
      rw[M]at h;simp only[J8]at h;split at h
      .rename_i B;obtain⟨p,K⟩:=B;cases h;obtain⟨bc,cells,s,af⟩:=J n _ hn;have q:plc (ρ n)=_:=q;have s:w.ownsRow 0 et r.size (ρ n) xs.length cells:=s;rw[HK s]at q;rw[q]at s;obtain⟨rfl,C⟩:=XR s;have O:xs[i]?=some (xs.getD i r.dflt):=by grind
       obtain⟨es,U,ba,ag⟩:=af i _ O;obtain⟨ay,R⟩:=UI M K ag;have ak:=R.length;have:=GC (ad:=⟨g,i*r.size+off,none⟩) w hT (by rw[p];exact ak) (λj u a=>by
        rw[JR,AD2];rw[AAl,AB5]at a;split at a
        .grind
        cases a)
       rw[p]at this;exact⟨rfl,_,this,_,R,rfl⟩
      cases h
 .rename_i u d D E;cases D;cases E;obtain⟨ad,cs,rfl,az,t,W⟩:=N;split at h
  .rename_i p;cases h;have:=GC w hT (by rw[p];exact W.length) t;rw[p]at this;exact⟨rfl,_,this,cs,W,rfl⟩
  cases h
 cases h
end
end
section
open Go Go.RowKit
section
variable {P:Program} {tb:Tb} {id:TypeId} {ti:TI} {w:World} {V:Vw} {vc:Prop} {v:AV} {obs:List (Nat×Obj)}
theorem jG {α:Type} {l:List α} {k:Nat} {x:α} (h:l[k]?=some x):x∈l:=AAO h
theorem b9 (hT:D2 P tb id ti) {u:Ty} (ht:ti.ty=.agg u) (d:ti.el=0) {f k s:Nat} (hf:ti.offs[f]?=some (k,s)) (ad:Addr) (w:World) :
  (Instr.fieldAt id (.pointer (some ad)) f).run P w=.ok (.pointer (some (ad.add k))) w:=by
 obtain⟨⟨⟨m,_⟩,_⟩,a⟩:=hT;rw[ht]at a;simp only at a;rcases a with ⟨fs,_,hu,o⟩|⟨n,e,i,l,_⟩
 .have b:(ti.offs.map some)[f]?=some (some (k,s)):=by simp[hf]
  rw[o]at b;simp only[AAV,OF]at b;obtain⟨fl,h,g⟩:=b;obtain⟨i,hi,c⟩:=g;cases c;have j:fs[f]?=some fl:=by simpa using h
  have hs:i.size≠0:=m _ (jG hf);simp[Instr.fieldAt,iF hu,j,Instr.sureAddr,fieldPlace,sizeOf,Lf w hi,hs]
 exact absurd d l
theorem cA (hT:D2 P tb id ti) {u:Ty} (ht:ti.ty=.agg u) (c:ti.el≠0) {k s:Nat} {kd:IntKind} (h:0<=z) (hf:ti.offs[z.toNat]?=some (k,s)) (ad:Addr) (w:World) :
  (Instr.indexAt id (.pointer (some ad)) (.int kd z)).run P w=.ok (.pointer (some (ad.add k))) w:=by
 obtain⟨_,a⟩:=hT;rw[ht]at a;simp only at a;rcases a with ⟨fs,h0,_⟩|⟨n,e,i,_,hu,hi,g⟩
 .exact absurd h0 c
 rw[g]at hf;simp only[AAV,OF]at hf;obtain⟨j,d,b⟩:=hf;cases b;obtain⟨h1,a⟩:=TO.1 d;simp only[ACu]at h1;simp only[ACl]at a;subst a;have f:z<(n:Int):=by omega
 simp[Instr.indexAt,asIntOf,iF hu,Instr.sureAddr,sizeOf,Lf w hi,h,f]
theorem w5 {f:Nat} {o:Option (Nat×Nat)} {x:AV} {xv:Value} {run:Value->Result Value} (y:∀k s ad,o=some (k,s)->run (.pointer (some ad))=.ok (.pointer (some (ad.add k))) w)
  (h:Rr f o x=some (vc,v,obs)) (z:B4 V x xv):obs=[]/\∃u,run xv=.ok u w/\B4 V v u:=by
 unfold Rr at h;split at h
 .rename_i n G off;obtain⟨q,b,A,rfl⟩:=z;cases o with
  | none=>simp[W4]at h
  | some p =>
   obtain⟨k,s⟩:=p;simp only[W4]at h;cases h;exact⟨rfl,_,y k s _ rfl,q,b,A,by rw[JR]⟩
 .rename_i n e i G off;obtain⟨q,g,m,c,A,F,rfl⟩:=z;cases o with
  | none=>simp[W4]at h
  | some p =>
   obtain⟨k,s⟩:=p;simp only[W4]at h;cases h;exact⟨rfl,_,y k s _ rfl,q,g,m,c,A,F,by rw[JR,AD2]⟩
 .rename_i u d;obtain⟨ad,cs,rfl,D,E,t⟩:=z;cases r:HH u f d with
  | none=>rw[r]at h;simp[KA]at h
  | some pv =>
   rw[r]at h;simp only[KA]at h;split at h
   .rename_i l;cases h;have t:Bw V.w V.O u cs d:=t;obtain⟨h1,I,B,H,C⟩:=O7 r t;rw[B]at l;cases o with
    | none=>simp at l
    | some p =>
     obtain⟨k,s⟩:=p;simp only[ABM,ABk]at l;subst l;refine⟨rfl,_,y k s _ rfl,ad.add k,_,rfl,by rw[B5];exact D,λj u a=>?_,C⟩;rw[Cu];rw[AAl,AB5]at a;split at a
     .exact E _ _ a
     cases a
   cases h
 cases h
theorem A3g (hT:D2 P tb id ti) {f:Nat} {x:AV} {xv:Value} (w:World)
  (h:Hn f (some ti) (some x)=some (vc,v,obs)) (e:B4 V x xv):obs=[]/\∃u,(Instr.fieldAt id xv f).run P w=.ok u w/\B4 V v u:=by
 unfold Hn at h;split at h
 .rename_i u offs b g a c;cases a;cases c;exact w5 (run:=λxv=>(Instr.fieldAt id xv f).run P w) (λk s ad d=>b9 hT rfl rfl d ad w) h e
 cases h
theorem R4 {e:TypeId} (hu:P.underlying id=some (.slice e)) {size:Nat} (hs:(sizeOf e).run P w=.ok size w) (a:Addr) (n c:Nat) (k:IntKind) (i:Int) (h0:0<=i) (h1:i<n) :
  (Instr.indexAt id (.slice (some a) n c) (.int k i)).run P w=.ok (.pointer (some (a.add (i.toNat*size)))) w:=by
 simp[Instr.indexAt,asIntOf,iF hu,h0,h1,hs]
theorem AAq {el:TypeId} (hu:P.underlying id=some (.slice el)) (hs:(sizeOf el).run P V.w=.ok e.size V.w) {l:List e.den} {kd:IntKind} {k:Int} {xv:Value}
  (q:BX V.w V.O (.slice e) xv l) (m:0<=k) (n:k<(l.length:Int)) :
  ∃u,(Instr.indexAt id xv (.int kd k)).run P V.w=.ok u V.w/\B4 V (.ip e (l.getD k.toNat e.dflt)) u:=by
 obtain⟨cs,g,rfl⟩:=q;obtain⟨a,c,rfl,h1,s,b⟩:=g;have o:k.toNat<l.length:=by omega
 rcases b with b|⟨ad,rfl,d,h⟩
 .subst b;simp at o
 refine⟨_,R4 hu hs _ _ _ _ _ m n,?_⟩;have r:l[k.toNat]?=some (l.getD k.toNat e.dflt):=by grind
 obtain⟨es,t,f,p⟩:=h _ _ r;exact⟨_,es,rfl,by rw[B5];exact d,λj u i=>by rw[Cu];exact f j u i,p⟩
theorem AAr {el:TypeId} (hu:P.underlying id=some (.slice el)) (hs:(sizeOf el).run P V.w=.ok e.size V.w) {n lo hi:Nat} {kd:IntKind} {k:Int} {xv:Value}
  (s:B4 V (.sr n e lo hi) xv) (h:∀n,V.L n->∃o,BC V o (V.ρ n)) (j:0<=k) (l:k<((hi-lo:Nat):Int)) :
  ∃u,(Instr.indexAt id xv (.int kd k)).run P V.w=.ok u V.w/\B4 V (.ep n e (lo+k.toNat) [] 0) u:=by
 obtain⟨b,a,m,c,f,A,z,t,v,rfl,y,h0,h1⟩:=s;have p:lo<hi:=by omega
 have i:=h1 p;obtain⟨o,q⟩:=h n b;obtain⟨g,rfl⟩:∃g,a=some ⟨g,0,none⟩:=by
  obtain⟨_,_,cells,r,_⟩:=XP q f;rcases r.2 with ⟨d,hn⟩|⟨g,cap,x,d,_⟩
  .injection d;omega
  grind
 subst i;refine⟨_,R4 hu hs _ _ _ _ _ j l,b,g,m,c,f,O1,?_⟩;rw[Cu,Tx,ACt];rfl
theorem BU {O:Nat->Prop} {w:World} {kd:IntKind} {k:Int} {v:Value} (h:BX w O (.int kd) v k):v=.int kd k/\IU kd k:=by
 obtain⟨cs,⟨rfl,h1⟩,rfl⟩:=h;exact⟨rfl,h1⟩
theorem BW {O:Nat->Prop} {w:World} {kd:IntKind} {k:Int} (h:IU kd k):BX w O (.int kd) (.int kd k) k:=⟨_,⟨rfl,h⟩,rfl⟩
theorem EB {O:Nat->Prop} {w:World} {b:Bool} {v:Value} (h:BX w O .bool v b):v=.bool b:=by
 obtain⟨cs,h1,rfl⟩:=h;have h1:cs=_:=h1;subst h1;rfl
theorem Bo {O:Nat->Prop} {w:World} (b:Bool):BX w O .bool (.bool b) b:=⟨[.bool b],rfl,rfl⟩
theorem Gf {O:Nat->Prop} {w:World} {v:Value} (h:BX w O .str v s):v=.string s/\s.size<=AP:=by
 obtain⟨cs,⟨rfl,h1⟩,rfl⟩:=h;exact⟨rfl,h1⟩
theorem UK {O:Nat->Prop} {w:World} (h:s.size<=AP):BX w O .str (.string s) s:=⟨_,⟨rfl,h⟩,rfl⟩
theorem Ce {offs:List (Nat×Nat)} {el:TypeId} {bytes:Nat} (hT:D2 P tb id ⟨.slice e,offs,el,bytes⟩) (b:C7 P tb) :
  P.underlying id=some (.slice el)/\(∀w,(sizeOf el).run P w=.ok e.size w)/\∃te,lk el tb.ty=some te/\te.ty=e:=by
 obtain⟨_,hu,te,a,rfl⟩:=hT;exact⟨hu,λw=>Hq w (b _ _ a),te,a,rfl⟩
theorem A3h (hT:D2 P tb id ti) (m:C7 P tb) {x y:AV} {xv p:Value}
  (h:F8 (some ti) (some x) (some y)=some (vc,v,obs)) (f:vc) (i:B4 V x xv) (j:B4 V y p) (r:∀n,V.L n->∃o,BC V o (V.ρ n)) :
  obs=[]/\∃u,(Instr.indexAt id xv p).run P V.w=.ok u V.w/\B4 V v u:=by
 unfold F8 at h;split at h
 .rename_i e offs el bytes q l kd k a c d;cases a;cases c;cases d;split at h
  .rename_i g;subst g;cases h;obtain⟨hu,hs,_⟩:=Ce hT m;obtain⟨rfl,_⟩:=BU j;exact⟨rfl,AAq hu (hs _) i f.1 f.2⟩
  cases h
 .rename_i e offs el bytes n q lo hi kd k a c d;cases a;cases c;cases d;split at h
  .rename_i g;subst g;cases h;obtain⟨hu,hs,_⟩:=Ce hT m;obtain⟨rfl,_⟩:=BU j;exact⟨rfl,AAr hu (hs _) i r f.1 f.2⟩
  cases h
 .rename_i u offs el b A B a c d;cases a;cases c;cases d;unfold Mg at h;split at h
  .rename_i kd k;split at h
   .rename_i hk;obtain⟨rfl,_⟩:=BU j;exact w5 (run:=λxv=>(Instr.indexAt id xv (.int kd k)).run P V.w) (λz s ad t=>cA hT rfl sc hk t ad V.w) h i
   cases h
  cases h
 cases h
theorem KG {n:Int} (h:IU k n):k.wrap n=n:=by
 obtain⟨h1,a⟩:=h;cases k<;>simp[IntKind.min,IntKind.max,IntKind.signed,IntKind.bits]at h1 a<;>simp[IntKind.wrap,IntKind.signed,IntKind.bits]<;>omega
theorem Mj (k:IntKind) (n:Int):IU k (k.wrap n):=by
 cases k<;>simp only[IU,IntKind.min,IntKind.max,IntKind.wrap,IntKind.signed,IntKind.bits]<;>simp<;>omega
theorem A6B {op:BinOp} {t:TypeId} {e:IntKind} {a b:Int} (w:World) (c:(bin op k a e b).1) (ha:IU k a) :
  ∃u,(binOp op t (.int k a) (.int e b)).run P w=.ok u w/\B4 V (bin op k a e b).2 u:=by
 unfold bin at c ⊢;split at c
 .have d:¬b<0:=by have h:0<=b:=c;omega
  exact⟨_,by simp[binOp,Op.shift,d];rfl,BW (Mj _ _)⟩
 .have d:¬b<0:=by have h:0<=b:=c.1;omega
  exact⟨_,by simp[binOp,Op.shift,d];rfl,BW c.2⟩
 split at c
 .rename_i f g hk;subst hk;cases op<;>simp only[sM]at c ⊢;case add=>exact⟨.int k (a+b),by simp[binOp,Op.intArith,KG c],BW c⟩
  case sub=>exact⟨.int k (a-b),by simp[binOp,Op.intArith,KG c],BW c⟩
  case mul=>exact⟨.int k (a*b),by simp[binOp,Op.intArith,KG c],BW c⟩
  case quo=>exact⟨.int k (a.tdiv b),by simp[binOp,Op.intDiv,c.1,KG c.2],BW c.2⟩
  case rem=>exact⟨.int k (a.tmod b),by simp[binOp,Op.intDiv,c.1],BW c.2⟩
  case and=>exact⟨.int k (Cp .and k a b),by simp only[binOp,ne_eq,AC9,ABs,Op.intBits];rfl,BW (Mj _ _)⟩
  case or=>exact⟨.int k (Cp .or k a b),by simp only[binOp,ne_eq,AC9,ABs,Op.intBits];rfl,BW (Mj _ _)⟩
  case xor=>exact⟨.int k (Cp .xor k a b),by simp only[binOp,ne_eq,AC9,ABs,Op.intBits];rfl,BW (Mj _ _)⟩
  case andNot=>exact⟨.int k (Cp .andNot k a b),by simp only[binOp,ne_eq,AC9,ABs,Op.intBits];rfl,BW (Mj _ _)⟩
  case eql=>exact⟨.bool (a==b),by simp[binOp,Op.intCmp],Bo _⟩
  case neq=>exact⟨.bool (a != b),by simp[binOp,Op.intCmp],Bo _⟩
  case lss=>exact⟨.bool (decide (a<b)),by simp[binOp,Op.intCmp],Bo _⟩
  case leq=>exact⟨.bool (decide (a<=b)),by simp[binOp,Op.intCmp],Bo _⟩
  case gtr=>exact⟨.bool (decide (b<a)),by simp[binOp,Op.intCmp],Bo _⟩
  case geq=>exact⟨.bool (decide (b<=a)),by simp[binOp,Op.intCmp],Bo _⟩
 exact c.elim
theorem A3i {op:BinOp} {t:TypeId} {a b:ByteArray} (w:World) (c:(ZB a b op).1) :
  ∃u,(binOp op t (.string a) (.string b)).run P w=.ok u w/\B4 V (ZB a b op).2 u:=by
 cases op<;>simp only[ZB]at c ⊢;case add =>
  have d:AP=140737488355328:=rfl;have hh:¬(((a.size+b.size:Nat):Int) > IntKind.i64.max):=by
   have:IntKind.i64.max=9223372036854775807:=by decide
   omega
  exact⟨.string (a++b),by simp only[binOp,Op.stringOp,An hh];rfl,UK (by simpa[ABT] using c)⟩
 case eql=>exact⟨.bool (AK a b),by simp only[binOp,Op.stringOp];rfl,Bo _⟩
 case neq=>exact⟨.bool (!AK a b),by simp only[binOp,Op.stringOp];rfl,Bo _⟩
 case lss=>exact⟨.bool (CF a b),by simp only[binOp,Op.stringOp];rfl,Bo _⟩
 case leq=>exact⟨.bool (CF a b||AK a b),by simp only[binOp,Op.stringOp];rfl,Bo _⟩
 case gtr=>exact⟨.bool (!(CF a b||AK a b)),by simp only[binOp,Op.stringOp];rfl,Bo _⟩
 case geq=>exact⟨.bool (!CF a b),by simp only[binOp,Op.stringOp];rfl,Bo _⟩
 all_goals exact c.elim
theorem A8Y {op:BinOp} {t:TypeId} {ti:Option TI} (n:UC ti=true->P.underlying t=some .bool) {x y:AV} {xv l:Value} (w:World)
  (h:Sn op ti (some x) (some y)=some (vc,v,obs)) (m:vc) (i:B4 V x xv) (j:B4 V y l) :
  obs=[]/\(∀e f,(eqGuard op t e f xv l).run P w=.ok () w)/\∃u,(binOp op t xv l).run P w=.ok u w/\B4 V v u:=by
 unfold Sn at h;split at h
 .rename_i k a o b c d;cases c;cases d;cases h;obtain⟨rfl,ha⟩:=BU i;obtain⟨rfl,_⟩:=BU j;refine⟨rfl,λe f=>?_,A6B w m ha⟩;cases op<;>simp[eqGuard]
 .rename_i a b c d;cases c;cases d;cases h;obtain⟨rfl,ha⟩:=Gf i;obtain⟨rfl,_⟩:=Gf j;refine⟨rfl,λe f=>?_,A3i w m⟩;cases op<;>simp[eqGuard]
 .rename_i a b c d;cases c;cases d;have ha:=EB i;have g:=EB j;subst ha g;split at h
  .rename_i g;have hu:=n g;cases op<;>simp only[sQ]at h<;>cases h
   .exact⟨rfl,λe f=>by simp[eqGuard],.bool (a==b),by simp[binOp,run_equal_bool w t a b hu],Bo _⟩
   exact⟨rfl,λe f=>by simp[eqGuard],.bool (a != b),by simp[binOp,run_equal_bool w t a b hu,bne],Bo _⟩
  cases h
 cases h
theorem AAs {op:UnOp} {x:AV} {xv:Value} (w:World) (h:qUn op (some x)=some (vc,v,obs)) (c:vc) (e:B4 V x xv) :
  obs=[]/\∃u,(Op.unary op xv).run P w=.ok u w/\B4 V v u:=by
 unfold qUn at h;split at h
 .rename_i b d;cases d;cases h;have:=EB e;subst this;exact⟨rfl,.bool (!b),by simp[Op.unary],Bo _⟩
 .rename_i k a d;cases d;cases h;obtain⟨rfl,ha⟩:=BU e;have c:IU k (0-a):=c;exact⟨rfl,_,by simp only[Op.unary,Op.intArith,KG c];rfl,BW c⟩
 cases h
end
end
section
open Go Go.RowKit
section
variable {P:Program} {tb:Tb} {id:TypeId} {ti:TI} {w:World} {V:Vw} {vc:Prop} {v:AV} {obs:List (Nat×Obj)}
theorem jH (l:List Int):(Rs l).size=l.length:=by
 show (Rs l).data.size=l.length;unfold Rs;simp
theorem A6C (F:C7 P tb) (G:V.w=w) {s t:TypeId} {A ti:TI} (hs:D2 P tb s A) (ht:D2 P tb t ti) {x:AV} {xv:Value} (h:Ky (some A) (some ti) (some x)=some (vc,v,obs)) (i:vc) (z:B4 V x xv) :
  obs=[]/\∃u,(convert s t xv).run P w=.ok u w/\B4 V v u:=by
 unfold Ky at h;split at h
 .rename_i S T m b1 k U C b2 Z a n o p;cases n;cases o;cases p;cases h;obtain⟨rfl,ha⟩:=BU z;have i:IU k a:=i;have f:P.underlying s=some (.int S):=hs.2;have g:P.underlying t=some (.int k):=ht.2;refine⟨rfl,.int k a,?_,BW i⟩;simp[convert,iF f,iF g,Conv.intToInt,KG i]
 .rename_i T m b1 U C b2 l n o p;cases n;cases o;cases p;cases h;obtain⟨f,te,N,O⟩:=hs.2;have g:P.underlying t=some .string:=ht.2;have y:P.underlying m=some (.int .u8):=by
   have:=(F _ _ N).2;rw[O]at this;exact this
  obtain⟨cs,⟨a,c,rfl,h1,D,d⟩,rfl⟩:=z;have M:(Rs l).size<=AP:=by rw[jH];exact D
  refine⟨rfl,.string (Rs l),?_,⟨[.string (Rs l)],⟨rfl,M⟩,rfl⟩⟩;have K:a=none->l=[]:=λe=>by grind
  cases a with
  | none =>
   have:=K rfl;subst this;show (convert s t (.slice none 0 c)).run P w=_;have B:Rs []=ByteArray.empty:=rfl;rw[B];simp[convert,iF f,iF g,iF y,Conv.bytesToString]
  | some ad =>
   have r:=run_convert_bytes_back (P:=P) w s t m ad c (l.map λx=>UInt8.ofNat x.toNat) f y g λj q=>by
    have b:j<List.length l:=by rw[On]at q;exact q
    rcases d with d|⟨W,d,X,E⟩
    .rw[d]at b;cases b
    cases d;obtain⟨es,-,I,L⟩:=E j l[j] (As b);obtain⟨rfl,J⟩:=L;have H:=I 0 (.int .u8 l[j]) rfl;rw[G]at H;obtain⟨Q,R⟩:(0:Int)<=(l:List Int)[j]'b/\(l:List Int)[j]'b<=255:=by
     simpa[IU,IntKind.min,IntKind.max,IntKind.signed,IntKind.bits] using J
    have e:(((List.map (λx:Int=>UInt8.ofNat x.toNat) l)[j]'q).toNat:Int)=l[j]:=by
     rw[ACf,UInt8.toNat_ofNat'];have Y:((l:List Int)[j]'b).toNat % 2 ^ 8=((l:List Int)[j]'b).toNat:=Nat.mod_eq_of_lt ((ACT Q).2 (ACU R df));grind
    grind [Ty.size]
   rw[On]at r;exact r
 cases h
theorem A8Z (r:∀n,V.L n->∃o,BC V o (V.ρ n)) {x:AV} {xv:Value} {t ty:TypeId} (hT:D2 P tb t ti) (w:World) (h:UD (some ti) (some x)=some (vc,v,obs)) (g:B4 V x xv) :
  obs=[]/\∃u,(Builtin.len_ #[t] ty #[xv]).run P w=.ok u w/\B4 V v u:=by
 have j:∀n:Nat,n<=AP->IU .i64 (n:Int):=λn hn=>by
  simp[IU,IntKind.min,IntKind.max,IntKind.signed,IntKind.bits];simp[AP]at hn;omega
 unfold UD at h;split at h
 .rename_i e o el b q l d f;cases d;cases f;cases h;obtain⟨cs,⟨a,c,rfl,h1,y,_⟩,rfl⟩:=g;have hu:=hT.2.1;exact⟨rfl,.int .i64 (List.length l:Int),by simp[Builtin.len_,iF hu,goInt,Ty.wrap],BW (j _ y)⟩
 .rename_i e o el b n q lo hi d f;cases d;cases f;cases h;obtain⟨k,a,m,c,C,I,H,E,F,rfl,G,h0,h1⟩:=g;have hu:=hT.2.1;obtain⟨D,p⟩:=r n k;obtain⟨_,_,_,_,this⟩:=XP p C;exact⟨rfl,.int .i64 ((hi-lo:Nat):Int),by simp[Builtin.len_,iF hu,goInt],BW (j _ O1)⟩
 .rename_i e o el b n q i len d f;cases d;cases f;cases h;obtain⟨k,K,a,c,J,B,A,z,rfl⟩:=g;have hu:=hT.2.1;obtain⟨D,p⟩:=r n k;have:=A3a p B A z rfl;exact⟨rfl,.int .i64 (len:Int),by simp[Builtin.len_,iF hu,goInt],BW (j _ this)⟩
 .rename_i e o el b d f;cases d;cases f;cases h;have g:xv=_:=g;subst g;have hu:=hT.2.1;exact⟨rfl,.int .i64 0,by simp[Builtin.len_,iF hu,goInt],BW (j 0 sc)⟩
 .rename_i o el b s d f;cases d;cases f;cases h;obtain⟨rfl,h1⟩:=Gf g;have hu:P.underlying t=some .string:=hT.2;exact⟨rfl,.int .i64 (s.size:Int),by simp[Builtin.len_,iF hu,goInt],BW (j _ h1)⟩
 cases h
theorem sT {i:Nat} {x:AV} {xv:Value} (w:World) (h:E4 i (some x)=some (vc,v,obs)) (g:B4 V x xv) :
  obs=[]/\∃u,(Instr.extract xv i).run P w=.ok u w/\B4 V v u:=by
 have get:∀(l:List AV) (a:List Value) (i:Nat) (y:AV),Ho V l a->l[i]?=some y->∃u,a[i]?=some u/\B4 V y u:=by
  intro l;induction l with
  | nil=>intro a i y _ h;simp at h
  | cons z r j =>
   intro a i y c h;obtain⟨u,k,rfl,h1,d⟩:=c;cases i with
   | zero =>
    simp at h;subst h;exact⟨u,rfl,wT h1⟩
   | succ i=>exact j k i y d (by simpa using h)
 unfold E4 at h;split at h
 .rename_i l e;cases e;obtain⟨a,rfl,c⟩:=g;cases b:l[i]? with
  | none=>rw[b]at h;simp[G2]at h
  | some y =>
   rw[b]at h;simp only[G2]at h;cases h;obtain⟨u,hu,f⟩:=get l a i _ c b;exact⟨rfl,u,by simp[Instr.extract,hu],f⟩
 cases h
theorem A90 {x y:AV} {xv:Value} {ts:Array TypeId} {ty:TypeId} (w:World) (h:So (some x) (some y)=some (vc,v,obs)) (g:B4 V x xv) (i:B4 V y d) :
  obs=[]/\∃u,(Builtin.min_ ts ty #[xv,d]).run P w=.ok u w/\B4 V v u:=by
 unfold So at h;split at h
 .rename_i k a j b e f;cases e;cases f;split at h
  .rename_i hk;subst hk;cases h;obtain⟨rfl,ha⟩:=BU g;obtain⟨rfl,c⟩:=BU i;have ha:IU k a:=ha;have c:IU k b:=c;refine⟨rfl,.int k (if (b:Int)<a then b else a),by simp[Builtin.min_,Builtin.min2],BW ?_⟩;split
   .exact c
   exact ha
  cases h
 cases h
theorem A6D {x y z:AV} {xv f g:Value} {ts:Array TypeId} {ty:TypeId} (w:World) (h:JU (some x) (some y) (some z)=some (vc,v,obs)) (o:B4 V x xv) (p:B4 V y f) (q:B4 V z g) :
  obs=[]/\∃u,(Builtin.min_ ts ty #[xv,f,g]).run P w=.ok u w/\B4 V v u:=by
 unfold JU at h;split at h
 .rename_i k a s b t c i j l;cases i;cases j;cases l;split at h
  .rename_i hk;obtain⟨m,n⟩:=hk;subst m;subst n;cases h;obtain⟨rfl,ha⟩:=BU o;obtain⟨rfl,d⟩:=BU p;obtain⟨rfl,e⟩:=BU q;have ha:IU k a:=ha;have d:IU k b:=d;have e:IU k c:=e;refine⟨rfl,.int k (if (c:Int)<(if (b:Int)<a then b else a) then c else (if (b:Int)<a then b else a)),by simp[Builtin.min_,Builtin.min2],BW ?_⟩;by_cases r:(b:Int)<a
   .grind
   grind
  cases h
 cases h
theorem A91 {x y:AV} {xv:Value} {ts:Array TypeId} {ty:TypeId} (w:World) (h:Sp (some x) (some y)=some (vc,v,obs)) (g:B4 V x xv) (i:B4 V y d) :
  obs=[]/\∃u,(Builtin.max_ ts ty #[xv,d]).run P w=.ok u w/\B4 V v u:=by
 unfold Sp at h;split at h
 .rename_i k a j b e f;cases e;cases f;split at h
  .rename_i hk;subst hk;cases h;obtain⟨rfl,ha⟩:=BU g;obtain⟨rfl,c⟩:=BU i;have ha:IU k a:=ha;have c:IU k b:=c;refine⟨rfl,.int k (if (a:Int)<b then b else a),by simp[Builtin.max_,Builtin.max2],BW ?_⟩;split
   .exact c
   exact ha
  cases h
 cases h
theorem A6E {t:TypeId} (hu:P.underlying t=some .string) (w:World) {kd:IntKind} {k:Int} (h0:0<=k) (h1:k<(s.size:Int)) :
  (Instr.index t (.string s) (.int kd k)).run P w=.ok (.int .u8 ((s.data.getD k.toNat 0).toNat:Int)) w/\IU .u8 ((s.data.getD k.toNat 0).toNat:Int):=by
 have a:k.toNat<s.size:=by omega
 have d:k.toNat<s.data.size:=a;have c:s[k.toNat]?=some (s.data.getD k.toNat 0):=by
  rw[getElem?_pos s k.toNat a];simp only[Array.getD,d,dite_true];rfl
 refine⟨by simp[Instr.index,asIntOf,iF hu,h0,c],?_⟩;generalize s.data.getD k.toNat 0=b;have:=b.toNat_lt;simp[IU,IntKind.min,IntKind.max,IntKind.signed,IntKind.bits];omega
theorem w6 {t:TypeId} {x y:AV} {xv c:Value} (hT:D2 P tb t ti) (w:World) (h:El (some ti) (some x) (some y)=some (vc,v,obs)) (a:vc) (i:B4 V x xv) (j:B4 V y c) :
  obs=[]/\∃u,(Instr.index t xv c).run P w=.ok u w/\B4 V v u:=by
 unfold El at h;split at h
 .rename_i o el b s kd k e f g;cases e;cases f;cases g;cases h;obtain⟨rfl,_⟩:=Gf i;obtain⟨rfl,_⟩:=BU j;have hu:P.underlying t=some .string:=hT.2;obtain⟨h1,d⟩:=A6E (P:=P) hu w (kd:=kd) a.1 a.2;exact⟨rfl,_,h1,BW d⟩
 cases h
theorem A92 {x:AV} {xv:Value} (h:W5 (some x)=some (vc,v,obs)) (e:B4 V x xv):obs=[]/\(∃ad,xv=.pointer (some ad))/\B4 V v xv:=by
 unfold W5 at h;split at h
 .rename_i a;cases a;cases h;obtain⟨d,b,f,rfl⟩:=e;exact⟨rfl,⟨_,rfl⟩,d,b,f,rfl⟩
 .rename_i a;cases a;cases h;obtain⟨ad,cs,rfl,r⟩:=e;exact⟨rfl,⟨_,rfl⟩,ad,cs,rfl,r⟩
 .rename_i a;cases a;cases h;obtain⟨d,g,m,c,f,i,rfl⟩:=e;exact⟨rfl,⟨_,rfl⟩,d,g,m,c,f,i,rfl⟩
 cases h
end
end
section
open Go Go.RowKit
section
variable {P:Program} {tb:Tb} {id:TypeId} {ti:TI} {V:Vw} {vc:Prop} {v:AV} {obs:List (Nat×Obj)}
def FE (a:Option Addr) (c l sz:Nat):Option Addr:=if c=l then a else a.map (·.add (l*sz))
inductive nV:Option Value->Nat->Nat->Prop
 | none (d:Nat):nV none d d
 | some (k:IntKind) (z:Int) (d:Nat) (h:0<=z):nV (some (.int k z)) d z.toNat
theorem w7 {el:TypeId} (hu:P.underlying id=some (.slice el)) {sz:Nat} (w:World) (hs:(sizeOf el).run P w=.ok sz w) {n c l h:Nat} {lo:Option Value}
  (i:nV lo 0 l) (hh:nV C n h) (h1:l<=h) (m:h<=c) :
  (Instr.sliceAt id (.slice a n c) lo C none).run P w=.ok (.slice (FE a c l sz) (h-l) (c-l)) w:=by
 cases i with
 | none =>
  cases hh with
  | none=>simp[Instr.sliceAt,iF hu,Instr.slice,Instr.sliceBounds,hs,FE]
  | some k z _ b =>
   have e:z<=(c:Int):=by omega
   simp[Instr.sliceAt,iF hu,Instr.slice,Instr.sliceBounds,Instr.sliceBound,asIntOf,hs,FE,b,e]
 | some k z _ b =>
  cases hh with
  | none =>
   have e:z<=(n:Int):=by omega
   simp[Instr.sliceAt,iF hu,Instr.slice,Instr.sliceBounds,Instr.sliceBound,asIntOf,hs,FE,b,e]
  | some o d _ j =>
   have e:d<=(c:Int):=by omega
   have f:max d 0=d:=by omega
   have g:z<=d:=by omega
   simp[Instr.sliceAt,iF hu,Instr.slice,Instr.sliceBounds,Instr.sliceBound,asIntOf,hs,FE,b,j,e,f,g]
theorem A6F (hu:P.underlying id=some .string) (w:World) {l h:Nat} {lo:Option Value} (f:nV lo 0 l) (hh:nV C s.size h) (h1:l<=h) (i:h<=s.size) :
  (Instr.sliceAt id (.string s) lo C none).run P w=.ok (.string (s.extract l h)) w:=by
 cases f with
 | none =>
  cases hh with
  | none=>simp[Instr.sliceAt,iF hu,Instr.slice,Instr.sliceBounds]
  | some k z _ a =>
   have e:z<=(s.size:Int):=by omega
   simp[Instr.sliceAt,iF hu,Instr.slice,Instr.sliceBounds,Instr.sliceBound,asIntOf,a,e]
 | some k z _ a =>
  cases hh with
  | none =>
   have e:z<=(s.size:Int):=by omega
   simp[Instr.sliceAt,iF hu,Instr.slice,Instr.sliceBounds,Instr.sliceBound,asIntOf,a,e]
  | some j b _ g =>
   have e:b<=(s.size:Int):=by omega
   have c:max b 0=b:=by omega
   have d:z<=b:=by omega
   simp[Instr.sliceAt,iF hu,Instr.slice,Instr.sliceBounds,Instr.sliceBound,asIntOf,a,g,e,c,d]
theorem A3j {xs:List e.den} {n c l h:Nat} (p:Bw V.w V.O (.slice e) [.slice a n c] xs) (h1:l<=h) (g:h<=xs.length) :
  BX V.w V.O (.slice e) (.slice (FE a c l e.size) (h-l) (c-l)) (sub xs l h)/\n=xs.length/\h<=c:=by
 obtain⟨q,r,f,s,t,b⟩:=p;injection f with f
 injection f with j k m
 subst j;subst k;subst m;have d:=Nw xs (lo:=l) g;refine⟨⟨_,⟨FE a c l e.size,c-l,by rw[d],by rw[d];omega,by rw[d];omega,?_⟩,rfl⟩,rfl,O1⟩;by_cases v:l<h
 .right;rcases b with b|⟨ad,rfl,o,u⟩
  .subst b;simp at g;omega
  refine⟨ad.add (l*e.size),?_,by rw[B5];exact o,λi x hi=>?_⟩
  .grind [FE]
  obtain⟨y,_⟩:=ZG xs l h i hi;grind [Cu]
 simp_all
theorem w8 {loc:Value} {sz b c0 l h:Nat} {n c:Nat} (s:DN loc sz b c0 (.slice a n c)) (h1:l<=h) (x:h<=c0-b) :
  DN loc sz (b+l) (b+h) (.slice (FE a c l sz) (h-l) (c-l))/\n=c0-b/\h<=c:=by
 obtain⟨d,m,e,q,y,A,v,w,t,z,j,k⟩:=s;injection t with f g i
 subst f;subst g;subst i;refine⟨⟨d,m,e,q,O1,O1,FE a c l sz,c-l,by rw[show b+h-(b+l)=h-l by omega],O1,λC=>?_,λB=>?_⟩,rfl,O1⟩
 .have o:b=0:=by omega
  have p:l=0:=by omega
  subst o;subst p;obtain⟨u,D⟩:=j rfl;refine⟨?_,O1⟩;rw[<-u];unfold FE;split
  .rfl
  simp only[ADc];cases a<;>rfl
 have:=k O1;subst this;have r:¬c=l:=by omega
 simp only[FE,An r,Option.map_map]
 congr 1
 grind [Cu]
theorem Sq (s:ByteArray) (l h:Nat):(s.extract l h).size<=s.size:=by
 simp only[ByteArray.size_extract];omega
theorem UL (hT:D2 P tb id ti) (k:C7 P tb) (f:ti.ty=.slice e) {l:List e.den} {xv:Value} {lo:Option Value} {a h:Nat}
  (n:BX V.w V.O (.slice e) xv l) (m:nV lo 0 a) (hh:nV C l.length h) (h1:a<=h) (g:h<=l.length) :
  ∃u,(Instr.sliceAt id xv lo C none).run P V.w=.ok u V.w/\B4 V (.p (.slice e) (sub l a h)) u:=by
 obtain⟨ty,offs,el,bytes⟩:=ti;simp only at f;subst f;obtain⟨hu,hs,_⟩:=Ce hT k;obtain⟨cs,b,rfl⟩:=n;obtain⟨d,c,rfl,r⟩:=b;have b:Bw V.w V.O (.slice e) [.slice d l.length c] l:=⟨d,c,rfl,r⟩;obtain⟨i,_,j⟩:=A3j b h1 g;exact⟨_,w7 hu _ (hs _) m hh h1 j,i⟩
theorem UM (hT:D2 P tb id ti) (k:C7 P tb) {n b c0:Nat} (c:ti.ty=.slice e) {xv:Value} {lo:Option Value} {a h:Nat}
  (o:B4 V (.sr n e b c0) xv) (l:nV lo 0 a) (hh:nV C (c0-b) h) (h1:a<=h) (f:h<=c0-b) :
  ∃u,(Instr.sliceAt id xv lo C none).run P V.w=.ok u V.w/\B4 V (.sr n e (b+a) (b+h)) u:=by
 obtain⟨ty,offs,el,bytes⟩:=ti;simp only at c;subst c;obtain⟨hu,hs,_⟩:=Ce hT k;obtain⟨j,d⟩:=o;have m:=d;obtain⟨_,_,_,_,_,_,p,q,rfl,_⟩:=m;obtain⟨g,r,i⟩:=w8 d h1 f;exact⟨_,w7 hu _ (hs _) l hh h1 i,j,g⟩
theorem UN (hT:D2 P tb id ti) (c:ti.ty=.str) {xv:Value} {lo:Option Value} {a h:Nat}
  (f:BX V.w V.O .str xv s) (d:nV lo 0 a) (hh:nV C s.size h) (h1:a<=h) (b:h<=s.size) :
  ∃u,(Instr.sliceAt id xv lo C none).run P V.w=.ok u V.w/\B4 V (.p .str (s.extract a h)) u:=by
 obtain⟨rfl,e⟩:=Gf f;have hu:=hT.2;rw[c]at hu;exact⟨_,A6F hu _ d hh h1 b,UK (aS (Sq s a h) e)⟩
theorem I7 {n:Nat} (_h:0<=z) (a:z<=(n:Int)):z.toNat<=n:=by omega
theorem ZM {a b:Int} (h:a<=b):a.toNat<=b.toNat:=by omega
def cB:Option AV->Option Value->Prop
 | none,none=>True
 | some x,some v=>B4 V x v
 | _,_=>False
theorem w9 (hT:D2 P tb id ti) (m:C7 P tb) {x ha i:AV} {xv f g:Value} (h:EL (some ti) (some x) (some ha) (some i)=some (vc,v,obs)) (B:vc) (C:B4 V x xv) (hh:B4 V ha f) (y:B4 V i g) :
  obs=[]/\∃u,(Instr.sliceAt id xv none (some f) (some g)).run P V.w=.ok u V.w/\B4 V v u:=by
 unfold EL at h;split at h
 .rename_i e offs el bytes F l D a E b n o p q;cases n;cases o;cases p;cases q;split at h
  .rename_i r;subst r;cases h;obtain⟨hu,hs,_⟩:=Ce hT m;obtain⟨rfl,rfl⟩:=B;obtain⟨rfl,_⟩:=BU (hh:BX V.w V.O (.int D) f _);obtain⟨rfl,_⟩:=BU (y:BX V.w V.O (.int E) g _);obtain⟨cs,A,rfl⟩:=(C:BX V.w V.O (.slice e) xv l);obtain⟨d,c,rfl,t,z,s⟩:=A;refine⟨rfl,.slice d (List.length l) (List.length l),?_,⟨_,⟨d,_,rfl,OS _,z,s⟩,rfl⟩,d,rfl⟩;have j:((List.length l:Nat):Int)<=(c:Int):=by omega
   have k:(0:Int)<=((List.length l:Nat):Int):=by omega
   simp[Ty.wrap,Instr.sliceAt,iF hu,Instr.slice,Instr.sliceBounds,Instr.sliceBound,asIntOf,hs V.w,j,k,Addr.add];intro G;exact absurd t O1
  cases h
 cases h
theorem A3k (hT:D2 P tb id ti) (j:C7 P tb) {x:AV} {xv:Value} {lo hi:Option AV} 
  (h:Fg (some ti) (some x) (some lo) (some hi)=some (vc,v,obs)) (a:vc) (c:B4 V x xv) (g:cB (V:=V) lo D) (f:cB (V:=V) hi C) :
  obs=[]/\∃u,(Instr.sliceAt id xv D C none).run P V.w=.ok u V.w/\B4 V v u:=by
 have i:∀ {o:Option Value} (d:Nat),cB (V:=V) none o->nV o d d:=λ{o} d h=>by
  cases o with
  | none=>exact .none d
  | some v=>exact h.elim
 have b1:∀ {o:Option Value} {k:IntKind} {z:Int} (d:Nat),cB (V:=V) (some (.p (.int k) z)) o->0<=z->nV o d z.toNat:=λ{o k z} d h F=>by
  cases o with
  | none=>exact h.elim
  | some v =>
   obtain⟨rfl,_⟩:=BU (h:BX V.w V.O (.int k) v z);exact .some k z d F
 unfold Fg at h;split at h
 .rename_i e offs el bytes E l B h0 q r t y;cases q;cases r;cases t;cases y;split at h
  .rename_i A;subst A;have c:BX V.w V.O (.slice e) xv l:=c;unfold I2 at h;split at h<;>first|(cases h;done)|(rename_i m;cases m<;>cases h)
   .exact⟨rfl,UL hT j rfl c (i 0 g) (b1 _ f a.1) (GO _) (I7 a.1 a.2)⟩
   .exact⟨rfl,UL hT j rfl c (b1 0 g a.1) (i _ f) (I7 a.1 a.2) (OS _)⟩
   exact⟨rfl,UL hT j rfl c (b1 0 g a.1) (b1 _ f (ABK a.1 a.2.1)) (ZM a.2.1) (I7 (ABK a.1 a.2.1) a.2.2)⟩
  cases h
 .rename_i e offs el bytes n E b c0 B h0 q r t y;cases q;cases r;cases t;cases y;split at h
  .rename_i A;subst A;unfold I2 at h;split at h<;>first|(cases h;done)|(rename_i m;cases m<;>cases h)
   .refine⟨rfl,?_⟩;have:=UM (P:=P) hT j rfl c (i 0 g) (b1 _ f a.1) (GO _) (I7 a.1 a.2);simpa using this
   .refine⟨rfl,?_⟩;have:=UM (P:=P) hT j rfl c (b1 0 g a.1) (i _ f) (I7 a.1 a.2) (OS _);have H:=I7 a.1 a.2;obtain⟨_,_,_,_,_,G,_⟩:=c;grind
   exact⟨rfl,UM hT j rfl c (b1 0 g a.1) (b1 _ f (ABK a.1 a.2.1)) (ZM a.2.1) (I7 (ABK a.1 a.2.1) a.2.2)⟩
  cases h
 .rename_i offs el bytes s B h0 q r t y;cases q;cases r;cases t;cases y;have c:BX V.w V.O .str xv s:=c;unfold I2 at h;split at h<;>first|(cases h;done)|(rename_i m;cases m<;>cases h)
  .exact⟨rfl,UN hT rfl c (i 0 g) (b1 _ f a.1) (GO _) (I7 a.1 a.2)⟩
  .exact⟨rfl,UN hT rfl c (b1 0 g a.1) (i _ f) (I7 a.1 a.2) (OS _)⟩
  exact⟨rfl,UN hT rfl c (b1 0 g a.1) (b1 _ f (ABK a.1 a.2.1)) (ZM a.2.1) (I7 (ABK a.1 a.2.1) a.2.2)⟩
 cases h
end
end
end Go.Proofs.YtglkoagnnnpimaaGreatDoor.Fw
