/- The executor's quiet operations are sound, first part. -/
import Derived.Test.YtddbnflakbngaaaGreatDoorFZA
import Derived.Laws.IdiomStrings
set_option linter.unusedVariables false
set_option linter.unusedSimpArgs false
namespace Go.Proofs.YtddbnflakbngaaaGreatDoor.Fw
variable {v d:Value} {D C:Option Value} {k:IntKind} {s:ByteArray} {Z:List Value} {z:Int} {e:Ty} {Y:Type} {a:Option Addr} {X:BinOp} {x:AV} {l:List AV}
section
open Go Go.RowKit
theorem QA {w:World} {O:Nat->Prop}:∀ {t:Ty} {k:Nat} {d:t.den} {pv:PV} {cs:List Value},HX t k d=some pv->B6 w O t cs d ->
  Zz t k=some pv.t/\∃o,Kq t k=some o/\o+pv.t.size<=t.size/\B6 w O pv.t ((cs.drop o).take pv.t.size) pv.d
 | .prod a b,0,d,pv,cs,h,c=>by
  simp only[HX]at h;cases h;obtain⟨c1,c2,rfl,h1,f⟩:=c;refine⟨rfl,0,rfl,by simp[Ty.size],?_⟩;have e:=h1.length;simp only[ACe,<-e,List.take_left];exact h1
 | .prod a b,k+1,d,pv,cs,h,c=>by
  simp only[HX]at h;obtain⟨c1,c2,rfl,h1,f⟩:=c;obtain⟨g,o,i,l,j⟩:=QA h f;refine⟨g,a.size+o,by simp[Kq,i],by simp[Ty.size];omega,?_⟩;have e:=h1.length;rw[<-e,<-ADP,List.drop_left];exact j
 | .int _,0,d,pv,cs,h,c=>by
  simp only[HX]at h;cases h;refine⟨rfl,0,rfl,sc,?_⟩;have e:=c.length;simp only[ACe,<-e,tO];exact c
 | .bool,0,d,pv,cs,h,c=>by
  simp only[HX]at h;cases h;refine⟨rfl,0,rfl,sc,?_⟩;have e:=c.length;simp only[ACe,<-e,tO];exact c
 | .str,0,d,pv,cs,h,c=>by
  simp only[HX]at h;cases h;refine⟨rfl,0,rfl,sc,?_⟩;have e:=c.length;simp only[ACe,<-e,tO];exact c
 | .slice _,0,d,pv,cs,h,c=>by
  simp only[HX]at h;cases h;refine⟨rfl,0,rfl,sc,?_⟩;have e:=c.length;simp only[ACe,<-e,tO];exact c
 | .ref _,0,d,pv,cs,h,c=>by
  simp only[HX]at h;cases h;refine⟨rfl,0,rfl,sc,?_⟩;have e:=c.length;simp only[ACe,<-e,tO];exact c
 | .ref _,_+1,d,pv,cs,h,c=>by simp[HX]at h
 | .agg _,0,d,pv,cs,h,c=>by
  simp only[HX]at h;cases h;refine⟨rfl,0,rfl,sc,?_⟩;have e:=c.length;simp only[ACe,<-e,tO];exact c
 | .int _,_+1,d,pv,cs,h,c=>by simp[HX]at h
 | .bool,_+1,d,pv,cs,h,c=>by simp[HX]at h
 | .str,_+1,d,pv,cs,h,c=>by simp[HX]at h
 | .slice _,_+1,d,pv,cs,h,c=>by simp[HX]at h
 | .agg _,_+1,d,pv,cs,h,c=>by simp[HX]at h
theorem aC {α:Type} (cs:List α) (o m a n:Nat) (h:a+n<=m):(((cs.drop o).take m).drop a).take n=(cs.drop (o+a)).take n:=by
 rw[List.drop_take,ACU,ADP]
 congr 1
 omega
theorem VH {w:World} {O:Nat->Prop}:∀ {f:List Nat} {t:Ty} {d:t.den} {pv:PV} {cs:List Value} {off:Nat},T7 f t d=some pv->MM f t=some off->B6 w O t cs d ->
  off+pv.t.size<=t.size/\B6 w O pv.t ((cs.drop off).take pv.t.size) pv.d
 | [],t,d,pv,cs,off,h,a,b=>by
  simp only[T7]at h;simp only[MM]at a;cases h;cases a;have e:=b.length;simp only[ACe,<-e,tO];exact⟨by simp[e],b⟩
 | k :: r,t,d,pv,cs,off,h,a,b=>by
  cases t<;>simp only[T7,MM]at h a<;>try(cases h;done)
  rename_i t;split at h
  .rename_i p m;have b:B6 w O t cs d:=b;obtain⟨h1,o,g,n,i⟩:=QA m b;rw[h1,g]at a;simp only[No]at a;obtain⟨q,l,rfl⟩:=a;obtain⟨j,c⟩:=VH h l i;refine⟨by simp only[Ty.size];omega,?_⟩;rw[aC _ _ _ _ _ j]at c;exact c
  cases h
def A9 {α:Type} (cs:List α) (o:Nat) (es:List α):List α:=cs.take o++es++cs.drop (o+es.length)
theorem EW {α:Type} {cs:List α} {o:Nat} {es:List α} (h:o+es.length<=cs.length):(A9 cs o es).length=cs.length:=by
 simp[A9];omega
theorem D6 {α:Type} {cs es:List α} (h:es.length=cs.length):A9 cs 0 es=es:=by
 simp[A9,h]
theorem QB {α:Type} (a b:List α) (o:Nat) (es:List α):A9 (a++b) (a.length+o) es=a++A9 b o es:=by
 simp only[A9,List.take_append,AEN,AAp];have h1:List.take (a.length+o) a=a:=BY O1;have c:List.drop (a.length+o+es.length) a=[]:=NO O1;have d:a.length+o-a.length=o:=by omega
 have e:a.length+o+es.length-a.length=o+es.length:=by omega
 rw[h1,c,d,e];simp
theorem TE {α:Type} (a b:List α) (es:List α) (h:es.length=a.length):A9 (a++b) 0 es=es++b:=by
 simp[A9,h]
theorem eO {w:World} {O:Nat->Prop}:∀ {t:Ty} {k:Nat} {d g:t.den} {pv:PV} {cs es:List Value} {o:Nat},OA t k d pv=some g->Kq t k=some o->B6 w O t cs d->B6 w O pv.t es pv.d ->
  B6 w O t (A9 cs o es) g/\Zz t k=some pv.t
 | .prod a b,0,d,g,pv,cs,es,o,h,c,f,e=>by
  simp only[OA,No]at h;obtain⟨y,j,rfl⟩:=h;have:=BP j;subst this;simp only[Kq]at c;cases c;obtain⟨c1,c2,rfl,h1,i⟩:=f;rw[TE _ _ _ (by rw[e.length,h1.length])];exact⟨⟨es,c2,rfl,e,i⟩,rfl⟩
 | .prod a b,k+1,d,g,pv,cs,es,o,h,c,f,e=>by
  simp only[OA,No]at h;obtain⟨y,j,rfl⟩:=h;simp only[Kq,No]at c;obtain⟨p,n,rfl⟩:=c;obtain⟨c1,c2,rfl,h1,i⟩:=f;obtain⟨l,m⟩:=eO j n i e;rw[<-h1.length,QB];exact⟨⟨c1,_,rfl,h1,l⟩,m⟩
 | .int _,0,d,g,pv,cs,es,o,h,c,f,e=>by
  have:=BP h;subst this;simp only[Kq]at c;cases c;rw[D6 (by rw[e.length,f.length])];exact⟨e,rfl⟩
 | .bool,0,d,g,pv,cs,es,o,h,c,f,e=>by
  have:=BP h;subst this;simp only[Kq]at c;cases c;rw[D6 (by rw[e.length,f.length])];exact⟨e,rfl⟩
 | .str,0,d,g,pv,cs,es,o,h,c,f,e=>by
  have:=BP h;subst this;simp only[Kq]at c;cases c;rw[D6 (by rw[e.length,f.length])];exact⟨e,rfl⟩
 | .slice _,0,d,g,pv,cs,es,o,h,c,f,e=>by
  have:=BP h;subst this;simp only[Kq]at c;cases c;rw[D6 (by rw[e.length,f.length])];exact⟨e,rfl⟩
 | .ref _,0,d,g,pv,cs,es,o,h,c,f,e=>by
  have:=BP h;subst this;simp only[Kq]at c;cases c;rw[D6 (by rw[e.length,f.length])];exact⟨e,rfl⟩
 | .ref _,_+1,d,g,pv,cs,es,o,h,c,f,e=>by simp[OA]at h
 | .agg _,0,d,g,pv,cs,es,o,h,c,f,e=>by
  have:=BP h;subst this;simp only[Kq]at c;cases c;rw[D6 (by rw[e.length,f.length])];exact⟨e,rfl⟩
 | .int _,_+1,d,g,pv,cs,es,o,h,c,f,e=>by simp[OA]at h
 | .bool,_+1,d,g,pv,cs,es,o,h,c,f,e=>by simp[OA]at h
 | .str,_+1,d,g,pv,cs,es,o,h,c,f,e=>by simp[OA]at h
 | .slice _,_+1,d,g,pv,cs,es,o,h,c,f,e=>by simp[OA]at h
 | .agg _,_+1,d,g,pv,cs,es,o,h,c,f,e=>by simp[OA]at h
theorem Jt {α:Type} (cs:List α) (o m a:Nat) (es:List α) (h:a+es.length<=m) (g:o+m<=cs.length) :
  A9 cs o (A9 ((cs.drop o).take m) a es)=A9 cs (o+a) es:=by
 apply AE9;intro j;have b:(A9 ((cs.drop o).take m) a es).length=m:=by rw[EW]<;>simp<;>omega
 simp only[A9]at b ⊢;rw[b];simp only[ACg,IF,On,AD5,AAA,ACh];have c:min o cs.length=o:=by omega
 have d:min m (cs.length-o)=m:=by omega
 have e:min a m=a:=by omega
 have f:min (o+a) cs.length=o+a:=by omega
 rw[c,d,e,f];by_cases c1:j<o
 .grind
 grind
theorem VI {w:World} {O:Nat->Prop}:∀ {j:List Nat} {t:Ty} {d e:t.den} {pv:PV} {cs es:List Value} {off:Nat},VA j t d pv=some e->MM j t=some off->B6 w O t cs d->B6 w O pv.t es pv.d ->
  B6 w O t (A9 cs off es) e/\off+es.length<=cs.length
 | [],t,d,e,pv,cs,es,off,h,b,a,c=>by
  have:=BP h;subst this;simp only[MM]at b;cases b;rw[D6 (by rw[c.length,a.length])];exact⟨c,by simp[c.length,a.length]⟩
 | k :: r,t,d,e,pv,cs,es,off,h,b,a,c=>by
  cases t<;>simp only[VA,MM]at h b<;>try(cases h;done)
  rename_i t;have a:B6 w O t cs d:=a;split at h
  .rename_i p s;obtain⟨h1,o,f,v,l⟩:=QA s a;rw[h1,f]at b;simp only[No]at b;obtain⟨z,q,rfl⟩:=b;split at h
   .rename_i y u;obtain⟨m,g⟩:=VI u q l c;have x:=a.length;have n:((cs.drop o).take p.t.size).length=p.t.size:=by simp;omega
    rw[n]at g;obtain⟨i,_⟩:=eO (pv:=⟨p.t,y⟩) h f a m;rw[Jt _ _ _ _ _ g O1]at i;exact⟨i,O1⟩
   cases h
  cases h
end
section
open Go Go.RowKit
section
variable {V:Vw}
theorem YB:∀l:List AV,AV.cellss l=CT l l.length
 | []=>rfl
 | x :: r=>by simp only[AV.cellss,If,CT,YB r]
theorem UU:(∀(x:AV) (cs:List Value),GS V x cs->cs.length=x.cells/\∀u∈cs,u.oneCell'=true)/\∀(l:List AV) (cs:List Value),AVCs V l cs->cs.length=AV.cellss l/\∀u∈cs,u.oneCell'=true:=by
 have key:∀n:Nat,(∀(x:AV) (cs:List Value),SizeOf.sizeOf x<n->GS V x cs->cs.length=x.cells/\∀u∈cs,u.oneCell'=true)/\∀(l:List AV) (cs:List Value),SizeOf.sizeOf l<n->AVCs V l cs->cs.length=AV.cellss l/\∀u∈cs,u.oneCell'=true:=by
  intro n;induction n with
  | zero=>exact⟨λ_ _ h=>by omega,λ_ _ h=>by omega⟩
  | succ n a =>
   refine⟨λx cs hn h=>?_,λl cs hn h=>?_⟩
   .cases x;case p t d=>exact⟨B6.length (show B6 V.w V.O t cs d from h),B6.one (show B6 V.w V.O t cs d from h)⟩
    case ag l =>
     simp only[AV.ag.sizeOf_spec]at hn;exact a.2 l cs O1 h
    case tup l=>obtain⟨v,_,_,hf⟩:=h;exact hf.elim
    all_goals(obtain⟨v,rfl,h1,_⟩:=h;exact⟨rfl,λu hu=>by simp at hu;subst hu;exact h1⟩)
   cases l with
   | nil=>have h:cs=[]:=h;subst h;exact⟨rfl,sc⟩
   | cons x r =>
    obtain⟨c1,c2,rfl,h1,e⟩:=h;simp only[AEe]at hn;have b:=a.1 x c1 O1 h1;have c:=a.2 r c2 O1 e;refine⟨by simp only[IF,AV.cellss,b.1,c.1],λu hu=>?_⟩;rcases IS.1 hu with hu|hu
    .exact b.2 u hu
    exact c.2 u hu
 exact⟨λx cs=>(key _).1 x cs (ACW _),λl cs=>(key _).2 l cs (ACW _)⟩
theorem GS.length {cs:List Value} (h:GS V x cs):cs.length=x.cells:=(UU.1 x cs h).1
theorem GS.one {cs:List Value} (h:GS V x cs):∀u∈cs,u.oneCell'=true:=(UU.1 x cs h).2
theorem AVCs.one {cs:List Value} (h:AVCs V l cs):∀u∈cs,u.oneCell'=true:=(UU.2 l cs h).2
theorem AVCs.length {cs:List Value} (h:AVCs V l cs):cs.length=CT l l.length:=(UU.2 l cs h).1.trans (YB l)
theorem AVCs.get:∀ {l:List AV} {cs:List Value} {k:Nat} {x:AV},AVCs V l cs->l[k]?=some x ->
  CT l k+x.cells<=cs.length/\GS V x ((cs.drop (CT l k)).take x.cells)
 | [],cs,k,x,h,hk=>by simp at hk
 | y :: r,cs,0,x,h,hk=>by
  obtain⟨c1,c2,rfl,h1,a⟩:=h;simp at hk;subst hk;have:=h1.length;grind [CT]
 | y :: r,cs,k+1,x,h,hk=>by
  obtain⟨c1,c2,rfl,h1,a⟩:=h;have hk:r[k]?=some x:=by simpa using hk
  obtain⟨c,b⟩:=AVCs.get a hk;have:=h1.length;refine⟨by simp only[CT,IF];omega,?_⟩;simp only[CT,<-this];rw[<-ADP,List.drop_left];exact b
theorem AVCs.set:∀ {l:List AV} {cs:List Value} {k:Nat} {x y:AV} {es:List Value},AVCs V l cs->l[k]?=some x->GS V y es->y.cells=x.cells ->
  AVCs V (l.set k y) (A9 cs (CT l k) es)
 | [],cs,k,x,y,es,h,hk,a,b=>by simp at hk
 | z :: r,cs,0,x,y,es,h,hk,a,b=>by
  obtain⟨c1,c2,rfl,h1,c⟩:=h;simp at hk;subst hk;simp only[CT,AEs];rw[TE _ _ _ (by rw[a.length,h1.length,b])];exact⟨es,c2,rfl,a,c⟩
 | z :: r,cs,k+1,x,y,es,h,hk,a,b=>by
  obtain⟨c1,c2,rfl,h1,c⟩:=h;have hk:r[k]?=some x:=by simpa using hk
  have:=h1.length;simp only[CT,AEt,<-this];rw[QB];exact⟨c1,_,rfl,h1,AVCs.set c hk a b⟩
theorem l8 {ty:Ty} {es:List Value} (a:GS V x es) (hf:CW ty x=true):es.length=ty.size/\CD V x (ty.wrap es):=by
 cases x;case p t d =>
  simp only[CW,Is]at hf;subst hf;have a:B6 V.w V.O ty es d:=a;exact⟨B6.length a,es,a,rfl⟩
 case ag l =>
  have a:AVCs V l es:=a;have c:=a.length;cases ty<;>simp only[CW]at hf<;>try(cases hf;done)
  simp only[AAv]at hf;exact⟨by simp only[Ty.size];omega,es,rfl,a⟩
 case tup l=>obtain⟨v,_,_,hf⟩:=a;exact hf.elim
 all_goals
  obtain⟨v,rfl,_,h1⟩:=a;have b:ty.cell1=true:=by simp only[CW]at hf;first|exact hf|(simp only[An]at hf;exact hf.2)|exact absurd hf dg
  cases ty<;>first|(cases b;done)|exact⟨rfl,h1⟩
theorem A0u {ty:Ty} (i:CD V x v) (hf:CW ty x=true) (o:ty.cell1=true->v.oneCell'=true):v.cells.size=ty.size/\((∀l,x≠.ag l)->GS V x v.cells.toList):=by
 cases x;case p t d =>
  simp only[CW,Is]at hf;subst hf;obtain⟨cs,f,rfl⟩:=i;have g:=f.length;cases ty;case agg t=>exact⟨by simpa[Ty.wrap,Value.cells] using g,λ_=>by simpa[Ty.wrap,Value.cells,GS] using f⟩
  case prod a b=>exact⟨by simpa[Ty.wrap,Value.cells] using g,λ_=>by simpa[Ty.wrap,Value.cells,GS] using f⟩
  case slice e =>
   obtain⟨a,c,rfl,h⟩:=f;exact⟨rfl,λ_=>⟨a,c,rfl,h⟩⟩
  case int k =>
   obtain⟨rfl,h⟩:=f;exact⟨rfl,λ_=>⟨rfl,h⟩⟩
  case bool =>
   have f:cs=_:=f;subst f;exact⟨rfl,λ_=>rfl⟩
  case str =>
   obtain⟨rfl,h⟩:=f;exact⟨rfl,λ_=>⟨rfl,h⟩⟩
  case ref k =>
   obtain⟨rfl,h⟩:=f;have q:(Ty.ref k).wrap [Rp k d]=Rp k d:=rfl;rw[q,U9];exact⟨rfl,λ_=>⟨rfl,h⟩⟩
 case ag l =>
  obtain⟨cs,rfl,n⟩:=i;have g:=n.length;cases ty<;>simp only[CW]at hf<;>try(cases hf;done)
  rename_i t;simp only[AAv]at hf;exact⟨by simp[Value.cells,Ty.size,g,hf],λh=>absurd rfl (h l)⟩
 case tup l=>simp[CW]at hf
 all_goals
  have h1:ty.cell1=true:=by simp only[CW]at hf;first|exact hf|(simp only[An]at hf;exact hf.2)|exact absurd hf dg
  have j:v.oneCell'=true:=o h1;have m:v.cells=#[v]:=by cases v<;>first|rfl|simp[Value.oneCell']at j
  have hs:ty.size=1:=by cases ty<;>simp[Ty.cell1]at h1<;>rfl
  rw[m];exact⟨by simp[hs],λ_=>⟨v,rfl,j,i⟩⟩
end
end
section
open Go Go.RowKit
section
variable {P:Program} {tb:Tb} {id:TypeId} {ti:TI} {w:World} {O0:Nat->Prop} {σ:St} {ρ:Nat->Value} {vc:Prop} {v:AV} {obs:List (Nat×Obj)}
theorem YC {w:World} {base:Nat} {et:TypeId} {size:Nat} {g m c n:Nat} {cells:List Value} (h:w.ownsRow base et size (.slice (some ⟨g,0,none⟩) m c) n cells) :
  m=n/\∀(j:Nat) (u:Value),cells[j]?=some u->w.cell? ⟨g,j,none⟩=some u:=by
 constructor
 .rcases h.2 with ⟨a,_⟩|⟨e,cap,d,a,_⟩
  .injection a with h1;cases h1
  injection a
 intro j u b;have:=h.cells (g:=g) rfl j u b
 rwa [U7]at this
theorem eP {V:Vw} {ty:Ty} {v:AV} (e:CW ty v=true):∀ {o:List Nat} {st:Bool} {fs:List AV} {cs:List Value} {off:Nat},AVCs V fs cs->FE st fs o=some v->Jm fs o=some off ->
  off+ty.size<=cs.length/\∃es:List Value,es.length=ty.size/\es=(cs.drop off).take ty.size/\CD V v (ty.wrap es)
 | [],st,fs,cs,off,g,a,c=>by
  simp only[Jm]at c;cases c;cases st with
  | true =>
   simp only[FE,ACk]at a;cases a;have y:=g.length;cases u:ty<;>rw[u]at e<;>simp only[CW]at e<;>try(cases e;done)
   rename_i t;simp only[AAv]at e;have n:cs.length=(Ty.agg t).size:=by simp only[Ty.size];omega
   exact⟨O1,cs,n,by rw[<-n];simp,cs,rfl,g⟩
  | false =>
   simp only[FE,ACT,AD1]at a;have hz:CT fs 0=0:=by cases fs<;>rfl
   obtain⟨h1,b⟩:=g.get a;rw[hz]at h1 b;obtain⟨h,j⟩:=l8 b e;have f:=b.length;exact⟨O1,_,h,by rw[<-h,f],j⟩
 | [k],st,fs,cs,off,g,a,c=>by
  cases st with
  | false=>simp[FE]at a
  | true =>
   simp only[FE,ACk]at a;obtain⟨h1,b⟩:=g.get a;obtain⟨h,j⟩:=l8 b e;have f:=b.length;have q:off=CT fs k:=by
    simp only[Jm,a]at c;cases v<;>simp only[MM,Jm,AD8,List.isEmpty_nil,ACk]at c<;>cases c<;>rfl
   subst q;exact⟨O1,_,h,by rw[<-h,f],j⟩
 | k :: z :: r,st,fs,cs,off,g,a,c=>by
  cases st with
  | false=>simp[FE]at a
  | true =>
   simp only[FE,ACk]at a;split at a
   .rename_i t d hk;simp only[No]at a;obtain⟨pv,s,rfl⟩:=a;simp only[Jm,hk,No]at c;obtain⟨x,m,rfl⟩:=c;obtain⟨h1,b⟩:=g.get hk;have b:B6 V.w V.O t _ d:=b;obtain⟨f,i⟩:=VH s m b;simp only[AV.cells]at h1 i;rw[aC _ _ _ _ _ f]at i;simp only[CW,Is]at e;subst e;have p:=i.length;exact⟨O1,_,p,rfl,_,i,rfl⟩
   .rename_i l hk;simp only[Jm,hk,No]at c;obtain⟨x,m,rfl⟩:=c;obtain⟨h1,b⟩:=g.get hk;have b:AVCs V l _:=b;obtain⟨h,es,j,f,i⟩:=eP e b a (by simpa only[Jm] using m);simp only[On,AD5]at h;rw[aC _ _ _ _ _ O1]at f;exact⟨O1,es,j,f,i⟩
   cases a
theorem A0v (hT:EI P tb id ti) (J:∀n o,lk n σ.objs=some o->BI (vw w O0 σ ρ) o (ρ n)) {x:AV} {xv:Value}
  (h:KC σ (some ti) (some x)=some (vc,v,obs)) (N:CD (vw w O0 σ ρ) x xv):obs=[]/\∃u,(Instr.loadAt id xv).run P w=.ok u w/\CD (vw w O0 σ ρ) v u:=by
 unfold KC at h;split at h
 .rename_i n Q off D E;cases D;cases E;obtain⟨S,b,q,rfl⟩:=N;cases hn:lk n σ.objs with
  | none=>rw[hn]at h;simp[Ea]at h
  | some o =>
   rw[hn]at h;cases o with
   | arr et e xs=>simp[Ea]at h
   | mapo k v l=>simp[Ea]at h
   | frame aw fs=>simp[Ea]at h
   | loop L=>simp[Ea]at h
   | itr aq av ar au ao=>simp[Ea]at h
   | dfr=>simp[Ea]at h
   | sit sb sp=>simp[Ea]at h
   | nest et ap k e xs A=>simp[Ea]at h
   | box et st fs =>
    simp only[Ea]at h;cases A:FE st fs Q with
    | none=>rw[A]at h;simp[JE]at h
    | some y =>
     rw[A]at h;simp only[JE]at h;split at h
     .rename_i t;obtain⟨ah,K⟩:=t;cases h;obtain⟨bd,ax,cs,f,ai,ab⟩:=J n _ hn;have q:ρ n=_:=q;rw[q]at f;injection f with f
      injection f with f
      injection f with f
      subst f;have C:∀(es:List Value) (o:Nat),es=(cs.drop o).take es.length->∀(j:Nat) (u:Value),es[j]?=some u->w.cell? ((⟨b,o,none⟩:Addr).add j)=some u:=by
       intro es o U j u a;rw[KB,cell_of_row w b (o+j) cs.toArray et (0,0) ai];rw[U,AAA,ACh]at a;split at a
       .simpa using a
       cases a
      refine⟨rfl,?_⟩;obtain⟨bb,es,z,G,H⟩:=eP ah ab A K;have:=Gi w hT z (C es off (by rw[z];exact G));exact⟨_,this,H⟩
     cases h
 .rename_i n e i Q off D E;cases D;cases E;obtain⟨S,g,m,c,q,al,rfl⟩:=N;cases hn:lk n σ.objs with
  | none=>rw[hn]at h;simp[Eb]at h
  | some o =>
   rw[hn]at h;cases o with
   | box et st fs=>simp[Eb]at h
   | mapo k v l=>simp[Eb]at h
   | frame aw fs=>simp[Eb]at h
   | loop L=>simp[Eb]at h
   | itr aq av ar au ao=>simp[Eb]at h
   | dfr=>simp[Eb]at h
   | sit sb sp=>simp[Eb]at h
   | nest et ap k r xs A =>
    cases A with
    | some j=>simp[Eb]at h
    | none =>
     simp only[Eb]at h;split at h
     .rename_i ae;subst ae;obtain⟨o,ins,cells,f,I⟩:=J n _ hn;have q:plc (ρ n)=_:=q;have am:plc (ρ n)=o:=f.plc;have s:=I.own;rw[<-am,q]at s;obtain⟨rfl,C⟩:=YC s;have O:xs[i]?=some (xs.getD i (k.dflt,[])):=by grind
      have F:i<ins.length:=by rw[I.len];exact al
      obtain⟨c1,v1,T,X,z⟩:=I.row i _ ins[i] O (AT F);rcases z with ⟨z,_⟩|⟨_,Y,H⟩
      .cases z
      have V:c1.length=k.size:=X.length;unfold Ot at h;split at h
      .split at h
       .rename_i B;obtain⟨p,rfl⟩:=B;cases h;have:=Gi (ad:=⟨g,i*(Ty.agg (.prod k (.slice r))).size+0,none⟩) w hT (by rw[p];exact V) (λj u a=>by
         rw[KB];refine C _ _ (T j u ?_);rw[AAr (aT.1 a).1];exact a)
        rw[p]at this;exact⟨rfl,_,this,c1,X,rfl⟩
       cases h
      .split at h
       .rename_i B;obtain⟨p,rfl⟩:=B;cases h;have:=Gi (ad:=⟨g,i*(Ty.agg (.prod k (.slice r))).size+k.size,none⟩) (cs:=[v1]) w hT (by rw[p];rfl) (λj u a=>by
         have aj:j=0:=by have:=(aT.1 a).1;simpa using this
         subst aj;rw[KB];refine C _ _ (T k.size u ?_);rw[AAd O1,V,AD9];exact a)
        rw[p]at this;obtain⟨Z,aa,an⟩:=A0o Y H;exact⟨rfl,_,this,S,_,Z,aa,ins[i],f.resolve_right (λh=>by rw[h.2.2]at F;simp at F),by simp[F],Y,an⟩
       cases h
      cases h
     cases h
   | arr et r xs =>
    simp only[Eb]at h;cases t:Bh (.slice e) ⟨.slice r,xs⟩ with
    | none=>rw[t]at h;simp[JG]at h
    | some ys =>
     obtain⟨rfl,G⟩:=B3 t;cases G;rw[t]at h;simp only[JG]at h;cases M:T7 Q r (xs.getD i r.dflt) with
     | none=>rw[M]at h;simp[JF]at h
     | some pv =>
      rw[M]at h;simp only[JF]at h;split at h
      .rename_i B;obtain⟨p,K⟩:=B;cases h;obtain⟨bc,cells,s,af⟩:=J n _ hn;have q:plc (ρ n)=_:=q;have s:w.ownsRow 0 et r.size (ρ n) xs.length cells:=s;rw[Hu s]at q;rw[q]at s;obtain⟨rfl,C⟩:=YC s;have O:xs[i]?=some (xs.getD i r.dflt):=by grind
       obtain⟨es,U,ba,ag⟩:=af i _ O;obtain⟨ay,R⟩:=VH M K ag;have ak:=R.length;have:=Gi (ad:=⟨g,i*r.size+off,none⟩) w hT (by rw[p];exact ak) (λj u a=>by
        rw[KB,AEj];rw[AAA,ACh]at a;split at a
        .grind
        cases a)
       rw[p]at this;exact⟨rfl,_,this,_,R,rfl⟩
      cases h
 .rename_i u d D E;cases D;cases E;obtain⟨ad,cs,rfl,az,t,W⟩:=N;split at h
  .rename_i p;cases h;have:=Gi w hT (by rw[p];exact W.length) t;rw[p]at this;exact⟨rfl,_,this,cs,W,rfl⟩
  cases h
 cases h
end
end
section
open Go Go.RowKit
section
variable {P:Program} {tb:Tb} {id:TypeId} {ti:TI} {w:World} {V:Vw} {vc:Prop} {v:AV} {obs:List (Nat×Obj)}
theorem l9 {α:Type} {l:List α} {k:Nat} {x:α} (h:l[k]?=some x):x∈l:=AC5 h
theorem eQ (hT:EI P tb id ti) {u:Ty} (p:ti.ty=.agg u) (d:ti.el=0) {f k s:Nat} (hf:ti.offs[f]?=some (k,s)) (ad:Addr) (w:World) :
  (Instr.fieldAt id (.pointer (some ad)) f).run P w=.ok (.pointer (some (ad.add k))) w:=by
 obtain⟨⟨⟨m,_⟩,_⟩,a⟩:=hT;rw[p]at a;simp only at a;rcases a with ⟨fs,_,hu,o⟩|⟨n,e,i,l,_⟩
 .have b:(ti.offs.map some)[f]?=some (some (k,s)):=by simp[hf]
  rw[o]at b;simp only[ABL,No]at b;obtain⟨fl,h,g⟩:=b;obtain⟨i,hi,c⟩:=g;cases c;have j:fs[f]?=some fl:=by simpa using h
  have hs:i.size≠0:=m _ (l9 hf);simp[Instr.fieldAt,iS hu,j,Instr.sureAddr,fieldPlace,sizeOf,MY w hi,hs]
 exact absurd d l
theorem eU (hT:EI P tb id ti) {u:Ty} (h:ti.ty=.agg u) (c:ti.el≠0) {k s:Nat} {kd:IntKind} (hz:0<=z) (hf:ti.offs[z.toNat]?=some (k,s)) (ad:Addr) (w:World) :
  (Instr.indexAt id (.pointer (some ad)) (.int kd z)).run P w=.ok (.pointer (some (ad.add k))) w:=by
 obtain⟨_,a⟩:=hT;rw[h]at a;simp only at a;rcases a with ⟨fs,h0,_⟩|⟨n,e,i,_,hu,hi,g⟩
 .exact absurd h0 c
 rw[g]at hf;simp only[ABL,No]at hf;obtain⟨j,d,b⟩:=hf;cases b;obtain⟨h1,a⟩:=aT.1 d;simp only[AE8]at h1;simp only[ADZ]at a;subst a;have f:z<(n:Int):=by omega
 simp[Instr.indexAt,asIntOf,iS hu,Instr.sureAddr,sizeOf,MY w hi,hz,f]
theorem A0w {f:Nat} {o:Option (Nat×Nat)} {x:AV} {xv:Value} {run:Value->Result Value} (y:∀k s ad,o=some (k,s)->run (.pointer (some ad))=.ok (.pointer (some (ad.add k))) w)
  (h:P0 f o x=some (vc,v,obs)) (z:CD V x xv):obs=[]/\∃u,run xv=.ok u w/\CD V v u:=by
 unfold P0 at h;split at h
 .rename_i n G off;obtain⟨q,b,A,rfl⟩:=z;cases o with
  | none=>simp[VB]at h
  | some p =>
   obtain⟨k,s⟩:=p;simp only[VB]at h;cases h;exact⟨rfl,_,y k s _ rfl,q,b,A,by rw[KB]⟩
 .rename_i n e i G off;obtain⟨q,g,m,c,A,F,rfl⟩:=z;cases o with
  | none=>simp[VB]at h
  | some p =>
   obtain⟨k,s⟩:=p;simp only[VB]at h;cases h;exact⟨rfl,_,y k s _ rfl,q,g,m,c,A,F,by rw[KB,AEj]⟩
 .rename_i u d;obtain⟨ad,cs,rfl,D,E,t⟩:=z;cases r:HX u f d with
  | none=>rw[r]at h;simp[JH]at h
  | some pv =>
   rw[r]at h;simp only[JH]at h;split at h
   .rename_i l;cases h;have t:B6 V.w V.O u cs d:=t;obtain⟨h1,I,B,H,C⟩:=QA r t;rw[B]at l;cases o with
    | none=>simp at l
    | some p =>
     obtain⟨k,s⟩:=p;simp only[AD8,ACR]at l;subst l;refine⟨rfl,_,y k s _ rfl,ad.add k,_,rfl,by rw[CF];exact D,λj u a=>?_,C⟩;rw[C6];rw[AAA,ACh]at a;split at a
     .exact E _ _ a
     cases a
   cases h
 cases h
theorem A4O (hT:EI P tb id ti) {f:Nat} {x:AV} {xv:Value} (w:World)
  (h:HY f (some ti) (some x)=some (vc,v,obs)) (e:CD V x xv):obs=[]/\∃u,(Instr.fieldAt id xv f).run P w=.ok u w/\CD V v u:=by
 unfold HY at h;split at h
 .rename_i u offs b g a c;cases a;cases c;exact A0w (run:=λxv=>(Instr.fieldAt id xv f).run P w) (λk s ad d=>eQ hT rfl rfl d ad w) h e
 cases h
theorem TF {e:TypeId} (hu:P.underlying id=some (.slice e)) {size:Nat} (hs:(sizeOf e).run P w=.ok size w) (a:Addr) (n c:Nat) (k:IntKind) (i:Int) (h0:0<=i) (h1:i<n) :
  (Instr.indexAt id (.slice (some a) n c) (.int k i)).run P w=.ok (.pointer (some (a.add (i.toNat*size)))) w:=by
 simp[Instr.indexAt,asIntOf,iS hu,h0,h1,hs]
theorem ACn {el:TypeId} (hu:P.underlying id=some (.slice el)) (hs:(sizeOf el).run P V.w=.ok e.size V.w) {l:List e.den} {kd:IntKind} {k:Int} {xv:Value}
  (q:Bg V.w V.O (.slice e) xv l) (m:0<=k) (n:k<(l.length:Int)) :
  ∃u,(Instr.indexAt id xv (.int kd k)).run P V.w=.ok u V.w/\CD V (.ip e (l.getD k.toNat e.dflt)) u:=by
 obtain⟨cs,g,rfl⟩:=q;obtain⟨a,c,rfl,h1,s,b⟩:=g;have o:k.toNat<l.length:=by omega
 rcases b with b|⟨ad,rfl,d,h⟩
 .subst b;simp at o
 refine⟨_,TF hu hs _ _ _ _ _ m n,?_⟩;have r:l[k.toNat]?=some (l.getD k.toNat e.dflt):=by grind
 obtain⟨es,t,f,p⟩:=h _ _ r;exact⟨_,es,rfl,by rw[CF];exact d,λj u i=>by rw[C6];exact f j u i,p⟩
theorem ACo {el:TypeId} (hu:P.underlying id=some (.slice el)) (hs:(sizeOf el).run P V.w=.ok e.size V.w) {n lo hi:Nat} {kd:IntKind} {k:Int} {xv:Value}
  (s:CD V (.sr n e lo hi) xv) (h:∀n,V.L n->∃o,BI V o (V.ρ n)) (j:0<=k) (l:k<((hi-lo:Nat):Int)) :
  ∃u,(Instr.indexAt id xv (.int kd k)).run P V.w=.ok u V.w/\CD V (.ep n e (lo+k.toNat) [] 0) u:=by
 obtain⟨b,a,m,c,f,A,z,t,v,rfl,y,h0,h1⟩:=s;have p:lo<hi:=by omega
 have i:=h1 p;obtain⟨o,q⟩:=h n b;obtain⟨g,rfl⟩:∃g,a=some ⟨g,0,none⟩:=by
  obtain⟨_,_,cells,r,_⟩:=YA q f;rcases r.2 with ⟨d,hn⟩|⟨g,cap,x,d,_⟩
  .injection d;omega
  grind
 subst i;refine⟨_,TF hu hs _ _ _ _ _ j l,b,g,m,c,f,O1,?_⟩;rw[C6,U7,AE6];rfl
theorem Bb {O:Nat->Prop} {w:World} {kd:IntKind} {k:Int} {v:Value} (h:Bg w O (.int kd) v k):v=.int kd k/\I6 kd k:=by
 obtain⟨cs,⟨rfl,h1⟩,rfl⟩:=h;exact⟨rfl,h1⟩
theorem Be {O:Nat->Prop} {w:World} {kd:IntKind} {k:Int} (h:I6 kd k):Bg w O (.int kd) (.int kd k) k:=⟨_,⟨rfl,h⟩,rfl⟩
theorem EX {O:Nat->Prop} {w:World} {b:Bool} {v:Value} (h:Bg w O .bool v b):v=.bool b:=by
 obtain⟨cs,h1,rfl⟩:=h;have h1:cs=_:=h1;subst h1;rfl
theorem Bx {O:Nat->Prop} {w:World} (b:Bool):Bg w O .bool (.bool b) b:=⟨[.bool b],rfl,rfl⟩
theorem HC {O:Nat->Prop} {w:World} {v:Value} (h:Bg w O .str v s):v=.string s/\s.size<=AP:=by
 obtain⟨cs,⟨rfl,h1⟩,rfl⟩:=h;exact⟨rfl,h1⟩
theorem VJ {O:Nat->Prop} {w:World} (h:s.size<=AP):Bg w O .str (.string s) s:=⟨_,⟨rfl,h⟩,rfl⟩
theorem Cm {offs:List (Nat×Nat)} {el:TypeId} {bytes:Nat} (hT:EI P tb id ⟨.slice e,offs,el,bytes⟩) (b:DI P tb) :
  P.underlying id=some (.slice el)/\(∀w,(sizeOf el).run P w=.ok e.size w)/\∃te,lk el tb.ty=some te/\te.ty=e:=by
 obtain⟨_,hu,te,a,rfl⟩:=hT;exact⟨hu,λw=>IK w (b _ _ a),te,a,rfl⟩
theorem A4P (hT:EI P tb id ti) (m:DI P tb) {x y:AV} {xv p:Value}
  (h:F9 (some ti) (some x) (some y)=some (vc,v,obs)) (f:vc) (i:CD V x xv) (j:CD V y p) (r:∀n,V.L n->∃o,BI V o (V.ρ n)) :
  obs=[]/\∃u,(Instr.indexAt id xv p).run P V.w=.ok u V.w/\CD V v u:=by
 unfold F9 at h;split at h
 .rename_i e offs el bytes q l kd k a c d;cases a;cases c;cases d;split at h
  .rename_i g;subst g;cases h;obtain⟨hu,hs,_⟩:=Cm hT m;obtain⟨rfl,_⟩:=Bb j;exact⟨rfl,ACn hu (hs _) i f.1 f.2⟩
  cases h
 .rename_i e offs el bytes n q lo hi kd k a c d;cases a;cases c;cases d;split at h
  .rename_i g;subst g;cases h;obtain⟨hu,hs,_⟩:=Cm hT m;obtain⟨rfl,_⟩:=Bb j;exact⟨rfl,ACo hu (hs _) i r f.1 f.2⟩
  cases h
 .rename_i u offs el b A B a c d;cases a;cases c;cases d;unfold Ku at h;split at h
  .rename_i kd k;split at h
   .rename_i hk;obtain⟨rfl,_⟩:=Bb j;exact A0w (run:=λxv=>(Instr.indexAt id xv (.int kd k)).run P V.w) (λz s ad t=>eU hT rfl sc hk t ad V.w) h i
   cases h
  cases h
 cases h
theorem K7 {n:Int} (h:I6 k n):k.wrap n=n:=by
 obtain⟨h1,a⟩:=h;cases k<;>simp[IntKind.min,IntKind.max,IntKind.signed,IntKind.bits]at h1 a<;>simp[IntKind.wrap,IntKind.signed,IntKind.bits]<;>omega
theorem Nf (k:IntKind) (n:Int):I6 k (k.wrap n):=by
 cases k<;>simp only[I6,IntKind.min,IntKind.max,IntKind.wrap,IntKind.signed,IntKind.bits]<;>simp<;>omega
theorem A8C {op:BinOp} {t:TypeId} {e:IntKind} {a b:Int} (w:World) (c:(bin op k a e b).1) (ha:I6 k a) :
  ∃u,(binOp op t (.int k a) (.int e b)).run P w=.ok u w/\CD V (bin op k a e b).2 u:=by
 unfold bin at c ⊢;split at c
 .have d:¬b<0:=by have h:0<=b:=c;omega
  exact⟨_,by simp[binOp,Op.shift,d];rfl,Be (Nf _ _)⟩
 .have d:¬b<0:=by have h:0<=b:=c.1;omega
  exact⟨_,by simp[binOp,Op.shift,d];rfl,Be c.2⟩
 split at c
 .rename_i f g hk;subst hk;cases op<;>simp only[lZ]at c ⊢;case add=>exact⟨.int k (a+b),by simp[binOp,Op.intArith,K7 c],Be c⟩
  case sub=>exact⟨.int k (a-b),by simp[binOp,Op.intArith,K7 c],Be c⟩
  case mul=>exact⟨.int k (a*b),by simp[binOp,Op.intArith,K7 c],Be c⟩
  case quo=>exact⟨.int k (a.tdiv b),by simp[binOp,Op.intDiv,c.1,K7 c.2],Be c.2⟩
  case rem=>exact⟨.int k (a.tmod b),by simp[binOp,Op.intDiv,c.1],Be c.2⟩
  case and=>exact⟨.int k (C2 .and k a b),by simp only[binOp,ne_eq,ADL,AD1,Op.intBits];rfl,Be (Nf _ _)⟩
  case or=>exact⟨.int k (C2 .or k a b),by simp only[binOp,ne_eq,ADL,AD1,Op.intBits];rfl,Be (Nf _ _)⟩
  case xor=>exact⟨.int k (C2 .xor k a b),by simp only[binOp,ne_eq,ADL,AD1,Op.intBits];rfl,Be (Nf _ _)⟩
  case andNot=>exact⟨.int k (C2 .andNot k a b),by simp only[binOp,ne_eq,ADL,AD1,Op.intBits];rfl,Be (Nf _ _)⟩
  case eql=>exact⟨.bool (a==b),by simp[binOp,Op.intCmp],Bx _⟩
  case neq=>exact⟨.bool (a != b),by simp[binOp,Op.intCmp],Bx _⟩
  case lss=>exact⟨.bool (decide (a<b)),by simp[binOp,Op.intCmp],Bx _⟩
  case leq=>exact⟨.bool (decide (a<=b)),by simp[binOp,Op.intCmp],Bx _⟩
  case gtr=>exact⟨.bool (decide (b<a)),by simp[binOp,Op.intCmp],Bx _⟩
  case geq=>exact⟨.bool (decide (b<=a)),by simp[binOp,Op.intCmp],Bx _⟩
 exact c.elim
theorem A4Q {op:BinOp} {t:TypeId} {a b:ByteArray} (w:World) (c:(Xn a b op).1) :
  ∃u,(binOp op t (.string a) (.string b)).run P w=.ok u w/\CD V (Xn a b op).2 u:=by
 cases op<;>simp only[Xn]at c ⊢;case add =>
  have d:AP=140737488355328:=rfl;have hh:¬(((a.size+b.size:Nat):Int) > IntKind.i64.max):=by
   have:IntKind.i64.max=9223372036854775807:=by decide
   omega
  exact⟨.string (a++b),by simp only[binOp,Op.stringOp,As hh];rfl,VJ (by simpa[ADs] using c)⟩
 case eql=>exact⟨.bool (AK a b),by simp only[binOp,Op.stringOp];rfl,Bx _⟩
 case neq=>exact⟨.bool (!AK a b),by simp only[binOp,Op.stringOp];rfl,Bx _⟩
 case lss=>exact⟨.bool (CP a b),by simp only[binOp,Op.stringOp];rfl,Bx _⟩
 case leq=>exact⟨.bool (CP a b||AK a b),by simp only[binOp,Op.stringOp];rfl,Bx _⟩
 case gtr=>exact⟨.bool (!(CP a b||AK a b)),by simp only[binOp,Op.stringOp];rfl,Bx _⟩
 case geq=>exact⟨.bool (!CP a b),by simp only[binOp,Op.stringOp];rfl,Bx _⟩
 all_goals exact c.elim
theorem AAD {op:BinOp} {t:TypeId} {ti:Option TI} (n:TA ti=true->P.underlying t=some .bool) {x y:AV} {xv l:Value} (w:World)
  (h:Rr op ti (some x) (some y)=some (vc,v,obs)) (m:vc) (i:CD V x xv) (j:CD V y l) :
  obs=[]/\(∀e f,(eqGuard op t e f xv l).run P w=.ok () w)/\∃u,(binOp op t xv l).run P w=.ok u w/\CD V v u:=by
 unfold Rr at h;split at h
 .rename_i k a o b c d;cases c;cases d;cases h;obtain⟨rfl,ha⟩:=Bb i;obtain⟨rfl,_⟩:=Bb j;refine⟨rfl,λe f=>?_,A8C w m ha⟩;cases op<;>simp[eqGuard]
 .rename_i a b c d;cases c;cases d;cases h;obtain⟨rfl,ha⟩:=HC i;obtain⟨rfl,_⟩:=HC j;refine⟨rfl,λe f=>?_,A4Q w m⟩;cases op<;>simp[eqGuard]
 .rename_i a b c d;cases c;cases d;have ha:=EX i;have g:=EX j;subst ha g;split at h
  .rename_i g;have hu:=n g;cases op<;>simp only[l7]at h<;>cases h
   .exact⟨rfl,λe f=>by simp[eqGuard],.bool (a==b),by simp[binOp,run_equal_bool w t a b hu],Bx _⟩
   exact⟨rfl,λe f=>by simp[eqGuard],.bool (a != b),by simp[binOp,run_equal_bool w t a b hu,bne],Bx _⟩
  cases h
 cases h
theorem ACp {op:UnOp} {x:AV} {xv:Value} (w:World) (h:qUn op (some x)=some (vc,v,obs)) (c:vc) (e:CD V x xv) :
  obs=[]/\∃u,(Op.unary op xv).run P w=.ok u w/\CD V v u:=by
 unfold qUn at h;split at h
 .rename_i b d;cases d;cases h;have:=EX e;subst this;exact⟨rfl,.bool (!b),by simp[Op.unary],Bx _⟩
 .rename_i k a d;cases d;cases h;obtain⟨rfl,ha⟩:=Bb e;have c:I6 k (0-a):=c;exact⟨rfl,_,by simp only[Op.unary,Op.intArith,K7 c];rfl,Be c⟩
 cases h
end
end
section
open Go Go.RowKit
section
variable {P:Program} {tb:Tb} {id:TypeId} {ti:TI} {w:World} {V:Vw} {vc:Prop} {v:AV} {obs:List (Nat×Obj)}
theorem mA (l:List Int):(TB l).size=l.length:=by
 show (TB l).data.size=l.length;unfold TB;simp
theorem A8D (G:DI P tb) (H:V.w=w) {s t:TypeId} {B ti:TI} (hs:EI P tb s B) (y:EI P tb t ti) {x:AV} {xv:Value} (h:KD (some B) (some ti) (some x)=some (vc,v,obs)) (i:vc) (A:CD V x xv) :
  obs=[]/\∃u,(convert s t xv).run P w=.ok u w/\CD V v u:=by
 unfold KD at h;split at h
 .rename_i T U m b1 k W D b2 aa a n o p;cases n;cases o;cases p;cases h;obtain⟨rfl,ha⟩:=Bb A;have i:I6 k a:=i;have f:P.underlying s=some (.int T):=hs.2;have g:P.underlying t=some (.int k):=y.2;refine⟨rfl,.int k a,?_,Be i⟩;simp[convert,iS f,iS g,Conv.intToInt,K7 i]
 .rename_i U m b1 W D b2 l n o p;cases n;cases o;cases p;cases h;obtain⟨f,te,O,Q⟩:=hs.2;have g:P.underlying t=some .string:=y.2;have z:P.underlying m=some (.int .u8):=by
   have:=(G _ _ O).2;rw[Q]at this;exact this
  obtain⟨cs,⟨a,c,rfl,h1,E,d⟩,rfl⟩:=A;have N:(TB l).size<=AP:=by rw[mA];exact E
  refine⟨rfl,.string (TB l),?_,⟨[.string (TB l)],⟨rfl,N⟩,rfl⟩⟩;have L:a=none->l=[]:=λe=>by grind
  cases a with
  | none =>
   have:=L rfl;subst this;show (convert s t (.slice none 0 c)).run P w=_;have C:TB []=ByteArray.empty:=rfl;rw[C];simp[convert,iS f,iS g,iS z,Conv.bytesToString]
  | some ad =>
   have r:=run_convert_bytes_back (P:=P) w s t m ad c (l.map λx=>UInt8.ofNat x.toNat) f z g λj q=>by
    have b:j<List.length l:=by rw[OR]at q;exact q
    rcases d with d|⟨X,d,Y,F⟩
    .rw[d]at b;cases b
    cases d;obtain⟨es,-,J,M⟩:=F j l[j] (AT b);obtain⟨rfl,K⟩:=M;have I:=J 0 (.int .u8 l[j]) rfl;rw[H]at I;obtain⟨R,S⟩:(0:Int)<=(l:List Int)[j]'b/\(l:List Int)[j]'b<=255:=by
     simpa[I6,IntKind.min,IntKind.max,IntKind.signed,IntKind.bits] using K
    have e:(((List.map (λx:Int=>UInt8.ofNat x.toNat) l)[j]'q).toNat:Int)=l[j]:=by
     rw[ADe,UInt8.toNat_ofNat'];have Z:((l:List Int)[j]'b).toNat % 2 ^ 8=((l:List Int)[j]'b).toNat:=Nat.mod_eq_of_lt ((AEx R).2 (AEy S dg));grind
    grind [Ty.size]
   rw[OR]at r;exact r
 cases h
theorem AAE (r:∀n,V.L n->∃o,BI V o (V.ρ n)) {x:AV} {xv:Value} {t ty:TypeId} (hT:EI P tb t ti) (w:World) (h:UB (some ti) (some x)=some (vc,v,obs)) (g:CD V x xv) :
  obs=[]/\∃u,(Builtin.len_ #[t] ty #[xv]).run P w=.ok u w/\CD V v u:=by
 have j:∀n:Nat,n<=AP->I6 .i64 (n:Int):=λn hn=>by
  simp[I6,IntKind.min,IntKind.max,IntKind.signed,IntKind.bits];simp[AP]at hn;omega
 unfold UB at h;split at h
 .rename_i e o el b q l d f;cases d;cases f;cases h;obtain⟨cs,⟨a,c,rfl,h1,y,_⟩,rfl⟩:=g;have hu:=hT.2.1;exact⟨rfl,.int .i64 (List.length l:Int),by simp[Builtin.len_,iS hu,goInt,Ty.wrap],Be (j _ y)⟩
 .rename_i e o el b n q lo hi d f;cases d;cases f;cases h;obtain⟨k,a,m,c,C,I,H,E,F,rfl,G,h0,h1⟩:=g;have hu:=hT.2.1;obtain⟨D,p⟩:=r n k;obtain⟨_,_,_,_,this⟩:=YA p C;exact⟨rfl,.int .i64 ((hi-lo:Nat):Int),by simp[Builtin.len_,iS hu,goInt],Be (j _ O1)⟩
 .rename_i e o el b n q i len d f;cases d;cases f;cases h;obtain⟨k,K,a,c,J,B,A,z,rfl⟩:=g;have hu:=hT.2.1;obtain⟨D,p⟩:=r n k;have:=A4I p B A z rfl;exact⟨rfl,.int .i64 (len:Int),by simp[Builtin.len_,iS hu,goInt],Be (j _ this)⟩
 .rename_i e o el b d f;cases d;cases f;cases h;have g:xv=_:=g;subst g;have hu:=hT.2.1;exact⟨rfl,.int .i64 0,by simp[Builtin.len_,iS hu,goInt],Be (j 0 sc)⟩
 .rename_i o el b s d f;cases d;cases f;cases h;obtain⟨rfl,h1⟩:=HC g;have hu:P.underlying t=some .string:=hT.2;exact⟨rfl,.int .i64 (s.size:Int),by simp[Builtin.len_,iS hu,goInt],Be (j _ h1)⟩
 cases h
theorem wV {i:Nat} {x:AV} {xv:Value} (w:World) (h:Em i (some x)=some (vc,v,obs)) (g:CD V x xv) :
  obs=[]/\∃u,(Instr.extract xv i).run P w=.ok u w/\CD V v u:=by
 have get:∀(l:List AV) (a:List Value) (i:Nat) (y:AV),II V l a->l[i]?=some y->∃u,a[i]?=some u/\CD V y u:=by
  intro l;induction l with
  | nil=>intro a i y _ h;simp at h
  | cons z r j =>
   intro a i y c h;obtain⟨u,k,rfl,h1,d⟩:=c;cases i with
   | zero =>
    simp at h;subst h;exact⟨u,rfl,A0n h1⟩
   | succ i=>exact j k i y d (by simpa using h)
 unfold Em at h;split at h
 .rename_i l e;cases e;obtain⟨a,rfl,c⟩:=g;cases b:l[i]? with
  | none=>rw[b]at h;simp[HB]at h
  | some y =>
   rw[b]at h;simp only[HB]at h;cases h;obtain⟨u,hu,f⟩:=get l a i _ c b;exact⟨rfl,u,by simp[Instr.extract,hu],f⟩
 cases h
theorem AAF {x y:AV} {xv:Value} {ts:Array TypeId} {ty:TypeId} (w:World) (h:Rs (some x) (some y)=some (vc,v,obs)) (g:CD V x xv) (i:CD V y d) :
  obs=[]/\∃u,(Builtin.min_ ts ty #[xv,d]).run P w=.ok u w/\CD V v u:=by
 unfold Rs at h;split at h
 .rename_i k a j b e f;cases e;cases f;split at h
  .rename_i hk;subst hk;cases h;obtain⟨rfl,ha⟩:=Bb g;obtain⟨rfl,c⟩:=Bb i;have ha:I6 k a:=ha;have c:I6 k b:=c;refine⟨rfl,.int k (if (b:Int)<a then b else a),by simp[Builtin.min_,Builtin.min2],Be ?_⟩;split
   .exact c
   exact ha
  cases h
 cases h
theorem A8E {x y z:AV} {xv f g:Value} {ts:Array TypeId} {ty:TypeId} (w:World) (h:JK (some x) (some y) (some z)=some (vc,v,obs)) (o:CD V x xv) (p:CD V y f) (hz:CD V z g) :
  obs=[]/\∃u,(Builtin.min_ ts ty #[xv,f,g]).run P w=.ok u w/\CD V v u:=by
 unfold JK at h;split at h
 .rename_i k a r b s c i j l;cases i;cases j;cases l;split at h
  .rename_i hk;obtain⟨m,n⟩:=hk;subst m;subst n;cases h;obtain⟨rfl,ha⟩:=Bb o;obtain⟨rfl,d⟩:=Bb p;obtain⟨rfl,e⟩:=Bb hz;have ha:I6 k a:=ha;have d:I6 k b:=d;have e:I6 k c:=e;refine⟨rfl,.int k (if (c:Int)<(if (b:Int)<a then b else a) then c else (if (b:Int)<a then b else a)),by simp[Builtin.min_,Builtin.min2],Be ?_⟩;by_cases q:(b:Int)<a
   .grind
   grind
  cases h
 cases h
theorem AAG {x y:AV} {xv:Value} {ts:Array TypeId} {ty:TypeId} (w:World) (h:Ru (some x) (some y)=some (vc,v,obs)) (g:CD V x xv) (i:CD V y d) :
  obs=[]/\∃u,(Builtin.max_ ts ty #[xv,d]).run P w=.ok u w/\CD V v u:=by
 unfold Ru at h;split at h
 .rename_i k a j b e f;cases e;cases f;split at h
  .rename_i hk;subst hk;cases h;obtain⟨rfl,ha⟩:=Bb g;obtain⟨rfl,c⟩:=Bb i;have ha:I6 k a:=ha;have c:I6 k b:=c;refine⟨rfl,.int k (if (a:Int)<b then b else a),by simp[Builtin.max_,Builtin.max2],Be ?_⟩;split
   .exact c
   exact ha
  cases h
 cases h
theorem A8F {t:TypeId} (hu:P.underlying t=some .string) (w:World) {kd:IntKind} {k:Int} (h0:0<=k) (h1:k<(s.size:Int)) :
  (Instr.index t (.string s) (.int kd k)).run P w=.ok (.int .u8 ((s.data.getD k.toNat 0).toNat:Int)) w/\I6 .u8 ((s.data.getD k.toNat 0).toNat:Int):=by
 have a:k.toNat<s.size:=by omega
 have d:k.toNat<s.data.size:=a;have c:s[k.toNat]?=some (s.data.getD k.toNat 0):=by
  rw[getElem?_pos s k.toNat a];simp only[Array.getD,d,dite_true];rfl
 refine⟨by simp[Instr.index,asIntOf,iS hu,h0,c],?_⟩;generalize s.data.getD k.toNat 0=b;have:=b.toNat_lt;simp[I6,IntKind.min,IntKind.max,IntKind.signed,IntKind.bits];omega
theorem A0x {t:TypeId} {x y:AV} {xv c:Value} (hT:EI P tb t ti) (w:World) (h:Ee (some ti) (some x) (some y)=some (vc,v,obs)) (a:vc) (i:CD V x xv) (j:CD V y c) :
  obs=[]/\∃u,(Instr.index t xv c).run P w=.ok u w/\CD V v u:=by
 unfold Ee at h;split at h
 .rename_i o el b s kd k e f g;cases e;cases f;cases g;cases h;obtain⟨rfl,_⟩:=HC i;obtain⟨rfl,_⟩:=Bb j;have hu:P.underlying t=some .string:=hT.2;obtain⟨h1,d⟩:=A8F (P:=P) hu w (kd:=kd) a.1 a.2;exact⟨rfl,_,h1,Be d⟩
 cases h
theorem AAH {x:AV} {xv:Value} (h:VC (some x)=some (vc,v,obs)) (e:CD V x xv):obs=[]/\(∃ad,xv=.pointer (some ad))/\CD V v xv:=by
 unfold VC at h;split at h
 .rename_i a;cases a;cases h;obtain⟨d,b,f,rfl⟩:=e;exact⟨rfl,⟨_,rfl⟩,d,b,f,rfl⟩
 .rename_i a;cases a;cases h;obtain⟨ad,cs,rfl,r⟩:=e;exact⟨rfl,⟨_,rfl⟩,ad,cs,rfl,r⟩
 .rename_i a;cases a;cases h;obtain⟨d,g,m,c,f,i,rfl⟩:=e;exact⟨rfl,⟨_,rfl⟩,d,g,m,c,f,i,rfl⟩
 cases h
end
end
section
open Go Go.RowKit
section
variable {P:Program} {tb:Tb} {id:TypeId} {ti:TI} {V:Vw} {vc:Prop} {v:AV} {obs:List (Nat×Obj)}
def Fa (a:Option Addr) (c l sz:Nat):Option Addr:=if c=l then a else a.map (·.add (l*sz))
inductive qV:Option Value->Nat->Nat->Prop
 | none (d:Nat):qV none d d
 | some (k:IntKind) (z:Int) (d:Nat) (h:0<=z):qV (some (.int k z)) d z.toNat
theorem A0y {el:TypeId} (hu:P.underlying id=some (.slice el)) {sz:Nat} (w:World) (hs:(sizeOf el).run P w=.ok sz w) {n c l h:Nat} {lo:Option Value}
  (g:qV lo 0 l) (hh:qV C n h) (h1:l<=h) (j:h<=c) :
  (Instr.sliceAt id (.slice a n c) lo C none).run P w=.ok (.slice (Fa a c l sz) (h-l) (c-l)) w:=by
 cases g with
 | none =>
  cases hh with
  | none=>simp[Instr.sliceAt,iS hu,Instr.slice,Instr.sliceBounds,hs,Fa]
  | some k z _ hz =>
   have e:z<=(c:Int):=by omega
   simp[Instr.sliceAt,iS hu,Instr.slice,Instr.sliceBounds,Instr.sliceBound,asIntOf,hs,Fa,hz,e]
 | some k z _ hz =>
  cases hh with
  | none =>
   have e:z<=(n:Int):=by omega
   simp[Instr.sliceAt,iS hu,Instr.slice,Instr.sliceBounds,Instr.sliceBound,asIntOf,hs,Fa,hz,e]
  | some m b _ i =>
   have e:b<=(c:Int):=by omega
   have d:max b 0=b:=by omega
   have f:z<=b:=by omega
   simp[Instr.sliceAt,iS hu,Instr.slice,Instr.sliceBounds,Instr.sliceBound,asIntOf,hs,Fa,hz,i,e,d,f]
theorem A8G (hu:P.underlying id=some .string) (w:World) {l h:Nat} {lo:Option Value} (d:qV lo 0 l) (hh:qV C s.size h) (h1:l<=h) (g:h<=s.size) :
  (Instr.sliceAt id (.string s) lo C none).run P w=.ok (.string (s.extract l h)) w:=by
 cases d with
 | none =>
  cases hh with
  | none=>simp[Instr.sliceAt,iS hu,Instr.slice,Instr.sliceBounds]
  | some k z _ hz =>
   have e:z<=(s.size:Int):=by omega
   simp[Instr.sliceAt,iS hu,Instr.slice,Instr.sliceBounds,Instr.sliceBound,asIntOf,hz,e]
 | some k z _ hz =>
  cases hh with
  | none =>
   have e:z<=(s.size:Int):=by omega
   simp[Instr.sliceAt,iS hu,Instr.slice,Instr.sliceBounds,Instr.sliceBound,asIntOf,hz,e]
  | some i a _ f =>
   have e:a<=(s.size:Int):=by omega
   have b:max a 0=a:=by omega
   have c:z<=a:=by omega
   simp[Instr.sliceAt,iS hu,Instr.slice,Instr.sliceBounds,Instr.sliceBound,asIntOf,hz,f,e,b,c]
theorem A4R {xs:List e.den} {n c l h:Nat} (p:B6 V.w V.O (.slice e) [.slice a n c] xs) (h1:l<=h) (g:h<=xs.length) :
  Bg V.w V.O (.slice e) (.slice (Fa a c l e.size) (h-l) (c-l)) (sub xs l h)/\n=xs.length/\h<=c:=by
 obtain⟨q,r,f,s,t,b⟩:=p;injection f with f
 injection f with j k m
 subst j;subst k;subst m;have d:=Ow xs (lo:=l) g;refine⟨⟨_,⟨Fa a c l e.size,c-l,by rw[d],by rw[d];omega,by rw[d];omega,?_⟩,rfl⟩,rfl,O1⟩;by_cases v:l<h
 .right;rcases b with b|⟨ad,rfl,o,u⟩
  .subst b;simp at g;omega
  refine⟨ad.add (l*e.size),?_,by rw[CF];exact o,λi x hi=>?_⟩
  .grind [Fa]
  obtain⟨y,_⟩:=Z7 xs l h i hi;grind [C6]
 simp_all
theorem A0z {loc:Value} {sz b c0 l h:Nat} {n c:Nat} (s:Di loc sz b c0 (.slice a n c)) (h1:l<=h) (x:h<=c0-b) :
  Di loc sz (b+l) (b+h) (.slice (Fa a c l sz) (h-l) (c-l))/\n=c0-b/\h<=c:=by
 obtain⟨d,m,e,q,y,A,v,w,t,z,j,k⟩:=s;injection t with f g i
 subst f;subst g;subst i;refine⟨⟨d,m,e,q,O1,O1,Fa a c l sz,c-l,by rw[show b+h-(b+l)=h-l by omega],O1,λhz=>?_,λB=>?_⟩,rfl,O1⟩
 .have o:b=0:=by omega
  have p:l=0:=by omega
  subst o;subst p;obtain⟨u,C⟩:=j rfl;refine⟨?_,O1⟩;rw[<-u];unfold Fa;split
  .rfl
  simp only[AEO];cases a<;>rfl
 have:=k O1;subst this;have r:¬c=l:=by omega
 simp only[Fa,As r,Option.map_map]
 congr 1
 grind [C6]
theorem UC (s:ByteArray) (l h:Nat):(s.extract l h).size<=s.size:=by
 simp only[ByteArray.size_extract];omega
theorem VK (hT:EI P tb id ti) (k:DI P tb) (f:ti.ty=.slice e) {l:List e.den} {xv:Value} {lo:Option Value} {a h:Nat}
  (n:Bg V.w V.O (.slice e) xv l) (m:qV lo 0 a) (hh:qV C l.length h) (h1:a<=h) (g:h<=l.length) :
  ∃u,(Instr.sliceAt id xv lo C none).run P V.w=.ok u V.w/\CD V (.p (.slice e) (sub l a h)) u:=by
 obtain⟨ty,offs,el,bytes⟩:=ti;simp only at f;subst f;obtain⟨hu,hs,_⟩:=Cm hT k;obtain⟨cs,b,rfl⟩:=n;obtain⟨d,c,rfl,r⟩:=b;have b:B6 V.w V.O (.slice e) [.slice d l.length c] l:=⟨d,c,rfl,r⟩;obtain⟨i,_,j⟩:=A4R b h1 g;exact⟨_,A0y hu _ (hs _) m hh h1 j,i⟩
theorem VL (hT:EI P tb id ti) (k:DI P tb) {n b c0:Nat} (c:ti.ty=.slice e) {xv:Value} {lo:Option Value} {a h:Nat}
  (o:CD V (.sr n e b c0) xv) (l:qV lo 0 a) (hh:qV C (c0-b) h) (h1:a<=h) (f:h<=c0-b) :
  ∃u,(Instr.sliceAt id xv lo C none).run P V.w=.ok u V.w/\CD V (.sr n e (b+a) (b+h)) u:=by
 obtain⟨ty,offs,el,bytes⟩:=ti;simp only at c;subst c;obtain⟨hu,hs,_⟩:=Cm hT k;obtain⟨j,d⟩:=o;have m:=d;obtain⟨_,_,_,_,_,_,p,q,rfl,_⟩:=m;obtain⟨g,r,i⟩:=A0z d h1 f;exact⟨_,A0y hu _ (hs _) l hh h1 i,j,g⟩
theorem VM (hT:EI P tb id ti) (c:ti.ty=.str) {xv:Value} {lo:Option Value} {a h:Nat}
  (f:Bg V.w V.O .str xv s) (d:qV lo 0 a) (hh:qV C s.size h) (h1:a<=h) (b:h<=s.size) :
  ∃u,(Instr.sliceAt id xv lo C none).run P V.w=.ok u V.w/\CD V (.p .str (s.extract a h)) u:=by
 obtain⟨rfl,e⟩:=HC f;have hu:=hT.2;rw[c]at hu;exact⟨_,A8G hu _ d hh h1 b,VJ (iN (UC s a h) e)⟩
theorem Ju {n:Nat} (_h:0<=z) (a:z<=(n:Int)):z.toNat<=n:=by omega
theorem aD {a b:Int} (h:a<=b):a.toNat<=b.toNat:=by omega
def eX:Option AV->Option Value->Prop
 | none,none=>True
 | some x,some v=>CD V x v
 | _,_=>False
theorem A0A (hT:EI P tb id ti) (m:DI P tb) {x ha i:AV} {xv f g:Value} (h:D3 (some ti) (some x) (some ha) (some i)=some (vc,v,obs)) (B:vc) (C:CD V x xv) (hh:CD V ha f) (y:CD V i g) :
  obs=[]/\∃u,(Instr.sliceAt id xv none (some f) (some g)).run P V.w=.ok u V.w/\CD V v u:=by
 unfold D3 at h;split at h
 .rename_i e offs el bytes F l D a E b n o p q;cases n;cases o;cases p;cases q;split at h
  .rename_i r;subst r;cases h;obtain⟨hu,hs,_⟩:=Cm hT m;obtain⟨rfl,rfl⟩:=B;obtain⟨rfl,_⟩:=Bb (hh:Bg V.w V.O (.int D) f _);obtain⟨rfl,_⟩:=Bb (y:Bg V.w V.O (.int E) g _);obtain⟨cs,A,rfl⟩:=(C:Bg V.w V.O (.slice e) xv l);obtain⟨d,c,rfl,t,z,s⟩:=A;refine⟨rfl,.slice d (List.length l) (List.length l),?_,⟨_,⟨d,_,rfl,Of _,z,s⟩,rfl⟩,d,rfl⟩;have j:((List.length l:Nat):Int)<=(c:Int):=by omega
   have k:(0:Int)<=((List.length l:Nat):Int):=by omega
   simp[Ty.wrap,Instr.sliceAt,iS hu,Instr.slice,Instr.sliceBounds,Instr.sliceBound,asIntOf,hs V.w,j,k,Addr.add];intro G;exact absurd t O1
  cases h
 cases h
theorem A4S (hT:EI P tb id ti) (j:DI P tb) {x:AV} {xv:Value} {lo hi:Option AV} 
  (h:Fe (some ti) (some x) (some lo) (some hi)=some (vc,v,obs)) (a:vc) (c:CD V x xv) (g:eX (V:=V) lo D) (f:eX (V:=V) hi C) :
  obs=[]/\∃u,(Instr.sliceAt id xv D C none).run P V.w=.ok u V.w/\CD V v u:=by
 have i:∀ {o:Option Value} (d:Nat),eX (V:=V) none o->qV o d d:=λ{o} d h=>by
  cases o with
  | none=>exact .none d
  | some v=>exact h.elim
 have b1:∀ {o:Option Value} {k:IntKind} {z:Int} (d:Nat),eX (V:=V) (some (.p (.int k) z)) o->0<=z->qV o d z.toNat:=λ{o k z} d h hz=>by
  cases o with
  | none=>exact h.elim
  | some v =>
   obtain⟨rfl,_⟩:=Bb (h:Bg V.w V.O (.int k) v z);exact .some k z d hz
 unfold Fe at h;split at h
 .rename_i e offs el bytes E l B h0 q r t y;cases q;cases r;cases t;cases y;split at h
  .rename_i A;subst A;have c:Bg V.w V.O (.slice e) xv l:=c;unfold ID at h;split at h<;>first|(cases h;done)|(rename_i m;cases m<;>cases h)
   .exact⟨rfl,VK hT j rfl c (i 0 g) (b1 _ f a.1) (DO _) (Ju a.1 a.2)⟩
   .exact⟨rfl,VK hT j rfl c (b1 0 g a.1) (i _ f) (Ju a.1 a.2) (Of _)⟩
   exact⟨rfl,VK hT j rfl c (b1 0 g a.1) (b1 _ f (ADi a.1 a.2.1)) (aD a.2.1) (Ju (ADi a.1 a.2.1) a.2.2)⟩
  cases h
 .rename_i e offs el bytes n E b c0 B h0 q r t y;cases q;cases r;cases t;cases y;split at h
  .rename_i A;subst A;unfold ID at h;split at h<;>first|(cases h;done)|(rename_i m;cases m<;>cases h)
   .refine⟨rfl,?_⟩;have:=VL (P:=P) hT j rfl c (i 0 g) (b1 _ f a.1) (DO _) (Ju a.1 a.2);simpa using this
   .refine⟨rfl,?_⟩;have:=VL (P:=P) hT j rfl c (b1 0 g a.1) (i _ f) (Ju a.1 a.2) (Of _);have G:=Ju a.1 a.2;obtain⟨_,_,_,_,_,F,_⟩:=c;grind
   exact⟨rfl,VL hT j rfl c (b1 0 g a.1) (b1 _ f (ADi a.1 a.2.1)) (aD a.2.1) (Ju (ADi a.1 a.2.1) a.2.2)⟩
  cases h
 .rename_i offs el bytes s B h0 q r t y;cases q;cases r;cases t;cases y;have c:Bg V.w V.O .str xv s:=c;unfold ID at h;split at h<;>first|(cases h;done)|(rename_i m;cases m<;>cases h)
  .exact⟨rfl,VM hT rfl c (i 0 g) (b1 _ f a.1) (DO _) (Ju a.1 a.2)⟩
  .exact⟨rfl,VM hT rfl c (b1 0 g a.1) (i _ f) (Ju a.1 a.2) (Of _)⟩
  exact⟨rfl,VM hT rfl c (b1 0 g a.1) (b1 _ f (ADi a.1 a.2.1)) (aD a.2.1) (Ju (ADi a.1 a.2.1) a.2.2)⟩
 cases h
end
end
end Go.Proofs.YtddbnflakbngaaaGreatDoor.Fw
