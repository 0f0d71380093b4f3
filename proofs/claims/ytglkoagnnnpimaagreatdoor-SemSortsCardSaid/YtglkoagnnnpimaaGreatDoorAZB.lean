/- The executor's quiet operations are sound, first part. -/
import Derived.Test.YtglkoagnnnpimaaGreatDoorAZA
import Derived.Laws.IdiomStrings
set_option linter.unusedVariables false
set_option linter.unusedSimpArgs false
namespace Go.Proofs.YtglkoagnnnpimaaGreatDoor.Fw
variable {v d:Value} {D C:Option Value} {k:IntKind} {s:ByteArray} {b:List Value} {z:Int} {e:Ty} {Z:Type} {a:Option Addr} {Y:BinOp} {x:AV} {l:List AV}
section
open Go Go.RowKit
theorem Nh {w:World} {O:Nat->Prop}:∀ {t:Ty} {k:Nat} {d:t.den} {pv:PV} {cs:List Value},GX t k d=some pv->Bn w O t cs d ->
  Y3 t k=some pv.t/\∃o,J8 t k=some o/\o+pv.t.size<=t.size/\Bn w O pv.t ((cs.drop o).take pv.t.size) pv.d
 | .prod a b,0,d,pv,cs,h,c=>by
  simp only[GX]at h;cases h;obtain⟨c1,c2,rfl,h1,f⟩:=c;refine⟨rfl,0,rfl,by simp[Ty.size],?_⟩;have e:=h1.length;simp only[AAw,<-e,List.take_left];exact h1
 | .prod a b,k+1,d,pv,cs,h,c=>by
  simp only[GX]at h;obtain⟨c1,c2,rfl,h1,f⟩:=c;obtain⟨g,o,i,l,j⟩:=Nh h f;refine⟨g,a.size+o,by simp[J8,i],by simp[Ty.size];omega,?_⟩;have e:=h1.length;rw[<-e,<-ABA,List.drop_left];exact j
 | .int _,0,d,pv,cs,h,c=>by
  simp only[GX]at h;cases h;refine⟨rfl,0,rfl,by simp,?_⟩;have e:=c.length;simp only[AAw,<-e,oR];exact c
 | .bool,0,d,pv,cs,h,c=>by
  simp only[GX]at h;cases h;refine⟨rfl,0,rfl,by simp,?_⟩;have e:=c.length;simp only[AAw,<-e,oR];exact c
 | .str,0,d,pv,cs,h,c=>by
  simp only[GX]at h;cases h;refine⟨rfl,0,rfl,by simp,?_⟩;have e:=c.length;simp only[AAw,<-e,oR];exact c
 | .slice _,0,d,pv,cs,h,c=>by
  simp only[GX]at h;cases h;refine⟨rfl,0,rfl,by simp,?_⟩;have e:=c.length;simp only[AAw,<-e,oR];exact c
 | .ref _,0,d,pv,cs,h,c=>by
  simp only[GX]at h;cases h;refine⟨rfl,0,rfl,by simp,?_⟩;have e:=c.length;simp only[AAw,<-e,oR];exact c
 | .ref _,_+1,d,pv,cs,h,c=>by simp[GX]at h
 | .agg _,0,d,pv,cs,h,c=>by
  simp only[GX]at h;cases h;refine⟨rfl,0,rfl,by simp,?_⟩;have e:=c.length;simp only[AAw,<-e,oR];exact c
 | .int _,_+1,d,pv,cs,h,c=>by simp[GX]at h
 | .bool,_+1,d,pv,cs,h,c=>by simp[GX]at h
 | .str,_+1,d,pv,cs,h,c=>by simp[GX]at h
 | .slice _,_+1,d,pv,cs,h,c=>by simp[GX]at h
 | .agg _,_+1,d,pv,cs,h,c=>by simp[GX]at h
theorem Xc {α:Type} (cs:List α) (o m a n:Nat) (h:a+n<=m):(((cs.drop o).take m).drop a).take n=(cs.drop (o+a)).take n:=by
 rw[List.drop_take,ACk,ABA]
 congr 1
 omega
theorem SZ {w:World} {O:Nat->Prop}:∀ {f:List Nat} {t:Ty} {d:t.den} {pv:PV} {cs:List Value} {off:Nat},SN f t d=some pv->L4 f t=some off->Bn w O t cs d ->
  off+pv.t.size<=t.size/\Bn w O pv.t ((cs.drop off).take pv.t.size) pv.d
 | [],t,d,pv,cs,off,h,a,b=>by
  simp only[SN]at h;simp only[L4]at a;cases h;cases a;have e:=b.length;simp only[AAw,<-e,oR];exact⟨by simp[e],b⟩
 | k :: r,t,d,pv,cs,off,h,a,b=>by
  cases t<;>simp only[SN,L4]at h a<;>try(cases h;done)
  rename_i t;split at h
  .rename_i p m;have b:Bn w O t cs d:=b;obtain⟨h1,o,g,n,i⟩:=Nh m b;rw[h1,g]at a;simp only[Is]at a;obtain⟨q,l,rfl⟩:=a;obtain⟨j,c⟩:=SZ h l i;refine⟨by simp only[Ty.size];omega,?_⟩;rw[Xc _ _ _ _ _ j]at c;exact c
  cases h
def Ay {α:Type} (cs:List α) (o:Nat) (a:List α):List α:=cs.take o++a++cs.drop (o+a.length)
theorem Dm {α:Type} {cs:List α} {o:Nat} {a:List α} (h:o+a.length<=cs.length):(Ay cs o a).length=cs.length:=by
 simp[Ay];omega
theorem DY {α:Type} {cs a:List α} (h:a.length=cs.length):Ay cs 0 a=a:=by
 simp[Ay,h]
theorem Ni {α:Type} (a b:List α) (o:Nat) (c:List α):Ay (a++b) (a.length+o) c=a++Ay b o c:=by
 simp only[Ay,List.take_append,ACu,AA5];have h1:List.take (a.length+o) a=a:=By O1;have d:List.drop (a.length+o+c.length) a=[]:=ON O1;have e:a.length+o-a.length=o:=by omega
 have f:a.length+o+c.length-a.length=o+c.length:=by omega
 rw[h1,d,e,f];simp
theorem QP {α:Type} (a b:List α) (c:List α) (h:c.length=a.length):Ay (a++b) 0 c=c++b:=by
 simp[Ay,h]
theorem ZB {w:World} {O:Nat->Prop}:∀ {t:Ty} {k:Nat} {d i:t.den} {pv:PV} {cs g:List Value} {o:Nat},Mb t k d pv=some i->J8 t k=some o->Bn w O t cs d->Bn w O pv.t g pv.d ->
  Bn w O t (Ay cs o g) i/\Y3 t k=some pv.t
 | .prod a b,0,d,i,pv,cs,g,o,h,c,f,e=>by
  simp only[Mb,Is]at h;obtain⟨y,l,rfl⟩:=h;have:=BB l;subst this;simp only[J8]at c;cases c;obtain⟨c1,c2,rfl,h1,j⟩:=f;rw[QP _ _ _ (by rw[e.length,h1.length])];exact⟨⟨g,c2,rfl,e,j⟩,rfl⟩
 | .prod a b,k+1,d,i,pv,cs,g,o,h,c,f,e=>by
  simp only[Mb,Is]at h;obtain⟨y,l,rfl⟩:=h;simp only[J8,Is]at c;obtain⟨q,p,rfl⟩:=c;obtain⟨c1,c2,rfl,h1,j⟩:=f;obtain⟨m,n⟩:=ZB l p j e;rw[<-h1.length,Ni];exact⟨⟨c1,_,rfl,h1,m⟩,n⟩
 | .int _,0,d,i,pv,cs,g,o,h,c,f,e=>by
  have:=BB h;subst this;simp only[J8]at c;cases c;rw[DY (by rw[e.length,f.length])];exact⟨e,rfl⟩
 | .bool,0,d,i,pv,cs,g,o,h,c,f,e=>by
  have:=BB h;subst this;simp only[J8]at c;cases c;rw[DY (by rw[e.length,f.length])];exact⟨e,rfl⟩
 | .str,0,d,i,pv,cs,g,o,h,c,f,e=>by
  have:=BB h;subst this;simp only[J8]at c;cases c;rw[DY (by rw[e.length,f.length])];exact⟨e,rfl⟩
 | .slice _,0,d,i,pv,cs,g,o,h,c,f,e=>by
  have:=BB h;subst this;simp only[J8]at c;cases c;rw[DY (by rw[e.length,f.length])];exact⟨e,rfl⟩
 | .ref _,0,d,i,pv,cs,g,o,h,c,f,e=>by
  have:=BB h;subst this;simp only[J8]at c;cases c;rw[DY (by rw[e.length,f.length])];exact⟨e,rfl⟩
 | .ref _,_+1,d,i,pv,cs,g,o,h,c,f,e=>by simp[Mb]at h
 | .agg _,0,d,i,pv,cs,g,o,h,c,f,e=>by
  have:=BB h;subst this;simp only[J8]at c;cases c;rw[DY (by rw[e.length,f.length])];exact⟨e,rfl⟩
 | .int _,_+1,d,i,pv,cs,g,o,h,c,f,e=>by simp[Mb]at h
 | .bool,_+1,d,i,pv,cs,g,o,h,c,f,e=>by simp[Mb]at h
 | .str,_+1,d,i,pv,cs,g,o,h,c,f,e=>by simp[Mb]at h
 | .slice _,_+1,d,i,pv,cs,g,o,h,c,f,e=>by simp[Mb]at h
 | .agg _,_+1,d,i,pv,cs,g,o,h,c,f,e=>by simp[Mb]at h
theorem H4 {α:Type} (cs:List α) (o m a:Nat) (b:List α) (h:a+b.length<=m) (i:o+m<=cs.length) :
  Ay cs o (Ay ((cs.drop o).take m) a b)=Ay cs (o+a) b:=by
 apply ABT;intro j;have c:(Ay ((cs.drop o).take m) a b).length=m:=by rw[Dm]<;>simp<;>omega
 simp only[Ay]at c ⊢;rw[c];simp only[AAx,If,On,AB3,AA7,AAz];have d:min o cs.length=o:=by omega
 have e:min m (cs.length-o)=m:=by omega
 have f:min a m=a:=by omega
 have g:min (o+a) cs.length=o+a:=by omega
 rw[d,e,f,g];by_cases c1:j<o
 .grind
 grind
theorem Sa {w:World} {O:Nat->Prop}:∀ {l:List Nat} {t:Ty} {d f:t.den} {pv:PV} {cs c:List Value} {off:Nat},VO l t d pv=some f->L4 l t=some off->Bn w O t cs d->Bn w O pv.t c pv.d ->
  Bn w O t (Ay cs off c) f/\off+c.length<=cs.length
 | [],t,d,f,pv,cs,c,off,h,b,a,e=>by
  have:=BB h;subst this;simp only[L4]at b;cases b;rw[DY (by rw[e.length,a.length])];exact⟨e,by simp[e.length,a.length]⟩
 | k :: r,t,d,f,pv,cs,c,off,h,b,a,e=>by
  cases t<;>simp only[VO,L4]at h b<;>try(cases h;done)
  rename_i t;have a:Bn w O t cs d:=a;split at h
  .rename_i p u;obtain⟨h1,o,g,x,m⟩:=Nh u a;rw[h1,g]at b;simp only[Is]at b;obtain⟨A,s,rfl⟩:=b;split at h
   .rename_i y v;obtain⟨n,i⟩:=Sa v s m e;have z:=a.length;have q:((cs.drop o).take p.t.size).length=p.t.size:=by simp;omega
    rw[q]at i;obtain⟨j,_⟩:=ZB (pv:=⟨p.t,y⟩) h g a n;rw[H4 _ _ _ _ _ i O1]at j;exact⟨j,by omega⟩
   cases h
  cases h
end
section
open Go Go.RowKit
section
variable {V:Vw}
theorem Vi:∀l:List AV,AV.cellss l=CD l l.length
 | []=>rfl
 | x :: r=>by simp only[AV.cellss,NO,CD,Vi r]
theorem Re:(∀(x:AV) (cs:List Value),FM V x cs->cs.length=x.cells/\∀u∈cs,u.oneCell'=true)/\∀(l:List AV) (cs:List Value),AVCs V l cs->cs.length=AV.cellss l/\∀u∈cs,u.oneCell'=true:=by
 have key:∀n:Nat,(∀(x:AV) (cs:List Value),SizeOf.sizeOf x<n->FM V x cs->cs.length=x.cells/\∀u∈cs,u.oneCell'=true)/\∀(l:List AV) (cs:List Value),SizeOf.sizeOf l<n->AVCs V l cs->cs.length=AV.cellss l/\∀u∈cs,u.oneCell'=true:=by
  intro n;induction n with
  | zero=>exact⟨λ_ _ h=>by omega,λ_ _ h=>by omega⟩
  | succ n a =>
   refine⟨λx cs hn h=>?_,λl cs hn h=>?_⟩
   .cases x;case p t d=>exact⟨Bn.length (show Bn V.w V.O t cs d from h),Bn.one (show Bn V.w V.O t cs d from h)⟩
    case ag l =>
     simp only[AV.ag.sizeOf_spec]at hn;exact a.2 l cs O1 h
    case tup l=>obtain⟨v,_,_,hf⟩:=h;exact hf.elim
    all_goals(obtain⟨v,rfl,h1,_⟩:=h;exact⟨rfl,λu hu=>by simp at hu;subst hu;exact h1⟩)
   cases l with
   | nil=>have h:cs=[]:=h;subst h;exact⟨rfl,by simp⟩
   | cons x r =>
    obtain⟨c1,c2,rfl,h1,e⟩:=h;simp only[ABY]at hn;have b:=a.1 x c1 O1 h1;have c:=a.2 r c2 O1 e;refine⟨by simp only[If,AV.cellss,b.1,c.1],λu hu=>?_⟩;rcases IS.1 hu with hu|hu
    .exact b.2 u hu
    exact c.2 u hu
 exact⟨λx cs=>(key _).1 x cs (AAT _),λl cs=>(key _).2 l cs (AAT _)⟩
theorem FM.length {cs:List Value} (h:FM V x cs):cs.length=x.cells:=(Re.1 x cs h).1
theorem FM.one {cs:List Value} (h:FM V x cs):∀u∈cs,u.oneCell'=true:=(Re.1 x cs h).2
theorem AVCs.one {cs:List Value} (h:AVCs V l cs):∀u∈cs,u.oneCell'=true:=(Re.2 l cs h).2
theorem AVCs.length {cs:List Value} (h:AVCs V l cs):cs.length=CD l l.length:=(Re.2 l cs h).1.trans (Vi l)
theorem AVCs.get:∀ {l:List AV} {cs:List Value} {k:Nat} {x:AV},AVCs V l cs->l[k]?=some x ->
  CD l k+x.cells<=cs.length/\FM V x ((cs.drop (CD l k)).take x.cells)
 | [],cs,k,x,h,hk=>by simp at hk
 | y :: r,cs,0,x,h,hk=>by
  obtain⟨c1,c2,rfl,h1,a⟩:=h;simp at hk;subst hk;have:=h1.length;grind [CD]
 | y :: r,cs,k+1,x,h,hk=>by
  obtain⟨c1,c2,rfl,h1,a⟩:=h;have hk:r[k]?=some x:=by simpa using hk
  obtain⟨c,b⟩:=AVCs.get a hk;have:=h1.length;refine⟨by simp only[CD,If];omega,?_⟩;simp only[CD,<-this];rw[<-ABA,List.drop_left];exact b
theorem AVCs.set:∀ {l:List AV} {cs:List Value} {k:Nat} {x y:AV} {a:List Value},AVCs V l cs->l[k]?=some x->FM V y a->y.cells=x.cells ->
  AVCs V (l.set k y) (Ay cs (CD l k) a)
 | [],cs,k,x,y,a,h,hk,b,c=>by simp at hk
 | z :: r,cs,0,x,y,a,h,hk,b,c=>by
  obtain⟨c1,c2,rfl,h1,d⟩:=h;simp at hk;subst hk;simp only[CD,ACc];rw[QP _ _ _ (by rw[b.length,h1.length,c])];exact⟨a,c2,rfl,b,d⟩
 | z :: r,cs,k+1,x,y,a,h,hk,b,c=>by
  obtain⟨c1,c2,rfl,h1,d⟩:=h;have hk:r[k]?=some x:=by simpa using hk
  have:=h1.length;simp only[CD,List.set_cons_succ,<-this];rw[Ni];exact⟨c1,_,rfl,h1,AVCs.set d hk b c⟩
theorem dH {ty:Ty} (a:FM V x b) (hf:CE ty x=true):b.length=ty.size/\Bu V x (ty.wrap b):=by
 cases x;case p t d =>
  simp only[CE,IN]at hf;subst hf;have a:Bn V.w V.O ty b d:=a;exact⟨Bn.length a,b,a,rfl⟩
 case ag l =>
  have a:AVCs V l b:=a;have e:=a.length;cases ty<;>simp only[CE]at hf<;>try(cases hf;done)
  simp only[AA3]at hf;exact⟨by simp only[Ty.size];omega,b,rfl,a⟩
 case tup l=>obtain⟨v,_,_,hf⟩:=a;exact hf.elim
 all_goals
  obtain⟨v,rfl,_,h1⟩:=a;have c:ty.cell1=true:=by simp only[CE]at hf;first|exact hf|(simp only[AT]at hf;exact hf.2)|exact absurd hf dg
  cases ty<;>first|(cases c;done)|exact⟨rfl,h1⟩
theorem rR {ty:Ty} (i:Bu V x v) (hf:CE ty x=true) (o:ty.cell1=true->v.oneCell'=true):v.cells.size=ty.size/\((∀l,x≠.ag l)->FM V x v.cells.toList):=by
 cases x;case p t d =>
  simp only[CE,IN]at hf;subst hf;obtain⟨cs,f,rfl⟩:=i;have g:=f.length;cases ty;case agg t=>exact⟨by simpa[Ty.wrap,Value.cells] using g,λ_=>by simpa[Ty.wrap,Value.cells,FM] using f⟩
  case prod a b=>exact⟨by simpa[Ty.wrap,Value.cells] using g,λ_=>by simpa[Ty.wrap,Value.cells,FM] using f⟩
  case slice e =>
   obtain⟨a,c,rfl,h⟩:=f;exact⟨rfl,λ_=>⟨a,c,rfl,h⟩⟩
  case int k =>
   obtain⟨rfl,h⟩:=f;exact⟨rfl,λ_=>⟨rfl,h⟩⟩
  case bool =>
   have f:cs=_:=f;subst f;exact⟨rfl,λ_=>rfl⟩
  case str =>
   obtain⟨rfl,h⟩:=f;exact⟨rfl,λ_=>⟨rfl,h⟩⟩
  case ref k =>
   obtain⟨rfl,h⟩:=f;have q:(Ty.ref k).wrap [PI k d]=PI k d:=rfl;rw[q,SM];exact⟨rfl,λ_=>⟨rfl,h⟩⟩
 case ag l =>
  obtain⟨cs,rfl,n⟩:=i;have g:=n.length;cases ty<;>simp only[CE]at hf<;>try(cases hf;done)
  rename_i t;simp only[AA3]at hf;exact⟨by simp[Value.cells,Ty.size,g,hf],λh=>absurd rfl (h l)⟩
 case tup l=>simp[CE]at hf
 all_goals
  have h1:ty.cell1=true:=by simp only[CE]at hf;first|exact hf|(simp only[AT]at hf;exact hf.2)|exact absurd hf dg
  have j:v.oneCell'=true:=o h1;have m:v.cells=#[v]:=by cases v<;>first|rfl|simp[Value.oneCell']at j
  have hs:ty.size=1:=by cases ty<;>simp[Ty.cell1]at h1<;>rfl
  rw[m];exact⟨by simp[hs],λ_=>⟨v,rfl,j,i⟩⟩
end
end
section
open Go Go.RowKit
section
variable {P:Program} {tb:Tb} {id:TypeId} {ti:TI} {w:World} {O0:Nat->Prop} {σ:St} {ρ:Nat->Value} {vc:Prop} {v:AV} {obs:List (Nat×Obj)}
theorem Vj {w:World} {base:Nat} {et:TypeId} {size:Nat} {g m c n:Nat} {cells:List Value} (h:w.ownsRow base et size (.slice (some ⟨g,0,none⟩) m c) n cells) :
  m=n/\∀(j:Nat) (u:Value),cells[j]?=some u->w.cell? ⟨g,j,none⟩=some u:=by
 constructor
 .rcases h.2 with ⟨a,_⟩|⟨e,cap,d,a,_⟩
  .injection a with h1;cases h1
  injection a
 intro j u b;have:=h.cells (g:=g) rfl j u b
 rwa [SK]at this
theorem ZC {V:Vw} {ty:Ty} {v:AV} (e:CE ty v=true):∀ {p:List Nat} {st:Bool} {fs:List AV} {cs:List Value} {off:Nat},AVCs V fs cs->EZ st fs p=some v->IM fs p=some off ->
  off+ty.size<=cs.length/\∃j:List Value,j.length=ty.size/\j=(cs.drop off).take ty.size/\Bu V v (ty.wrap j)
 | [],st,fs,cs,off,g,a,c=>by
  simp only[IM]at c;cases c;cases st with
  | true =>
   simp only[EZ,AAB]at a;cases a;have A:=g.length;cases x:ty<;>rw[x]at e<;>simp only[CE]at e<;>try(cases e;done)
   rename_i t;simp only[AA3]at e;have o:cs.length=(Ty.agg t).size:=by simp only[Ty.size];omega
   exact⟨by omega,cs,o,by rw[<-o];simp,cs,rfl,g⟩
  | false =>
   simp only[EZ,AAM,AAR]at a;have y:CD fs 0=0:=by cases fs<;>rfl
   obtain⟨h1,b⟩:=g.get a;rw[y]at h1 b;obtain⟨h,m⟩:=dH b e;have f:=b.length;exact⟨by omega,_,h,by rw[<-h,f],m⟩
 | [k],st,fs,cs,off,g,a,c=>by
  cases st with
  | false=>simp[EZ]at a
  | true =>
   simp only[EZ,AAB]at a;obtain⟨h1,b⟩:=g.get a;obtain⟨h,m⟩:=dH b e;have f:=b.length;have s:off=CD fs k:=by
    simp only[IM,a]at c;cases v<;>simp only[L4,IM,ABk,List.isEmpty_nil,AAB]at c<;>cases c<;>rfl
   subst s;exact⟨by omega,_,h,by rw[<-h,f],m⟩
 | k :: B :: r,st,fs,cs,off,g,a,c=>by
  cases st with
  | false=>simp[EZ]at a
  | true =>
   simp only[EZ,AAB]at a;split at a
   .rename_i t d hk;simp only[Is]at a;obtain⟨pv,u,rfl⟩:=a;simp only[IM,hk,Is]at c;obtain⟨z,n,rfl⟩:=c;obtain⟨h1,b⟩:=g.get hk;have b:Bn V.w V.O t _ d:=b;obtain⟨f,i⟩:=SZ u n b;simp only[AV.cells]at h1 i;rw[Xc _ _ _ _ _ f]at i;simp only[CE,IN]at e;subst e;have q:=i.length;exact⟨by omega,_,q,rfl,_,i,rfl⟩
   .rename_i l hk;simp only[IM,hk,Is]at c;obtain⟨z,n,rfl⟩:=c;obtain⟨h1,b⟩:=g.get hk;have b:AVCs V l _:=b;obtain⟨h,j,m,f,i⟩:=ZC e b a (by simpa only[IM] using n);simp only[On,AB3]at h;rw[Xc _ _ _ _ _ O1]at f;exact⟨by omega,j,m,f,i⟩
   cases a
theorem rS (hT:Dh P tb id ti) (K:∀n o,lk n σ.objs=some o->A4 (vw w O0 σ ρ) o (ρ n)) {x:AV} {xv:Value}
  (h:Jp σ (some ti) (some x)=some (vc,v,obs)) (O:Bu (vw w O0 σ ρ) x xv):obs=[]/\∃u,(Instr.loadAt id xv).run P w=.ok u w/\Bu (vw w O0 σ ρ) v u:=by
 unfold Jp at h;split at h
 .rename_i n R off E F;cases E;cases F;obtain⟨T,b,q,rfl⟩:=O;cases hn:lk n σ.objs with
  | none=>rw[hn]at h;simp[D2]at h
  | some o =>
   rw[hn]at h;cases o with
   | arr et e xs=>simp[D2]at h
   | mapo k v l=>simp[D2]at h
   | frame ax fs=>simp[D2]at h
   | loop L=>simp[D2]at h
   | itr ar aw au av ap=>simp[D2]at h
   | dfr=>simp[D2]at h
   | sit sb sp=>simp[D2]at h
   | nest et aq k e xs B=>simp[D2]at h
   | box et st fs =>
    simp only[D2]at h;cases B:EZ st fs R with
    | none=>rw[B]at h;simp[I3]at h
    | some y =>
     rw[B]at h;simp only[I3]at h;split at h
     .rename_i z;obtain⟨ai,M⟩:=z;cases h;obtain⟨be,ay,cs,f,aj,ae⟩:=K n _ hn;have q:ρ n=_:=q;rw[q]at f;injection f with f
      injection f with f
      injection f with f
      subst f;have D:∀(t:List Value) (o:Nat),t=(cs.drop o).take t.length->∀(j:Nat) (u:Value),t[j]?=some u->w.cell? ((⟨b,o,none⟩:Addr).add j)=some u:=by
       intro t o V j u a;rw[IL,cell_of_row w b (o+j) cs.toArray et (0,0) aj];rw[V,AA7,AAz]at a;split at a
       .simpa using a
       cases a
      refine⟨rfl,?_⟩;obtain⟨bc,t,A,H,I⟩:=ZC ai ae B M;have:=Fb w hT A (D t off (by rw[A];exact H));exact⟨_,this,I⟩
     cases h
 .rename_i n e i R off E F;cases E;cases F;obtain⟨T,g,m,c,q,am,rfl⟩:=O;cases hn:lk n σ.objs with
  | none=>rw[hn]at h;simp[D3]at h
  | some o =>
   rw[hn]at h;cases o with
   | box et st fs=>simp[D3]at h
   | mapo k v l=>simp[D3]at h
   | frame ax fs=>simp[D3]at h
   | loop L=>simp[D3]at h
   | itr ar aw au av ap=>simp[D3]at h
   | dfr=>simp[D3]at h
   | sit sb sp=>simp[D3]at h
   | nest et aq k r xs B =>
    cases B with
    | some j=>simp[D3]at h
    | none =>
     simp only[D3]at h;split at h
     .rename_i af;subst af;obtain⟨o,ins,cells,f,J⟩:=K n _ hn;have q:plc (ρ n)=_:=q;have an:plc (ρ n)=o:=f.plc;have s:=J.own;rw[<-an,q]at s;obtain⟨rfl,D⟩:=Vj s;have Q:xs[i]?=some (xs.getD i (k.dflt,[])):=by grind
      have G:i<ins.length:=by rw[J.len];exact am
      obtain⟨c1,v1,U,Y,A⟩:=J.row i _ ins[i] Q (An G);rcases A with ⟨A,_⟩|⟨_,Z,I⟩
      .cases A
      have W:c1.length=k.size:=Y.length;unfold PJ at h;split at h
      .split at h
       .rename_i C;obtain⟨p,rfl⟩:=C;cases h;have:=Fb (ad:=⟨g,i*(Ty.agg (.prod k (.slice r))).size+0,none⟩) w hT (by rw[p];exact W) (λj u a=>by
         rw[IL];refine D _ _ (U j u ?_);rw[AA9 (Of.1 a).1];exact a)
        rw[p]at this;exact⟨rfl,_,this,c1,Y,rfl⟩
       cases h
      .split at h
       .rename_i C;obtain⟨p,rfl⟩:=C;cases h;have:=Fb (ad:=⟨g,i*(Ty.agg (.prod k (.slice r))).size+k.size,none⟩) (cs:=[v1]) w hT (by rw[p];rfl) (λj u a=>by
         have ak:j=0:=by have:=(Of.1 a).1;simpa using this
         subst ak;rw[IL];refine D _ _ (U k.size u ?_);rw[AA4 O1,W,AAY];exact a)
        rw[p]at this;obtain⟨aa,ab,ao⟩:=rH Z I;exact⟨rfl,_,this,T,_,aa,ab,ins[i],f.resolve_right (λh=>by rw[h.2.2]at G;simp at G),by simp[G],Z,ao⟩
       cases h
      cases h
     cases h
   | arr et r xs =>
    simp only[D3]at h;cases z:BR (.slice e) ⟨.slice r,xs⟩ with
    | none=>rw[z]at h;simp[I5]at h
    | some ys =>
     obtain⟨rfl,H⟩:=Bk z;cases H;rw[z]at h;simp only[I5]at h;cases N:SN R r (xs.getD i r.dflt) with
     | none=>rw[N]at h;simp[I4]at h
     | some pv =>
      rw[N]at h;simp only[I4]at h;split at h
      .rename_i C;obtain⟨p,M⟩:=C;cases h;obtain⟨bd,cells,s,ag⟩:=K n _ hn;have q:plc (ρ n)=_:=q;have s:w.ownsRow 0 et r.size (ρ n) xs.length cells:=s;rw[Ga s]at q;rw[q]at s;obtain⟨rfl,D⟩:=Vj s;have Q:xs[i]?=some (xs.getD i r.dflt):=by grind
       obtain⟨t,V,bb,ah⟩:=ag i _ Q;obtain⟨az,S⟩:=SZ N M ah;have al:=S.length;have:=Fb (ad:=⟨g,i*r.size+off,none⟩) w hT (by rw[p];exact al) (λj u a=>by
        rw[IL,ACo];rw[AA7,AAz]at a;split at a
        .grind
        cases a)
       rw[p]at this;exact⟨rfl,_,this,_,S,rfl⟩
      cases h
 .rename_i u d E F;cases E;cases F;obtain⟨ad,cs,rfl,ba,z,X⟩:=O;split at h
  .rename_i p;cases h;have:=Fb w hT (by rw[p];exact X.length) z;rw[p]at this;exact⟨rfl,_,this,cs,X,rfl⟩
  cases h
 cases h
end
end
section
open Go Go.RowKit
section
variable {P:Program} {tb:Tb} {id:TypeId} {ti:TI} {w:World} {V:Vw} {vc:Prop} {v:AV} {obs:List (Nat×Obj)}
theorem dI {α:Type} {l:List α} {k:Nat} {x:α} (h:l[k]?=some x):x∈l:=AAm h
theorem ZD (hT:Dh P tb id ti) {u:Ty} (p:ti.ty=.agg u) (d:ti.el=0) {f k s:Nat} (hf:ti.offs[f]?=some (k,s)) (ad:Addr) (w:World) :
  (Instr.fieldAt id (.pointer (some ad)) f).run P w=.ok (.pointer (some (ad.add k))) w:=by
 obtain⟨⟨⟨m,_⟩,_⟩,a⟩:=hT;rw[p]at a;simp only at a;rcases a with ⟨fs,_,hu,o⟩|⟨n,e,i,l,_⟩
 .have b:(ti.offs.map some)[f]?=some (some (k,s)):=by simp[hf]
  rw[o]at b;simp only[AAt,Is]at b;obtain⟨fl,h,g⟩:=b;obtain⟨i,hi,c⟩:=g;cases c;have j:fs[f]?=some fl:=by simpa using h
  have hs:i.size≠0:=m _ (dI hf);simp[Instr.fieldAt,aS hu,j,Instr.sureAddr,fieldPlace,sizeOf,KT w hi,hs]
 exact absurd d l
theorem ZE (hT:Dh P tb id ti) {u:Ty} (h:ti.ty=.agg u) (c:ti.el≠0) {k s:Nat} {kd:IntKind} (j:0<=z) (hf:ti.offs[z.toNat]?=some (k,s)) (ad:Addr) (w:World) :
  (Instr.indexAt id (.pointer (some ad)) (.int kd z)).run P w=.ok (.pointer (some (ad.add k))) w:=by
 obtain⟨_,a⟩:=hT;rw[h]at a;simp only at a;rcases a with ⟨fs,h0,_⟩|⟨n,e,i,_,hu,hi,g⟩
 .exact absurd h0 c
 rw[g]at hf;simp only[AAt,Is]at hf;obtain⟨l,d,b⟩:=hf;cases b;obtain⟨h1,a⟩:=Of.1 d;simp only[ABS]at h1;simp only[ABJ]at a;subst a;have f:z<(n:Int):=by omega
 simp[Instr.indexAt,asIntOf,aS hu,Instr.sureAddr,sizeOf,KT w hi,j,f]
theorem rT {f:Nat} {o:Option (Nat×Nat)} {x:AV} {xv:Value} {run:Value->Result Value} (y:∀k s ad,o=some (k,s)->run (.pointer (some ad))=.ok (.pointer (some (ad.add k))) w)
  (h:QF f o x=some (vc,v,obs)) (z:Bu V x xv):obs=[]/\∃u,run xv=.ok u w/\Bu V v u:=by
 unfold QF at h;split at h
 .rename_i n G off;obtain⟨q,b,A,rfl⟩:=z;cases o with
  | none=>simp[VP]at h
  | some p =>
   obtain⟨k,s⟩:=p;simp only[VP]at h;cases h;exact⟨rfl,_,y k s _ rfl,q,b,A,by rw[IL]⟩
 .rename_i n e i G off;obtain⟨q,g,m,c,A,F,rfl⟩:=z;cases o with
  | none=>simp[VP]at h
  | some p =>
   obtain⟨k,s⟩:=p;simp only[VP]at h;cases h;exact⟨rfl,_,y k s _ rfl,q,g,m,c,A,F,by rw[IL,ACo]⟩
 .rename_i u d;obtain⟨ad,cs,rfl,D,E,t⟩:=z;cases r:GX u f d with
  | none=>rw[r]at h;simp[I6]at h
  | some pv =>
   rw[r]at h;simp only[I6]at h;split at h
   .rename_i l;cases h;have t:Bn V.w V.O u cs d:=t;obtain⟨h1,I,B,H,C⟩:=Nh r t;rw[B]at l;cases o with
    | none=>simp at l
    | some p =>
     obtain⟨k,s⟩:=p;simp only[ABk,AAK]at l;subst l;refine⟨rfl,_,y k s _ rfl,ad.add k,_,rfl,by rw[Bv];exact D,λj u a=>?_,C⟩;rw[Cf];rw[AA7,AAz]at a;split at a
     .exact E _ _ a
     cases a
   cases h
 cases h
theorem A0h (hT:Dh P tb id ti) {f:Nat} {x:AV} {xv:Value} (w:World)
  (h:Gy f (some ti) (some x)=some (vc,v,obs)) (e:Bu V x xv):obs=[]/\∃u,(Instr.fieldAt id xv f).run P w=.ok u w/\Bu V v u:=by
 unfold Gy at h;split at h
 .rename_i u offs b g a c;cases a;cases c;exact rT (run:=λxv=>(Instr.fieldAt id xv f).run P w) (λk s ad d=>ZD hT rfl rfl d ad w) h e
 cases h
theorem QQ {e:TypeId} (hu:P.underlying id=some (.slice e)) {size:Nat} (hs:(sizeOf e).run P w=.ok size w) (a:Addr) (n c:Nat) (k:IntKind) (i:Int) (h0:0<=i) (h1:i<n) :
  (Instr.indexAt id (.slice (some a) n c) (.int k i)).run P w=.ok (.pointer (some (a.add (i.toNat*size)))) w:=by
 simp[Instr.indexAt,asIntOf,aS hu,h0,h1,hs]
theorem A7e {el:TypeId} (hu:P.underlying id=some (.slice el)) (hs:(sizeOf el).run P V.w=.ok e.size V.w) {l:List e.den} {kd:IntKind} {k:Int} {xv:Value}
  (r:BQ V.w V.O (.slice e) xv l) (n:0<=k) (o:k<(l.length:Int)) :
  ∃u,(Instr.indexAt id xv (.int kd k)).run P V.w=.ok u V.w/\Bu V (.ip e (l.getD k.toNat e.dflt)) u:=by
 obtain⟨cs,h,rfl⟩:=r;obtain⟨a,c,rfl,h1,t,b⟩:=h;have p:k.toNat<l.length:=by omega
 rcases b with b|⟨ad,rfl,f,i⟩
 .subst b;simp at p
 refine⟨_,QQ hu hs _ _ _ _ _ n o,?_⟩;have s:l[k.toNat]?=some (l.getD k.toNat e.dflt):=by grind
 obtain⟨d,v,g,q⟩:=i _ _ s;exact⟨_,d,rfl,by rw[Bv];exact f,λj u m=>by rw[Cf];exact g j u m,q⟩
theorem A7f {el:TypeId} (hu:P.underlying id=some (.slice el)) (hs:(sizeOf el).run P V.w=.ok e.size V.w) {n lo hi:Nat} {kd:IntKind} {k:Int} {xv:Value}
  (s:Bu V (.sr n e lo hi) xv) (h:∀n,V.L n->∃o,A4 V o (V.ρ n)) (j:0<=k) (l:k<((hi-lo:Nat):Int)) :
  ∃u,(Instr.indexAt id xv (.int kd k)).run P V.w=.ok u V.w/\Bu V (.ep n e (lo+k.toNat) [] 0) u:=by
 obtain⟨b,a,m,c,f,A,z,t,v,rfl,y,h0,h1⟩:=s;have p:lo<hi:=by omega
 have i:=h1 p;obtain⟨o,q⟩:=h n b;obtain⟨g,rfl⟩:∃g,a=some ⟨g,0,none⟩:=by
  obtain⟨_,_,cells,r,_⟩:=Vh q f;rcases r.2 with ⟨d,hn⟩|⟨g,cap,x,d,_⟩
  .injection d;omega
  grind
 subst i;refine⟨_,QQ hu hs _ _ _ _ _ j l,b,g,m,c,f,by omega,?_⟩;rw[Cf,SK,ABR];rfl
theorem BM {O:Nat->Prop} {w:World} {kd:IntKind} {k:Int} {v:Value} (h:BQ w O (.int kd) v k):v=.int kd k/\HY kd k:=by
 obtain⟨cs,⟨rfl,h1⟩,rfl⟩:=h;exact⟨rfl,h1⟩
theorem BP {O:Nat->Prop} {w:World} {kd:IntKind} {k:Int} (h:HY kd k):BQ w O (.int kd) (.int kd k) k:=⟨_,⟨rfl,h⟩,rfl⟩
theorem Dn {O:Nat->Prop} {w:World} {b:Bool} {v:Value} (h:BQ w O .bool v b):v=.bool b:=by
 obtain⟨cs,h1,rfl⟩:=h;have h1:cs=_:=h1;subst h1;rfl
theorem Bg {O:Nat->Prop} {w:World} (b:Bool):BQ w O .bool (.bool b) b:=⟨[.bool b],rfl,rfl⟩
theorem F4 {O:Nat->Prop} {w:World} {v:Value} (h:BQ w O .str v s):v=.string s/\s.size<=AO:=by
 obtain⟨cs,⟨rfl,h1⟩,rfl⟩:=h;exact⟨rfl,h1⟩
theorem Sb {O:Nat->Prop} {w:World} (h:s.size<=AO):BQ w O .str (.string s) s:=⟨_,⟨rfl,h⟩,rfl⟩
theorem CM {offs:List (Nat×Nat)} {el:TypeId} {bytes:Nat} (hT:Dh P tb id ⟨.slice e,offs,el,bytes⟩) (b:Cs P tb) :
  P.underlying id=some (.slice el)/\(∀w,(sizeOf el).run P w=.ok e.size w)/\∃te,lk el tb.ty=some te/\te.ty=e:=by
 obtain⟨_,hu,te,a,rfl⟩:=hT;exact⟨hu,λw=>G1 w (b _ _ a),te,a,rfl⟩
theorem A0i (hT:Dh P tb id ti) (m:Cs P tb) {x y:AV} {xv p:Value}
  (h:FX (some ti) (some x) (some y)=some (vc,v,obs)) (f:vc) (i:Bu V x xv) (j:Bu V y p) (r:∀n,V.L n->∃o,A4 V o (V.ρ n)) :
  obs=[]/\∃u,(Instr.indexAt id xv p).run P V.w=.ok u V.w/\Bu V v u:=by
 unfold FX at h;split at h
 .rename_i e offs el bytes q l kd k a c d;cases a;cases c;cases d;split at h
  .rename_i g;subst g;cases h;obtain⟨hu,hs,_⟩:=CM hT m;obtain⟨rfl,_⟩:=BM j;exact⟨rfl,A7e hu (hs _) i f.1 f.2⟩
  cases h
 .rename_i e offs el bytes n q lo hi kd k a c d;cases a;cases c;cases d;split at h
  .rename_i g;subst g;cases h;obtain⟨hu,hs,_⟩:=CM hT m;obtain⟨rfl,_⟩:=BM j;exact⟨rfl,A7f hu (hs _) i r f.1 f.2⟩
  cases h
 .rename_i u offs el b A B a c d;cases a;cases c;cases d;unfold La at h;split at h
  .rename_i kd k;split at h
   .rename_i hk;obtain⟨rfl,_⟩:=BM j;exact rT (run:=λxv=>(Instr.indexAt id xv (.int kd k)).run P V.w) (λz s ad t=>ZE hT rfl sc hk t ad V.w) h i
   cases h
  cases h
 cases h
theorem JC {n:Int} (h:HY k n):k.wrap n=n:=by
 obtain⟨h1,a⟩:=h;cases k<;>simp[IntKind.min,IntKind.max,IntKind.signed,IntKind.bits]at h1 a<;>simp[IntKind.wrap,IntKind.signed,IntKind.bits]<;>omega
theorem Ld (k:IntKind) (n:Int):HY k (k.wrap n):=by
 cases k<;>simp only[HY,IntKind.min,IntKind.max,IntKind.wrap,IntKind.signed,IntKind.bits]<;>simp<;>omega
theorem A3x {op:BinOp} {t:TypeId} {e:IntKind} {a b:Int} (w:World) (c:(bin op k a e b).1) (ha:HY k a) :
  ∃u,(binOp op t (.int k a) (.int e b)).run P w=.ok u w/\Bu V (bin op k a e b).2 u:=by
 unfold bin at c ⊢;split at c
 .have d:¬b<0:=by have h:0<=b:=c;omega
  exact⟨_,by simp[binOp,Op.shift,d];rfl,BP (Ld _ _)⟩
 .have d:¬b<0:=by have h:0<=b:=c.1;omega
  exact⟨_,by simp[binOp,Op.shift,d];rfl,BP c.2⟩
 split at c
 .rename_i f g hk;subst hk;cases op<;>simp only[mY]at c ⊢;case add=>exact⟨.int k (a+b),by simp[binOp,Op.intArith,JC c],BP c⟩
  case sub=>exact⟨.int k (a-b),by simp[binOp,Op.intArith,JC c],BP c⟩
  case mul=>exact⟨.int k (a*b),by simp[binOp,Op.intArith,JC c],BP c⟩
  case quo=>exact⟨.int k (a.tdiv b),by simp[binOp,Op.intDiv,c.1,JC c.2],BP c.2⟩
  case rem=>exact⟨.int k (a.tmod b),by simp[binOp,Op.intDiv,c.1],BP c.2⟩
  case and=>exact⟨.int k (CY .and k a b),by simp only[binOp,ne_eq,ABv,AAR,Op.intBits];rfl,BP (Ld _ _)⟩
  case or=>exact⟨.int k (CY .or k a b),by simp only[binOp,ne_eq,ABv,AAR,Op.intBits];rfl,BP (Ld _ _)⟩
  case xor=>exact⟨.int k (CY .xor k a b),by simp only[binOp,ne_eq,ABv,AAR,Op.intBits];rfl,BP (Ld _ _)⟩
  case andNot=>exact⟨.int k (CY .andNot k a b),by simp only[binOp,ne_eq,ABv,AAR,Op.intBits];rfl,BP (Ld _ _)⟩
  case eql=>exact⟨.bool (a==b),by simp[binOp,Op.intCmp],Bg _⟩
  case neq=>exact⟨.bool (a != b),by simp[binOp,Op.intCmp],Bg _⟩
  case lss=>exact⟨.bool (decide (a<b)),by simp[binOp,Op.intCmp],Bg _⟩
  case leq=>exact⟨.bool (decide (a<=b)),by simp[binOp,Op.intCmp],Bg _⟩
  case gtr=>exact⟨.bool (decide (b<a)),by simp[binOp,Op.intCmp],Bg _⟩
  case geq=>exact⟨.bool (decide (b<=a)),by simp[binOp,Op.intCmp],Bg _⟩
 exact c.elim
theorem A0j {op:BinOp} {t:TypeId} {a b:ByteArray} (w:World) (c:(XS a b op).1) :
  ∃u,(binOp op t (.string a) (.string b)).run P w=.ok u w/\Bu V (XS a b op).2 u:=by
 cases op<;>simp only[XS]at c ⊢;case add =>
  have d:AO=140737488355328:=rfl;have hh:¬(((a.size+b.size:Nat):Int) > IntKind.i64.max):=by
   have:IntKind.i64.max=9223372036854775807:=by decide
   omega
  exact⟨.string (a++b),by simp only[binOp,Op.stringOp,As hh];rfl,Sb (by simpa[ABe] using c)⟩
 case eql=>exact⟨.bool (AL a b),by simp only[binOp,Op.stringOp];rfl,Bg _⟩
 case neq=>exact⟨.bool (!AL a b),by simp only[binOp,Op.stringOp];rfl,Bg _⟩
 case lss=>exact⟨.bool (CA a b),by simp only[binOp,Op.stringOp];rfl,Bg _⟩
 case leq=>exact⟨.bool (CA a b||AL a b),by simp only[binOp,Op.stringOp];rfl,Bg _⟩
 case gtr=>exact⟨.bool (!(CA a b||AL a b)),by simp only[binOp,Op.stringOp];rfl,Bg _⟩
 case geq=>exact⟨.bool (!CA a b),by simp only[binOp,Op.stringOp];rfl,Bg _⟩
 all_goals exact c.elim
theorem A5J {op:BinOp} {t:TypeId} {ti:Option TI} (n:ST ti=true->P.underlying t=some .bool) {x y:AV} {xv l:Value} (w:World)
  (h:RE op ti (some x) (some y)=some (vc,v,obs)) (m:vc) (i:Bu V x xv) (j:Bu V y l) :
  obs=[]/\(∀e f,(eqGuard op t e f xv l).run P w=.ok () w)/\∃u,(binOp op t xv l).run P w=.ok u w/\Bu V v u:=by
 unfold RE at h;split at h
 .rename_i k a o b c d;cases c;cases d;cases h;obtain⟨rfl,ha⟩:=BM i;obtain⟨rfl,_⟩:=BM j;refine⟨rfl,λe f=>?_,A3x w m ha⟩;cases op<;>simp[eqGuard]
 .rename_i a b c d;cases c;cases d;cases h;obtain⟨rfl,ha⟩:=F4 i;obtain⟨rfl,_⟩:=F4 j;refine⟨rfl,λe f=>?_,A0j w m⟩;cases op<;>simp[eqGuard]
 .rename_i a b c d;cases c;cases d;have ha:=Dn i;have g:=Dn j;subst ha g;split at h
  .rename_i g;have hu:=n g;cases op<;>simp only[m5]at h<;>cases h
   .exact⟨rfl,λe f=>by simp[eqGuard],.bool (a==b),by simp[binOp,run_equal_bool w t a b hu],Bg _⟩
   exact⟨rfl,λe f=>by simp[eqGuard],.bool (a != b),by simp[binOp,run_equal_bool w t a b hu,bne],Bg _⟩
  cases h
 cases h
theorem A7g {op:UnOp} {x:AV} {xv:Value} (w:World) (h:qUn op (some x)=some (vc,v,obs)) (c:vc) (e:Bu V x xv) :
  obs=[]/\∃u,(Op.unary op xv).run P w=.ok u w/\Bu V v u:=by
 unfold qUn at h;split at h
 .rename_i b d;cases d;cases h;have:=Dn e;subst this;exact⟨rfl,.bool (!b),by simp[Op.unary],Bg _⟩
 .rename_i k a d;cases d;cases h;obtain⟨rfl,ha⟩:=BM e;have c:HY k (0-a):=c;exact⟨rfl,_,by simp only[Op.unary,Op.intArith,JC c];rfl,BP c⟩
 cases h
end
end
section
open Go Go.RowKit
section
variable {P:Program} {tb:Tb} {id:TypeId} {ti:TI} {w:World} {V:Vw} {vc:Prop} {v:AV} {obs:List (Nat×Obj)}
theorem dJ (l:List Int):(QG l).size=l.length:=by
 show (QG l).data.size=l.length;unfold QG;simp
theorem A3y (G:Cs P tb) (H:V.w=w) {s t:TypeId} {B ti:TI} (hs:Dh P tb s B) (y:Dh P tb t ti) {x:AV} {xv:Value} (h:Jq (some B) (some ti) (some x)=some (vc,v,obs)) (i:vc) (A:Bu V x xv) :
  obs=[]/\∃u,(convert s t xv).run P w=.ok u w/\Bu V v u:=by
 unfold Jq at h;split at h
 .rename_i T U m b1 k W D b2 ab a n o p;cases n;cases o;cases p;cases h;obtain⟨rfl,ha⟩:=BM A;have i:HY k a:=i;have f:P.underlying s=some (.int T):=hs.2;have g:P.underlying t=some (.int k):=y.2;refine⟨rfl,.int k a,?_,BP i⟩;simp[convert,aS f,aS g,Conv.intToInt,JC i]
 .rename_i U m b1 W D b2 l n o p;cases n;cases o;cases p;cases h;obtain⟨f,te,O,Q⟩:=hs.2;have g:P.underlying t=some .string:=y.2;have z:P.underlying m=some (.int .u8):=by
   have:=(G _ _ O).2;rw[Q]at this;exact this
  obtain⟨cs,⟨a,c,rfl,h1,E,d⟩,rfl⟩:=A;have N:(QG l).size<=AO:=by rw[dJ];exact E
  refine⟨rfl,.string (QG l),?_,⟨[.string (QG l)],⟨rfl,N⟩,rfl⟩⟩;have L:a=none->l=[]:=λe=>by grind
  cases a with
  | none =>
   have:=L rfl;subst this;show (convert s t (.slice none 0 c)).run P w=_;have C:QG []=ByteArray.empty:=rfl;rw[C];simp[convert,aS f,aS g,aS z,Conv.bytesToString]
  | some ad =>
   have r:=run_convert_bytes_back (P:=P) w s t m ad c (l.map λx=>UInt8.ofNat x.toNat) f z g λj q=>by
    have b:j<List.length l:=by rw[dB]at q;exact q
    rcases d with d|⟨X,d,Z,F⟩
    .rw[d]at b;cases b
    cases d;obtain⟨Y,-,J,M⟩:=F j l[j] (An b);obtain⟨rfl,K⟩:=M;have I:=J 0 (.int .u8 l[j]) rfl;rw[H]at I;obtain⟨R,S⟩:(0:Int)<=(l:List Int)[j]'b/\(l:List Int)[j]'b<=255:=by
     simpa[HY,IntKind.min,IntKind.max,IntKind.signed,IntKind.bits] using K
    have e:(((List.map (λx:Int=>UInt8.ofNat x.toNat) l)[j]'q).toNat:Int)=l[j]:=by
     rw[ABC,UInt8.toNat_ofNat'];have aa:((l:List Int)[j]'b).toNat % 2 ^ 8=((l:List Int)[j]'b).toNat:=Nat.mod_eq_of_lt ((ACx R).2 (ACh S dg));grind
    grind [Ty.size]
   rw[dB]at r;exact r
 cases h
theorem A5K (r:∀n,V.L n->∃o,A4 V o (V.ρ n)) {x:AV} {xv:Value} {t ty:TypeId} (hT:Dh P tb t ti) (w:World) (h:SU (some ti) (some x)=some (vc,v,obs)) (g:Bu V x xv) :
  obs=[]/\∃u,(Builtin.len_ #[t] ty #[xv]).run P w=.ok u w/\Bu V v u:=by
 have j:∀n:Nat,n<=AO->HY .i64 (n:Int):=λn hn=>by
  simp[HY,IntKind.min,IntKind.max,IntKind.signed,IntKind.bits];simp[AO]at hn;omega
 unfold SU at h;split at h
 .rename_i e o el b q l d f;cases d;cases f;cases h;obtain⟨cs,⟨a,c,rfl,h1,y,_⟩,rfl⟩:=g;have hu:=hT.2.1;exact⟨rfl,.int .i64 (List.length l:Int),by simp[Builtin.len_,aS hu,goInt,Ty.wrap],BP (j _ y)⟩
 .rename_i e o el b n q lo hi d f;cases d;cases f;cases h;obtain⟨k,a,m,c,C,I,H,E,F,rfl,G,h0,h1⟩:=g;have hu:=hT.2.1;obtain⟨D,p⟩:=r n k;obtain⟨_,_,_,_,this⟩:=Vh p C;exact⟨rfl,.int .i64 ((hi-lo:Nat):Int),by simp[Builtin.len_,aS hu,goInt],BP (j _ O1)⟩
 .rename_i e o el b n q i len d f;cases d;cases f;cases h;obtain⟨k,K,a,c,J,B,A,z,rfl⟩:=g;have hu:=hT.2.1;obtain⟨D,p⟩:=r n k;have:=A0b p B A z rfl;exact⟨rfl,.int .i64 (len:Int),by simp[Builtin.len_,aS hu,goInt],BP (j _ this)⟩
 .rename_i e o el b d f;cases d;cases f;cases h;have g:xv=_:=g;subst g;have hu:=hT.2.1;exact⟨rfl,.int .i64 0,by simp[Builtin.len_,aS hu,goInt],BP (j 0 sc)⟩
 .rename_i o el b s d f;cases d;cases f;cases h;obtain⟨rfl,h1⟩:=F4 g;have hu:P.underlying t=some .string:=hT.2;exact⟨rfl,.int .i64 (s.size:Int),by simp[Builtin.len_,aS hu,goInt],BP (j _ h1)⟩
 cases h
theorem m8 {i:Nat} {x:AV} {xv:Value} (w:World) (h:Ea i (some x)=some (vc,v,obs)) (g:Bu V x xv) :
  obs=[]/\∃u,(Instr.extract xv i).run P w=.ok u w/\Bu V v u:=by
 have get:∀(l:List AV) (a:List Value) (i:Nat) (y:AV),Gz V l a->l[i]?=some y->∃u,a[i]?=some u/\Bu V y u:=by
  intro l;induction l with
  | nil=>intro a i y _ h;simp at h
  | cons z r j =>
   intro a i y c h;obtain⟨u,k,rfl,h1,d⟩:=c;cases i with
   | zero =>
    simp at h;subst h;exact⟨u,rfl,rG h1⟩
   | succ i=>exact j k i y d (by simpa using h)
 unfold Ea at h;split at h
 .rename_i l e;cases e;obtain⟨a,rfl,c⟩:=g;cases b:l[i]? with
  | none=>rw[b]at h;simp[GK]at h
  | some y =>
   rw[b]at h;simp only[GK]at h;cases h;obtain⟨u,hu,f⟩:=get l a i _ c b;exact⟨rfl,u,by simp[Instr.extract,hu],f⟩
 cases h
theorem A5L {x y:AV} {xv:Value} {ts:Array TypeId} {ty:TypeId} (w:World) (h:RF (some x) (some y)=some (vc,v,obs)) (g:Bu V x xv) (i:Bu V y d) :
  obs=[]/\∃u,(Builtin.min_ ts ty #[xv,d]).run P w=.ok u w/\Bu V v u:=by
 unfold RF at h;split at h
 .rename_i k a j b e f;cases e;cases f;split at h
  .rename_i hk;subst hk;cases h;obtain⟨rfl,ha⟩:=BM g;obtain⟨rfl,c⟩:=BM i;have ha:HY k a:=ha;have c:HY k b:=c;refine⟨rfl,.int k (if (b:Int)<a then b else a),by simp[Builtin.min_,Builtin.min2],BP ?_⟩;split
   .exact c
   exact ha
  cases h
 cases h
theorem A3z {x y z:AV} {xv f g:Value} {ts:Array TypeId} {ty:TypeId} (w:World) (h:IP (some x) (some y) (some z)=some (vc,v,obs)) (o:Bu V x xv) (p:Bu V y f) (q:Bu V z g) :
  obs=[]/\∃u,(Builtin.min_ ts ty #[xv,f,g]).run P w=.ok u w/\Bu V v u:=by
 unfold IP at h;split at h
 .rename_i k a s b t c i j l;cases i;cases j;cases l;split at h
  .rename_i hk;obtain⟨m,n⟩:=hk;subst m;subst n;cases h;obtain⟨rfl,ha⟩:=BM o;obtain⟨rfl,d⟩:=BM p;obtain⟨rfl,e⟩:=BM q;have ha:HY k a:=ha;have d:HY k b:=d;have e:HY k c:=e;refine⟨rfl,.int k (if (c:Int)<(if (b:Int)<a then b else a) then c else (if (b:Int)<a then b else a)),by simp[Builtin.min_,Builtin.min2],BP ?_⟩;by_cases r:(b:Int)<a
   .grind
   grind
  cases h
 cases h
theorem A5M {x y:AV} {xv:Value} {ts:Array TypeId} {ty:TypeId} (w:World) (h:RG (some x) (some y)=some (vc,v,obs)) (g:Bu V x xv) (i:Bu V y d) :
  obs=[]/\∃u,(Builtin.max_ ts ty #[xv,d]).run P w=.ok u w/\Bu V v u:=by
 unfold RG at h;split at h
 .rename_i k a j b e f;cases e;cases f;split at h
  .rename_i hk;subst hk;cases h;obtain⟨rfl,ha⟩:=BM g;obtain⟨rfl,c⟩:=BM i;have ha:HY k a:=ha;have c:HY k b:=c;refine⟨rfl,.int k (if (a:Int)<b then b else a),by simp[Builtin.max_,Builtin.max2],BP ?_⟩;split
   .exact c
   exact ha
  cases h
 cases h
theorem A3A {t:TypeId} (hu:P.underlying t=some .string) (w:World) {kd:IntKind} {k:Int} (h0:0<=k) (h1:k<(s.size:Int)) :
  (Instr.index t (.string s) (.int kd k)).run P w=.ok (.int .u8 ((s.data.getD k.toNat 0).toNat:Int)) w/\HY .u8 ((s.data.getD k.toNat 0).toNat:Int):=by
 have a:k.toNat<s.size:=by omega
 have d:k.toNat<s.data.size:=a;have c:s[k.toNat]?=some (s.data.getD k.toNat 0):=by
  rw[getElem?_pos s k.toNat a];simp only[Array.getD,d,dite_true];rfl
 refine⟨by simp[Instr.index,asIntOf,aS hu,h0,c],?_⟩;generalize s.data.getD k.toNat 0=b;have:=b.toNat_lt;simp[HY,IntKind.min,IntKind.max,IntKind.signed,IntKind.bits];omega
theorem rU {t:TypeId} {x y:AV} {xv c:Value} (hT:Dh P tb t ti) (w:World) (h:EJ (some ti) (some x) (some y)=some (vc,v,obs)) (a:vc) (i:Bu V x xv) (j:Bu V y c) :
  obs=[]/\∃u,(Instr.index t xv c).run P w=.ok u w/\Bu V v u:=by
 unfold EJ at h;split at h
 .rename_i o el b s kd k e f g;cases e;cases f;cases g;cases h;obtain⟨rfl,_⟩:=F4 i;obtain⟨rfl,_⟩:=BM j;have hu:P.underlying t=some .string:=hT.2;obtain⟨h1,d⟩:=A3A (P:=P) hu w (kd:=kd) a.1 a.2;exact⟨rfl,_,h1,BP d⟩
 cases h
theorem A5N {x:AV} {xv:Value} (h:VQ (some x)=some (vc,v,obs)) (e:Bu V x xv):obs=[]/\(∃ad,xv=.pointer (some ad))/\Bu V v xv:=by
 unfold VQ at h;split at h
 .rename_i a;cases a;cases h;obtain⟨d,b,f,rfl⟩:=e;exact⟨rfl,⟨_,rfl⟩,d,b,f,rfl⟩
 .rename_i a;cases a;cases h;obtain⟨ad,cs,rfl,r⟩:=e;exact⟨rfl,⟨_,rfl⟩,ad,cs,rfl,r⟩
 .rename_i a;cases a;cases h;obtain⟨d,g,m,c,f,i,rfl⟩:=e;exact⟨rfl,⟨_,rfl⟩,d,g,m,c,f,i,rfl⟩
 cases h
end
end
section
open Go Go.RowKit
section
variable {P:Program} {tb:Tb} {id:TypeId} {ti:TI} {V:Vw} {vc:Prop} {v:AV} {obs:List (Nat×Obj)}
def Ek (a:Option Addr) (c l sz:Nat):Option Addr:=if c=l then a else a.map (·.add (l*sz))
inductive jI:Option Value->Nat->Nat->Prop
 | none (d:Nat):jI none d d
 | some (k:IntKind) (z:Int) (d:Nat) (h:0<=z):jI (some (.int k z)) d z.toNat
theorem rV {el:TypeId} (hu:P.underlying id=some (.slice el)) {sz:Nat} (w:World) (hs:(sizeOf el).run P w=.ok sz w) {n c l h:Nat} {lo:Option Value}
  (i:jI lo 0 l) (hh:jI C n h) (h1:l<=h) (m:h<=c) :
  (Instr.sliceAt id (.slice a n c) lo C none).run P w=.ok (.slice (Ek a c l sz) (h-l) (c-l)) w:=by
 cases i with
 | none =>
  cases hh with
  | none=>simp[Instr.sliceAt,aS hu,Instr.slice,Instr.sliceBounds,hs,Ek]
  | some k z _ b =>
   have e:z<=(c:Int):=by omega
   simp[Instr.sliceAt,aS hu,Instr.slice,Instr.sliceBounds,Instr.sliceBound,asIntOf,hs,Ek,b,e]
 | some k z _ b =>
  cases hh with
  | none =>
   have e:z<=(n:Int):=by omega
   simp[Instr.sliceAt,aS hu,Instr.slice,Instr.sliceBounds,Instr.sliceBound,asIntOf,hs,Ek,b,e]
  | some o d _ j =>
   have e:d<=(c:Int):=by omega
   have f:max d 0=d:=by omega
   have g:z<=d:=by omega
   simp[Instr.sliceAt,aS hu,Instr.slice,Instr.sliceBounds,Instr.sliceBound,asIntOf,hs,Ek,b,j,e,f,g]
theorem A3B (hu:P.underlying id=some .string) (w:World) {l h:Nat} {lo:Option Value} (f:jI lo 0 l) (hh:jI C s.size h) (h1:l<=h) (i:h<=s.size) :
  (Instr.sliceAt id (.string s) lo C none).run P w=.ok (.string (s.extract l h)) w:=by
 cases f with
 | none =>
  cases hh with
  | none=>simp[Instr.sliceAt,aS hu,Instr.slice,Instr.sliceBounds]
  | some k z _ a =>
   have e:z<=(s.size:Int):=by omega
   simp[Instr.sliceAt,aS hu,Instr.slice,Instr.sliceBounds,Instr.sliceBound,asIntOf,a,e]
 | some k z _ a =>
  cases hh with
  | none =>
   have e:z<=(s.size:Int):=by omega
   simp[Instr.sliceAt,aS hu,Instr.slice,Instr.sliceBounds,Instr.sliceBound,asIntOf,a,e]
  | some j b _ g =>
   have e:b<=(s.size:Int):=by omega
   have c:max b 0=b:=by omega
   have d:z<=b:=by omega
   simp[Instr.sliceAt,aS hu,Instr.slice,Instr.sliceBounds,Instr.sliceBound,asIntOf,a,g,e,c,d]
theorem A0k {xs:List e.den} {n c l h:Nat} (p:Bn V.w V.O (.slice e) [.slice a n c] xs) (h1:l<=h) (g:h<=xs.length) :
  BQ V.w V.O (.slice e) (.slice (Ek a c l e.size) (h-l) (c-l)) (sub xs l h)/\n=xs.length/\h<=c:=by
 obtain⟨q,r,f,s,t,b⟩:=p;injection f with f
 injection f with j k m
 subst j;subst k;subst m;have d:=Mj xs (lo:=l) g;refine⟨⟨_,⟨Ek a c l e.size,c-l,by rw[d],by rw[d];omega,by rw[d];omega,?_⟩,rfl⟩,rfl,by omega⟩;by_cases v:l<h
 .right;rcases b with b|⟨ad,rfl,o,u⟩
  .subst b;simp at g;omega
  refine⟨ad.add (l*e.size),?_,by rw[Bv];exact o,λi x hi=>?_⟩
  .grind [Ek]
  obtain⟨y,_⟩:=XX xs l h i hi;grind [Cf]
 simp_all
theorem rW {loc:Value} {sz b c0 l h:Nat} {n c:Nat} (s:C6 loc sz b c0 (.slice a n c)) (h1:l<=h) (x:h<=c0-b) :
  C6 loc sz (b+l) (b+h) (.slice (Ek a c l sz) (h-l) (c-l))/\n=c0-b/\h<=c:=by
 obtain⟨d,m,e,q,y,A,v,w,t,z,j,k⟩:=s;injection t with f g i
 subst f;subst g;subst i;refine⟨⟨d,m,e,q,by omega,by omega,Ek a c l sz,c-l,by rw[show b+h-(b+l)=h-l by omega],by omega,λC=>?_,λB=>?_⟩,rfl,by omega⟩
 .have o:b=0:=by omega
  have p:l=0:=by omega
  subst o;subst p;obtain⟨u,D⟩:=j rfl;refine⟨?_,by omega⟩;rw[<-u];unfold Ek;split
  .rfl
  simp only[ACv];cases a<;>rfl
 have:=k O1;subst this;have r:¬c=l:=by omega
 simp only[Ek,As r,Option.map_map]
 congr 1
 grind [Cf]
theorem RH (s:ByteArray) (l h:Nat):(s.extract l h).size<=s.size:=by
 simp only[ByteArray.size_extract];omega
theorem Sc (hT:Dh P tb id ti) (k:Cs P tb) (f:ti.ty=.slice e) {l:List e.den} {xv:Value} {lo:Option Value} {a h:Nat}
  (n:BQ V.w V.O (.slice e) xv l) (m:jI lo 0 a) (hh:jI C l.length h) (h1:a<=h) (g:h<=l.length) :
  ∃u,(Instr.sliceAt id xv lo C none).run P V.w=.ok u V.w/\Bu V (.p (.slice e) (sub l a h)) u:=by
 obtain⟨ty,offs,el,bytes⟩:=ti;simp only at f;subst f;obtain⟨hu,hs,_⟩:=CM hT k;obtain⟨cs,b,rfl⟩:=n;obtain⟨d,c,rfl,r⟩:=b;have b:Bn V.w V.O (.slice e) [.slice d l.length c] l:=⟨d,c,rfl,r⟩;obtain⟨i,_,j⟩:=A0k b h1 g;exact⟨_,rV hu _ (hs _) m hh h1 j,i⟩
theorem Sd (hT:Dh P tb id ti) (k:Cs P tb) {n b c0:Nat} (c:ti.ty=.slice e) {xv:Value} {lo:Option Value} {a h:Nat}
  (o:Bu V (.sr n e b c0) xv) (l:jI lo 0 a) (hh:jI C (c0-b) h) (h1:a<=h) (f:h<=c0-b) :
  ∃u,(Instr.sliceAt id xv lo C none).run P V.w=.ok u V.w/\Bu V (.sr n e (b+a) (b+h)) u:=by
 obtain⟨ty,offs,el,bytes⟩:=ti;simp only at c;subst c;obtain⟨hu,hs,_⟩:=CM hT k;obtain⟨j,d⟩:=o;have m:=d;obtain⟨_,_,_,_,_,_,p,q,rfl,_⟩:=m;obtain⟨g,r,i⟩:=rW d h1 f;exact⟨_,rV hu _ (hs _) l hh h1 i,j,g⟩
theorem Se (hT:Dh P tb id ti) (c:ti.ty=.str) {xv:Value} {lo:Option Value} {a h:Nat}
  (f:BQ V.w V.O .str xv s) (d:jI lo 0 a) (hh:jI C s.size h) (h1:a<=h) (b:h<=s.size) :
  ∃u,(Instr.sliceAt id xv lo C none).run P V.w=.ok u V.w/\Bu V (.p .str (s.extract a h)) u:=by
 obtain⟨rfl,e⟩:=F4 f;have hu:=hT.2;rw[c]at hu;exact⟨_,A3B hu _ d hh h1 b,Sb (gO (RH s a h) e)⟩
theorem H5 {n:Nat} (_h:0<=z) (a:z<=(n:Int)):z.toNat<=n:=by omega
theorem Xd {a b:Int} (h:a<=b):a.toNat<=b.toNat:=by omega
def ZF:Option AV->Option Value->Prop
 | none,none=>True
 | some x,some v=>Bu V x v
 | _,_=>False
theorem rZ (hT:Dh P tb id ti) (m:Cs P tb) {x ha i:AV} {xv f g:Value} (h:Dv (some ti) (some x) (some ha) (some i)=some (vc,v,obs)) (B:vc) (C:Bu V x xv) (hh:Bu V ha f) (y:Bu V i g) :
  obs=[]/\∃u,(Instr.sliceAt id xv none (some f) (some g)).run P V.w=.ok u V.w/\Bu V v u:=by
 unfold Dv at h;split at h
 .rename_i e offs el bytes F l D a E b n o p q;cases n;cases o;cases p;cases q;split at h
  .rename_i r;subst r;cases h;obtain⟨hu,hs,_⟩:=CM hT m;obtain⟨rfl,rfl⟩:=B;obtain⟨rfl,_⟩:=BM (hh:BQ V.w V.O (.int D) f _);obtain⟨rfl,_⟩:=BM (y:BQ V.w V.O (.int E) g _);obtain⟨cs,A,rfl⟩:=(C:BQ V.w V.O (.slice e) xv l);obtain⟨d,c,rfl,t,z,s⟩:=A;refine⟨rfl,.slice d (List.length l) (List.length l),?_,⟨_,⟨d,_,rfl,OS _,z,s⟩,rfl⟩,d,rfl⟩;have j:((List.length l:Nat):Int)<=(c:Int):=by omega
   have k:(0:Int)<=((List.length l:Nat):Int):=by omega
   simp[Ty.wrap,Instr.sliceAt,aS hu,Instr.slice,Instr.sliceBounds,Instr.sliceBound,asIntOf,hs V.w,j,k,Addr.add];intro G;exact absurd t O1
  cases h
 cases h
theorem A0l (hT:Dh P tb id ti) (j:Cs P tb) {x:AV} {xv:Value} {lo hi:Option AV} 
  (h:E2 (some ti) (some x) (some lo) (some hi)=some (vc,v,obs)) (a:vc) (c:Bu V x xv) (g:ZF (V:=V) lo D) (f:ZF (V:=V) hi C) :
  obs=[]/\∃u,(Instr.sliceAt id xv D C none).run P V.w=.ok u V.w/\Bu V v u:=by
 have i:∀ {o:Option Value} (d:Nat),ZF (V:=V) none o->jI o d d:=λ{o} d h=>by
  cases o with
  | none=>exact .none d
  | some v=>exact h.elim
 have b1:∀ {o:Option Value} {k:IntKind} {z:Int} (d:Nat),ZF (V:=V) (some (.p (.int k) z)) o->0<=z->jI o d z.toNat:=λ{o k z} d h F=>by
  cases o with
  | none=>exact h.elim
  | some v =>
   obtain⟨rfl,_⟩:=BM (h:BQ V.w V.O (.int k) v z);exact .some k z d F
 unfold E2 at h;split at h
 .rename_i e offs el bytes E l B h0 q r t y;cases q;cases r;cases t;cases y;split at h
  .rename_i A;subst A;have c:BQ V.w V.O (.slice e) xv l:=c;unfold H0 at h;split at h<;>first|(cases h;done)|(rename_i m;cases m<;>cases h)
   .exact⟨rfl,Sc hT j rfl c (i 0 g) (b1 _ f a.1) (Do _) (H5 a.1 a.2)⟩
   .exact⟨rfl,Sc hT j rfl c (b1 0 g a.1) (i _ f) (H5 a.1 a.2) (OS _)⟩
   exact⟨rfl,Sc hT j rfl c (b1 0 g a.1) (b1 _ f (AB6 a.1 a.2.1)) (Xd a.2.1) (H5 (AB6 a.1 a.2.1) a.2.2)⟩
  cases h
 .rename_i e offs el bytes n E b c0 B h0 q r t y;cases q;cases r;cases t;cases y;split at h
  .rename_i A;subst A;unfold H0 at h;split at h<;>first|(cases h;done)|(rename_i m;cases m<;>cases h)
   .refine⟨rfl,?_⟩;have:=Sd (P:=P) hT j rfl c (i 0 g) (b1 _ f a.1) (Do _) (H5 a.1 a.2);simpa using this
   .refine⟨rfl,?_⟩;have:=Sd (P:=P) hT j rfl c (b1 0 g a.1) (i _ f) (H5 a.1 a.2) (OS _);have H:=H5 a.1 a.2;obtain⟨_,_,_,_,_,G,_⟩:=c;grind
   exact⟨rfl,Sd hT j rfl c (b1 0 g a.1) (b1 _ f (AB6 a.1 a.2.1)) (Xd a.2.1) (H5 (AB6 a.1 a.2.1) a.2.2)⟩
  cases h
 .rename_i offs el bytes s B h0 q r t y;cases q;cases r;cases t;cases y;have c:BQ V.w V.O .str xv s:=c;unfold H0 at h;split at h<;>first|(cases h;done)|(rename_i m;cases m<;>cases h)
  .exact⟨rfl,Se hT rfl c (i 0 g) (b1 _ f a.1) (Do _) (H5 a.1 a.2)⟩
  .exact⟨rfl,Se hT rfl c (b1 0 g a.1) (i _ f) (H5 a.1 a.2) (OS _)⟩
  exact⟨rfl,Se hT rfl c (b1 0 g a.1) (b1 _ f (AB6 a.1 a.2.1)) (Xd a.2.1) (H5 (AB6 a.1 a.2.1) a.2.2)⟩
 cases h
end
end
end Go.Proofs.YtglkoagnnnpimaaGreatDoor.Fw
