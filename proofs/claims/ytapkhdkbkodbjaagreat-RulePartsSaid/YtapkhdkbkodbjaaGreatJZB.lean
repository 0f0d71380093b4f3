/- The executor's quiet operations are sound, first part. -/
import Derived.Test.YtapkhdkbkodbjaaGreatJZA
import Derived.Laws.IdiomStrings
set_option linter.unusedVariables false
set_option linter.unusedSimpArgs false
namespace Go.Proofs.YtapkhdkbkodbjaaGreat.Fw
section
open Go Go.RowKit
theorem Pk {w:World} {O:Nat->Prop}:∀ {t:Ty} {k:Nat} {d:t.den} {pv:PV} {cs:List Value},HI t k d=some pv->B0 w O t cs d ->
  aP t k=some pv.t/\∃o,KQ t k=some o/\o+pv.t.size<=t.size/\B0 w O pv.t ((cs.drop o).take pv.t.size) pv.d
 | .prod a b,0,d,pv,cs,h,c=>by
  simp only[HI]at h;cases h;obtain⟨c1,c2,rfl,h1,f⟩:=c;refine⟨rfl,0,rfl,by simp[Ty.size],?_⟩;have e:=h1.length;simp only[YJ,<-e,List.take_left];exact h1
 | .prod a b,k+1,d,pv,cs,h,c=>by
  simp only[HI]at h;obtain⟨c1,c2,rfl,h1,f⟩:=c;obtain⟨g,o,i,l,j⟩:=Pk h f;refine⟨g,a.size+o,by simp[KQ,i],by simp[Ty.size];omega,?_⟩;have e:=h1.length;rw[<-e,<-AEH,AEz];exact j
 | .int _,0,d,pv,cs,h,c=>by
  simp only[HI]at h;cases h;refine⟨rfl,0,rfl,by simp,?_⟩;have e:=c.length;simp only[YJ,<-e,UE];exact c
 | .bool,0,d,pv,cs,h,c=>by
  simp only[HI]at h;cases h;refine⟨rfl,0,rfl,by simp,?_⟩;have e:=c.length;simp only[YJ,<-e,UE];exact c
 | .str,0,d,pv,cs,h,c=>by
  simp only[HI]at h;cases h;refine⟨rfl,0,rfl,by simp,?_⟩;have e:=c.length;simp only[YJ,<-e,UE];exact c
 | .slice _,0,d,pv,cs,h,c=>by
  simp only[HI]at h;cases h;refine⟨rfl,0,rfl,by simp,?_⟩;have e:=c.length;simp only[YJ,<-e,UE];exact c
 | .ref _,0,d,pv,cs,h,c=>by
  simp only[HI]at h;cases h;refine⟨rfl,0,rfl,by simp,?_⟩;have e:=c.length;simp only[YJ,<-e,UE];exact c
 | .ref _,_+1,d,pv,cs,h,c=>by simp[HI]at h
 | .agg _,0,d,pv,cs,h,c=>by
  simp only[HI]at h;cases h;refine⟨rfl,0,rfl,by simp,?_⟩;have e:=c.length;simp only[YJ,<-e,UE];exact c
 | .int _,_+1,d,pv,cs,h,c=>by simp[HI]at h
 | .bool,_+1,d,pv,cs,h,c=>by simp[HI]at h
 | .str,_+1,d,pv,cs,h,c=>by simp[HI]at h
 | .slice _,_+1,d,pv,cs,h,c=>by simp[HI]at h
 | .agg _,_+1,d,pv,cs,h,c=>by simp[HI]at h
theorem pN {α:Type} (cs:List α) (o m a n:Nat) (h:a+n<=m):(((cs.drop o).take m).drop a).take n=(cs.drop (o+a)).take n:=by
 rw[List.drop_take,AFm,AEH]
 congr 1
 omega
theorem VP {w:World} {O:Nat->Prop}:∀ {f:List Nat} {t:Ty} {d:t.den} {pv:PV} {cs:List Value} {off:Nat},Th f t d=some pv->Lt f t=some off->B0 w O t cs d ->
  off+pv.t.size<=t.size/\B0 w O pv.t ((cs.drop off).take pv.t.size) pv.d
 | [],t,d,pv,cs,off,h,a,b=>by
  simp only[Th]at h;simp only[Lt]at a;cases h;cases a;have e:=b.length;simp only[YJ,<-e,UE];exact⟨by simp[e],b⟩
 | k :: r,t,d,pv,cs,off,h,a,b=>by
  cases t<;>simp only[Th,Lt]at h a<;>try(cases h;done)
  rename_i t;split at h
  ·rename_i p hp;have b:B0 w O t cs d:=b;obtain⟨h1,o,g,m,i⟩:=Pk hp b;rw[h1,g]at a;simp only[If]at a;obtain⟨n,l,rfl⟩:=a;obtain⟨j,c⟩:=VP h l i;refine⟨by simp only[Ty.size];omega,?_⟩;rw[pN _ _ _ _ _ j]at c;exact c
  ·cases h
def A3 {α:Type} (cs:List α) (o:Nat) (a:List α):List α:=cs.take o++a++cs.drop (o+a.length)
theorem FL {α:Type} {cs:List α} {o:Nat} {a:List α} (h:o+a.length<=cs.length):(A3 cs o a).length=cs.length:=by
 simp[A3];omega
theorem D5 {α:Type} {cs a:List α} (h:a.length=cs.length):A3 cs 0 a=a:=by
 simp[A3,h]
theorem Pl {α:Type} (a b:List α) (o:Nat) (c:List α):A3 (a++b) (a.length+o) c=a++A3 b o c:=by
 simp only[A3,List.take_append,AFw,UN];have h1:List.take (a.length+o) a=a:=As (by omega);have d:List.drop (a.length+o+c.length) a=[]:=By (by omega);have e:a.length+o-a.length=o:=by omega
 have f:a.length+o+c.length-a.length=o+c.length:=by omega
 rw[h1,d,e,f];simp
theorem So {α:Type} (a b:List α) (c:List α) (h:c.length=a.length):A3 (a++b) 0 c=c++b:=by
 simp[A3,h]
theorem eX {w:World} {O:Nat->Prop}:∀ {t:Ty} {k:Nat} {d i:t.den} {pv:PV} {cs g:List Value} {o:Nat},Nl t k d pv=some i->KQ t k=some o->B0 w O t cs d->B0 w O pv.t g pv.d ->
  B0 w O t (A3 cs o g) i/\aP t k=some pv.t
 | .prod a b,0,d,i,pv,cs,g,o,h,c,f,e=>by
  simp only[Nl,If]at h;obtain⟨y,l,rfl⟩:=h;have:=BI l;subst this;simp only[KQ]at c;cases c;obtain⟨c1,c2,rfl,h1,j⟩:=f;rw[So _ _ _ (by rw[e.length,h1.length])];exact⟨⟨g,c2,rfl,e,j⟩,rfl⟩
 | .prod a b,k+1,d,i,pv,cs,g,o,h,c,f,e=>by
  simp only[Nl,If]at h;obtain⟨y,l,rfl⟩:=h;simp only[KQ,If]at c;obtain⟨q,p,rfl⟩:=c;obtain⟨c1,c2,rfl,h1,j⟩:=f;obtain⟨m,n⟩:=eX l p j e;rw[<-h1.length,Pl];exact⟨⟨c1,_,rfl,h1,m⟩,n⟩
 | .int _,0,d,i,pv,cs,g,o,h,c,f,e=>by
  have:=BI h;subst this;simp only[KQ]at c;cases c;rw[D5 (by rw[e.length,f.length])];exact⟨e,rfl⟩
 | .bool,0,d,i,pv,cs,g,o,h,c,f,e=>by
  have:=BI h;subst this;simp only[KQ]at c;cases c;rw[D5 (by rw[e.length,f.length])];exact⟨e,rfl⟩
 | .str,0,d,i,pv,cs,g,o,h,c,f,e=>by
  have:=BI h;subst this;simp only[KQ]at c;cases c;rw[D5 (by rw[e.length,f.length])];exact⟨e,rfl⟩
 | .slice _,0,d,i,pv,cs,g,o,h,c,f,e=>by
  have:=BI h;subst this;simp only[KQ]at c;cases c;rw[D5 (by rw[e.length,f.length])];exact⟨e,rfl⟩
 | .ref _,0,d,i,pv,cs,g,o,h,c,f,e=>by
  have:=BI h;subst this;simp only[KQ]at c;cases c;rw[D5 (by rw[e.length,f.length])];exact⟨e,rfl⟩
 | .ref _,_+1,d,i,pv,cs,g,o,h,c,f,e=>by simp[Nl]at h
 | .agg _,0,d,i,pv,cs,g,o,h,c,f,e=>by
  have:=BI h;subst this;simp only[KQ]at c;cases c;rw[D5 (by rw[e.length,f.length])];exact⟨e,rfl⟩
 | .int _,_+1,d,i,pv,cs,g,o,h,c,f,e=>by simp[Nl]at h
 | .bool,_+1,d,i,pv,cs,g,o,h,c,f,e=>by simp[Nl]at h
 | .str,_+1,d,i,pv,cs,g,o,h,c,f,e=>by simp[Nl]at h
 | .slice _,_+1,d,i,pv,cs,g,o,h,c,f,e=>by simp[Nl]at h
 | .agg _,_+1,d,i,pv,cs,g,o,h,c,f,e=>by simp[Nl]at h
theorem Nx {α:Type} (cs:List α) (o m a:Nat) (b:List α) (h:a+b.length<=m) (i:o+m<=cs.length) :
  A3 cs o (A3 ((cs.drop o).take m) a b)=A3 cs (o+a) b:=by
 apply AEV;intro j;have c:(A3 ((cs.drop o).take m) a b).length=m:=by rw[FL]<;>simp<;>omega
 simp only[A3]at c ⊢;rw[c];simp only[AAe,GO,ON,YE,US,ADg];have d:min o cs.length=o:=by omega
 have e:min m (cs.length-o)=m:=by omega
 have f:min a m=a:=by omega
 have g:min (o+a) cs.length=o+a:=by omega
 rw[d,e,f,g];by_cases c1:j<o
 ·grind
 ·grind
theorem VQ {w:World} {O:Nat->Prop}:∀ {l:List Nat} {t:Ty} {d f:t.den} {pv:PV} {cs c:List Value} {off:Nat},VI l t d pv=some f->Lt l t=some off->B0 w O t cs d->B0 w O pv.t c pv.d ->
  B0 w O t (A3 cs off c) f/\off+c.length<=cs.length
 | [],t,d,f,pv,cs,c,off,h,b,a,e=>by
  have:=BI h;subst this;simp only[Lt]at b;cases b;rw[D5 (by rw[e.length,a.length])];exact⟨e,by simp[e.length,a.length]⟩
 | k :: r,t,d,f,pv,cs,c,off,h,b,a,e=>by
  cases t<;>simp only[VI,Lt]at h b<;>try(cases h;done)
  rename_i t;have a:B0 w O t cs d:=a;split at h
  ·rename_i p hp;obtain⟨h1,o,g,v,m⟩:=Pk hp a;rw[h1,g]at b;simp only[If]at b;obtain⟨z,s,rfl⟩:=b;split at h
   ·rename_i y u;obtain⟨n,i⟩:=VQ u s m e;have x:=a.length;have q:((cs.drop o).take p.t.size).length=p.t.size:=by simp;omega
    rw[q]at i;obtain⟨j,_⟩:=eX (pv:=⟨p.t,y⟩) h g a n;rw[Nx _ _ _ _ _ i (by omega)]at j;exact⟨j,by omega⟩
   ·cases h
  ·cases h
end
section
open Go Go.RowKit
section
variable {V:Vw}
theorem Nm.length {x:AV} {cs:List Value} (h:Nm V x cs):cs.length=x.cells:=by
 cases x;case p t d=>exact B0.length (show B0 V.w V.O t cs d from h)
 case ag l=>obtain⟨v,_,_,hf⟩:=h;exact hf.elim
 case tup l=>obtain⟨v,_,_,hf⟩:=h;exact hf.elim
 all_goals(obtain⟨v,rfl,_⟩:=h;rfl)
theorem Nm.one {x:AV} {cs:List Value} (h:Nm V x cs):∀u∈cs,u.oneCell'=true:=by
 cases x;case p t d=>exact B0.one (show B0 V.w V.O t cs d from h)
 all_goals(obtain⟨v,rfl,h1,_⟩:=h;intro u hu;simp at hu;subst hu;exact h1)
theorem Dn.one:∀ {l:List AV} {cs:List Value},Dn V l cs->∀u∈cs,u.oneCell'=true
 | [],cs,h=>by have h:cs=[]:=h;subst h;simp
 | x :: r,cs,h=>by
  obtain⟨c1,c2,rfl,h1,a⟩:=h;intro u hu;rcases No.1 hu with hu|hu
  ·exact h1.one u hu
  ·exact a.one u hu
theorem Dn.length:∀ {l:List AV} {cs:List Value},Dn V l cs->cs.length=CL l l.length
 | [],cs,h=>by have h:cs=[]:=h;subst h;rfl
 | x :: r,cs,h=>by
  obtain⟨c1,c2,rfl,h1,a⟩:=h;simp only[GO,OS,CL];rw[h1.length,a.length]
theorem Dn.get:∀ {l:List AV} {cs:List Value} {k:Nat} {x:AV},Dn V l cs->l[k]?=some x ->
  CL l k+x.cells<=cs.length/\Nm V x ((cs.drop (CL l k)).take x.cells)
 | [],cs,k,x,h,hk=>by simp at hk
 | y :: r,cs,0,x,h,hk=>by
  obtain⟨c1,c2,rfl,h1,a⟩:=h;simp at hk;subst hk;have:=h1.length;grind [CL]
 | y :: r,cs,k+1,x,h,hk=>by
  obtain⟨c1,c2,rfl,h1,a⟩:=h;have hk:r[k]?=some x:=by simpa using hk
  obtain⟨c,b⟩:=Dn.get a hk;have:=h1.length;refine⟨by simp only[CL,GO];omega,?_⟩;simp only[CL,<-this];rw[<-AEH,AEz];exact b
theorem Dn.set:∀ {l:List AV} {cs:List Value} {k:Nat} {x y:AV} {a:List Value},Dn V l cs->l[k]?=some x->Nm V y a->y.cells=x.cells ->
  Dn V (l.set k y) (A3 cs (CL l k) a)
 | [],cs,k,x,y,a,h,hk,b,c=>by simp at hk
 | z :: r,cs,0,x,y,a,h,hk,b,c=>by
  obtain⟨c1,c2,rfl,h1,d⟩:=h;simp at hk;subst hk;simp only[CL,AEO];rw[So _ _ _ (by rw[b.length,h1.length,c])];exact⟨a,c2,rfl,b,d⟩
 | z :: r,cs,k+1,x,y,a,h,hk,b,c=>by
  obtain⟨c1,c2,rfl,h1,d⟩:=h;have hk:r[k]?=some x:=by simpa using hk
  have:=h1.length;simp only[CL,AFf,<-this];rw[Pl];exact⟨c1,_,rfl,h1,Dn.set d hk b c⟩
theorem lF {ty:Ty} {x:AV} {b:List Value} (a:Nm V x b) (hf:Ca ty x=true):b.length=ty.size/\B7 V x (ty.wrap b):=by
 cases x;case p t d =>
  simp only[Ca,Fe]at hf;subst hf;have a:B0 V.w V.O ty b d:=a;exact⟨B0.length a,b,a,rfl⟩
 case ag l=>obtain⟨v,_,_,hf⟩:=a;exact hf.elim
 case tup l=>obtain⟨v,_,_,hf⟩:=a;exact hf.elim
 all_goals
  obtain⟨v,rfl,_,h1⟩:=a;have c:ty.cell1=true:=by simp only[Ca]at hf;first|exact hf|(simp only[AT]at hf;exact hf.2)|exact absurd hf (by decide)
  cases ty<;>first|(cases c;done)|exact⟨rfl,h1⟩
theorem A1t {ty:Ty} {x:AV} {v:Value} (i:B7 V x v) (hf:Ca ty x=true) (o:ty.cell1=true->v.oneCell'=true):v.cells.size=ty.size/\((∀l,x≠.ag l)->Nm V x v.cells.toList):=by
 cases x;case p t d =>
  simp only[Ca,Fe]at hf;subst hf;obtain⟨cs,f,rfl⟩:=i;have g:=f.length;cases ty;case agg t=>exact⟨by simpa[Ty.wrap,Value.cells] using g,λ_=>by simpa[Ty.wrap,Value.cells,Nm] using f⟩
  case prod a b=>exact⟨by simpa[Ty.wrap,Value.cells] using g,λ_=>by simpa[Ty.wrap,Value.cells,Nm] using f⟩
  case slice e =>
   obtain⟨a,c,rfl,h⟩:=f;exact⟨rfl,λ_=>⟨a,c,rfl,h⟩⟩
  case int k =>
   obtain⟨rfl,h⟩:=f;exact⟨rfl,λ_=>⟨rfl,h⟩⟩
  case bool =>
   have f:cs=_:=f;subst f;exact⟨rfl,λ_=>rfl⟩
  case str =>
   obtain⟨rfl,h⟩:=f;exact⟨rfl,λ_=>⟨rfl,h⟩⟩
  case ref k =>
   have f:cs=[Ln k]:=f;subst f;have q:(Ty.ref k).wrap [Ln k]=Ln k:=rfl;rw[q];match k with
   | 0=>exact⟨rfl,λ_=>rfl⟩
   | 1=>exact⟨rfl,λ_=>rfl⟩
   | _+2=>exact⟨rfl,λ_=>rfl⟩
 case ag l =>
  obtain⟨cs,rfl,n⟩:=i;have g:=n.length;cases ty<;>simp only[Ca]at hf<;>try(cases hf;done)
  rename_i t;simp only[YD]at hf;exact⟨by simp[Value.cells,Ty.size,g,hf],λh=>absurd rfl (h l)⟩
 case tup l=>simp[Ca]at hf
 all_goals
  have h1:ty.cell1=true:=by simp only[Ca]at hf;first|exact hf|(simp only[AT]at hf;exact hf.2)|exact absurd hf (by decide)
  have j:v.oneCell'=true:=o h1;have m:v.cells=#[v]:=by cases v<;>first|rfl|simp[Value.oneCell']at j
  have hs:ty.size=1:=by cases ty<;>simp[Ty.cell1]at h1<;>rfl
  rw[m];exact⟨by simp[hs],λ_=>⟨v,rfl,j,i⟩⟩
end
end
section
open Go Go.RowKit
section
variable {P:Program} {tb:Tb} {id:TypeId} {ti:TI} {w:World} {O0:Nat->Prop} {σ:St} {ρ:Nat->Value} {vc:Prop} {v:AV} {obs:List (Nat×Obj)}
theorem Yf {w:World} {base:Nat} {et:TypeId} {size:Nat} {g m c n:Nat} {cells:List Value} (h:w.ownsRow base et size (.slice (some ⟨g,0,none⟩) m c) n cells) :
  m=n/\∀(j:Nat) (u:Value),cells[j]?=some u->w.cell? ⟨g,j,none⟩=some u:=by
 constructor
 ·rcases h.2 with ⟨a,_⟩|⟨e,cap,d,a,_⟩
  ·injection a with h1;cases h1
  ·injection a
 ·intro j u b;have:=h.cells (g:=g) rfl j u b
  rwa [eK]at this
theorem A1u (hT:EH P tb id ti) (T:∀n o,lk n σ.objs=some o->A8 (vw w O0 σ ρ) o (ρ n)) {x:AV} {xv:Value}
  (h:Jp σ (some ti) (some x)=some (vc,v,obs)) (V:B7 (vw w O0 σ ρ) x xv):obs=[]/\∃u,(Instr.loadAt id xv).run P w=.ok u w/\B7 (vw w O0 σ ρ) v u:=by
 unfold Jp at h;split at h
 ·rename_i n X off N O;cases N;cases O;obtain⟨Z,b,z,rfl⟩:=V;cases hn:lk n σ.objs with
  | none=>rw[hn]at h;simp[El]at h
  | some o =>
   rw[hn]at h;cases o with
   | arr et e xs=>simp[El]at h
   | mapo k v l=>simp[El]at h
   | frame bf fs=>simp[El]at h
   | loop L=>simp[El]at h
   | itr ba bd bb bc ay=>simp[El]at h
   | dfr=>simp[El]at h
   | nest et az k e xs a=>simp[El]at h
   | box et st fs =>
    simp only[El]at h;cases a:Jn st fs X with
    | none=>rw[a]at h;simp[Il]at h
    | some y =>
     rw[a]at h;simp only[Il]at h;split at h
     ·rename_i H;obtain⟨B,C⟩:=H;cases h;obtain⟨bk,b',cs,s,am,M⟩:=T n _ hn;have z:ρ n=_:=z;rw[z]at s;injection s with s
      injection s with s
      injection s with s
      subst s;have D:∀(I:List Value) (o:Nat),I=(cs.drop o).take I.length->∀(j:Nat) (u:Value),I[j]?=some u->w.cell? ((⟨b,o,none⟩:Addr).add j)=some u:=by
       intro I o ab j u p;rw[Jm,cell_of_row w b (o+j) cs.toArray et (0,0) am];rw[ab,US,ADg]at p;split at p
       ·simpa using p
       ·cases p
      refine⟨rfl,?_⟩;unfold Jn at a;split at a
      · -- the whole
       simp only[Pa]at C;cases C;cases st with
       | true =>
        simp only[AD1]at a;cases a;have bi:=M.length;cases f:ti.ty<;>rw[f]at B<;>simp only[Ca]at B<;>try(cases B;done)
        rename_i t;simp only[YD]at B;have av:cs.length=ti.ty.size:=by rw[f];simp only[Ty.size];omega
        have:=Es w hT av (D cs 0 (by simp));refine⟨_,this,cs,?_,M⟩;rw[f];rfl
       | false =>
        simp only[ADB,AE4]at a;have ax:CL fs 0=0:=by cases fs<;>rfl
        obtain⟨h1,q⟩:=M.get a;rw[ax]at q;obtain⟨F,J⟩:=lF q B;have:=Es w hT F (D _ 0 (by rw[q.length]));exact⟨_,this,J⟩
      · -- a field
       rename_i k;cases st with
       | false=>simp at a
       | true =>
        simp only[AD1]at a;obtain⟨h1,q⟩:=M.get a;obtain⟨F,J⟩:=lF q B;have ar:off=CL fs k:=by
         simp only[Pa,a]at C;cases v<;>simp only[Lt,AEg,List.isEmpty_nil,AD1]at C<;>cases C<;>rfl
        subst ar;have:=Es w hT F (D _ (CL fs k) (by rw[q.length]));exact⟨_,this,J⟩
      ·rename_i k r U;cases st with
       | false=>simp at a
       | true =>
        simp only[AD1]at a;split at a
        ·rename_i t d hk;simp only[If]at a;obtain⟨pv,au,rfl⟩:=a;simp only[Pa,hk,If]at C;obtain⟨be,aq,rfl⟩:=C;obtain⟨h1,q⟩:=M.get hk;have q:B0 w (own O0 σ ρ) t _ d:=q;obtain⟨Y,G⟩:=VP au aq q;simp only[AV.cells]at h1 G;rw[pN _ _ _ _ _ Y]at G;simp only[Ca,Fe]at B;have Q:=G.length;have:=Es w hT (by rw[B];exact Q) (D _ (CL fs k+be) (by rw[Q]));rw[B]at this;exact⟨_,this,_,G,rfl⟩
        ·cases a
     ·cases h
 ·rename_i n e i X off N O;cases N;cases O;obtain⟨Z,g,m,c,z,ao,rfl⟩:=V;cases hn:lk n σ.objs with
  | none=>rw[hn]at h;simp[Em]at h
  | some o =>
   rw[hn]at h;cases o with
   | box et st fs=>simp[Em]at h
   | mapo k v l=>simp[Em]at h
   | frame bf fs=>simp[Em]at h
   | loop L=>simp[Em]at h
   | itr ba bd bb bc ay=>simp[Em]at h
   | dfr=>simp[Em]at h
   | nest et az k A xs a =>
    cases a with
    | some j=>simp[Em]at h
    | none =>
     simp only[Em]at h;split at h
     ·rename_i aj;subst aj;obtain⟨o,ins,cells,s,S⟩:=T n _ hn;have z:plc (ρ n)=_:=z;have ap:plc (ρ n)=o:=s.plc;have E:=S.own;rw[<-ap,z]at E;obtain⟨rfl,D⟩:=Yf E;have W:xs[i]?=some (xs.getD i (k.dflt,[])):=by grind
      have R:i<ins.length:=by rw[S.len];exact ao
      obtain⟨c1,v1,aa,af,F⟩:=S.row i _ ins[i] W (At R);rcases F with ⟨F,_⟩|⟨_,ag,J⟩
      ·cases F
      ·have ae:c1.length=k.size:=af.length;unfold OT at h;split at h
       ·split at h
        ·rename_i K;obtain⟨f,rfl⟩:=K;cases h;have:=Es (ad:=⟨g,i*(Ty.agg (.prod k (.slice A))).size+0,none⟩) w hT (by rw[f];exact ae) (λj u p=>by
          rw[Jm];refine D _ _ (aa j u ?_);rw[UR (UC.1 p).1];exact p)
         rw[f]at this;exact⟨rfl,_,this,c1,af,rfl⟩
        ·cases h
       ·split at h
        ·rename_i K;obtain⟨f,rfl⟩:=K;cases h;have:=Es (ad:=⟨g,i*(Ty.agg (.prod k (.slice A))).size+k.size,none⟩) (cs:=[v1]) w hT (by rw[f];rfl) (λj u p=>by
          have an:j=0:=by have:=(UC.1 p).1;simpa using this
          subst an;rw[Jm];refine D _ _ (aa k.size u ?_);rw[UT (by omega),ae,AE3];exact p)
         rw[f]at this;obtain⟨ah,ai,aw⟩:=A1n ag J;exact⟨rfl,_,this,Z,_,ah,ai,ins[i],s.resolve_right (λh=>by rw[h.2.2]at R;simp at R),by simp[R],ag,aw⟩
        ·cases h
       ·cases h
     ·cases h
   | arr et A xs =>
    simp only[Em]at h;cases H:BW (.slice e) ⟨.slice A,xs⟩ with
    | none=>rw[H]at h;simp[Io]at h
    | some ys =>
     obtain⟨rfl,q⟩:=Bq H;cases q;rw[H]at h;simp only[Io]at h;cases hp:Th X A (xs.getD i A.dflt) with
     | none=>rw[hp]at h;simp[Im]at h
     | some pv =>
      rw[hp]at h;simp only[Im]at h;split at h
      ·rename_i K;obtain⟨f,C⟩:=K;cases h;obtain⟨bj,cells,E,ak⟩:=T n _ hn;have z:plc (ρ n)=_:=z;have E:w.ownsRow 0 et A.size (ρ n) xs.length cells:=E;rw[HW E]at z;rw[z]at E;obtain⟨rfl,D⟩:=Yf E;have W:xs[i]?=some (xs.getD i A.dflt):=by grind
       obtain⟨I,ab,bh,al⟩:=ak i _ W;obtain⟨Y,G⟩:=VP hp C al;have Q:=G.length;have:=Es (ad:=⟨g,i*A.size+off,none⟩) w hT (by rw[f];exact Q) (λj u p=>by
        rw[Jm,AFo];rw[US,ADg]at p;split at p
        ·grind
        ·cases p)
       rw[f]at this;exact⟨rfl,_,this,_,G,rfl⟩
      ·cases h
 ·rename_i u d N O;cases N;cases O;obtain⟨ad,cs,rfl,bg,H,U⟩:=V;split at h
  ·rename_i f;cases h;have:=Es w hT (by rw[f];exact U.length) H;rw[f]at this;exact⟨rfl,_,this,cs,U,rfl⟩
  ·cases h
 ·cases h
end
end
section
open Go Go.RowKit
section
variable {P:Program} {tb:Tb} {id:TypeId} {ti:TI} {w:World} {V:Vw} {vc:Prop} {v:AV} {obs:List (Nat×Obj)}
theorem lG {α:Type} {l:List α} {k:Nat} {x:α} (h:l[k]?=some x):x∈l:=gO h
theorem eY (hT:EH P tb id ti) {u:Ty} (p:ti.ty=.agg u) (d:ti.el=0) {f k s:Nat} (hf:ti.offs[f]?=some (k,s)) (ad:Addr) (w:World) :
  (Instr.fieldAt id (.pointer (some ad)) f).run P w=.ok (.pointer (some (ad.add k))) w:=by
 obtain⟨⟨⟨m,_⟩,_⟩,a⟩:=hT;rw[p]at a;simp only at a;rcases a with ⟨fs,_,hu,o⟩|⟨n,e,i,l,_⟩
 ·have b:(ti.offs.map some)[f]?=some (some (k,s)):=by simp[hf]
  rw[o]at b;simp only[iS,If]at b;obtain⟨fl,h,g⟩:=b;obtain⟨i,hi,c⟩:=g;cases c;have j:fs[f]?=some fl:=by simpa using h
  have hs:i.size≠0:=m _ (lG hf);simp[Instr.fieldAt,UH hu,j,Instr.sureAddr,fieldPlace,sizeOf,L6 w hi,hs]
 ·exact absurd d l
theorem eZ (hT:EH P tb id ti) {u:Ty} (h:ti.ty=.agg u) (c:ti.el≠0) {k s:Nat} {z:Int} {kd:IntKind} (j:0<=z) (hf:ti.offs[z.toNat]?=some (k,s)) (ad:Addr) (w:World) :
  (Instr.indexAt id (.pointer (some ad)) (.int kd z)).run P w=.ok (.pointer (some (ad.add k))) w:=by
 obtain⟨_,a⟩:=hT;rw[h]at a;simp only at a;rcases a with ⟨fs,h0,_⟩|⟨n,e,i,_,hu,hi,g⟩
 ·exact absurd h0 c
 ·rw[g]at hf;simp only[iS,If]at hf;obtain⟨l,d,b⟩:=hf;cases b;obtain⟨h1,a⟩:=UC.1 d;simp only[AEE]at h1;simp only[AEp]at a;subst a;have f:z<(n:Int):=by omega
  simp[Instr.indexAt,asIntOf,UH hu,Instr.sureAddr,sizeOf,L6 w hi,j,f]
theorem A1v {f:Nat} {o:Option (Nat×Nat)} {x:AV} {xv:Value} {run:Value->Result Value} (y:∀k s ad,o=some (k,s)->run (.pointer (some ad))=.ok (.pointer (some (ad.add k))) w)
  (h:Pb f o x=some (vc,v,obs)) (z:B7 V x xv):obs=[]/\∃u,run xv=.ok u w/\B7 V v u:=by
 unfold Pb at h;split at h
 ·rename_i n G off;obtain⟨q,b,A,rfl⟩:=z;cases o with
  | none=>simp[VJ]at h
  | some p =>
   obtain⟨k,s⟩:=p;simp only[VJ]at h;cases h;exact⟨rfl,_,y k s _ rfl,q,b,A,by rw[Jm]⟩
 ·rename_i n e i G off;obtain⟨q,g,m,c,A,F,rfl⟩:=z;cases o with
  | none=>simp[VJ]at h
  | some p =>
   obtain⟨k,s⟩:=p;simp only[VJ]at h;cases h;exact⟨rfl,_,y k s _ rfl,q,g,m,c,A,F,by rw[Jm,AFo]⟩
 ·rename_i u d;obtain⟨ad,cs,rfl,D,E,t⟩:=z;cases r:HI u f d with
  | none=>rw[r]at h;simp[Ip]at h
  | some pv =>
   rw[r]at h;simp only[Ip]at h;split at h
   ·rename_i l;cases h;have t:B0 V.w V.O u cs d:=t;obtain⟨h1,I,B,H,C⟩:=Pk r t;rw[B]at l;cases o with
    | none=>simp at l
    | some p =>
     obtain⟨k,s⟩:=p;simp only[AEg,tO]at l;subst l;refine⟨rfl,_,y k s _ rfl,ad.add k,_,rfl,by rw[CO];exact D,λj u a=>?_,C⟩;rw[DV];rw[US,ADg]at a;split at a
     ·exact E _ _ a
     ·cases a
   ·cases h
 ·cases h
theorem A4V (hT:EH P tb id ti) {f:Nat} {x:AV} {xv:Value} (w:World)
  (h:HJ f (some ti) (some x)=some (vc,v,obs)) (e:B7 V x xv):obs=[]/\∃u,(Instr.fieldAt id xv f).run P w=.ok u w/\B7 V v u:=by
 unfold HJ at h;split at h
 ·rename_i u offs b g a c;cases a;cases c;exact A1v (run:=λxv=>(Instr.fieldAt id xv f).run P w) (λk s ad d=>eY hT rfl rfl d ad w) h e
 ·cases h
theorem Sp {e:TypeId} (hu:P.underlying id=some (.slice e)) {size:Nat} (hs:(sizeOf e).run P w=.ok size w) (a:Addr) (n c:Nat) (k:IntKind) (i:Int) (h0:0<=i) (h1:i<n) :
  (Instr.indexAt id (.slice (some a) n c) (.int k i)).run P w=.ok (.pointer (some (a.add (i.toNat*size)))) w:=by
 simp[Instr.indexAt,asIntOf,UH hu,h0,h1,hs]
theorem ADG {e:Ty} {el:TypeId} (hu:P.underlying id=some (.slice el)) (hs:(sizeOf el).run P V.w=.ok e.size V.w) {l:List e.den} {kd:IntKind} {k:Int} {xv:Value}
  (r:Bl V.w V.O (.slice e) xv l) (n:0<=k) (o:k<(l.length:Int)) :
  ∃u,(Instr.indexAt id xv (.int kd k)).run P V.w=.ok u V.w/\B7 V (.ip e (l.getD k.toNat e.dflt)) u:=by
 obtain⟨cs,h,rfl⟩:=r;obtain⟨a,c,rfl,h1,t,b⟩:=h;have p:k.toNat<l.length:=by omega
 rcases b with b|⟨ad,rfl,f,i⟩
 ·subst b;simp at p
 ·refine⟨_,Sp hu hs _ _ _ _ _ n o,?_⟩;have s:l[k.toNat]?=some (l.getD k.toNat e.dflt):=by grind
  obtain⟨d,v,g,q⟩:=i _ _ s;exact⟨_,d,rfl,by rw[CO];exact f,λj u m=>by rw[DV];exact g j u m,q⟩
theorem ADH {e:Ty} {el:TypeId} (hu:P.underlying id=some (.slice el)) (hs:(sizeOf el).run P V.w=.ok e.size V.w) {n lo hi:Nat} {kd:IntKind} {k:Int} {xv:Value}
  (s:B7 V (.sr n e lo hi) xv) (h:∀n,V.L n->∃o,A8 V o (V.ρ n)) (j:0<=k) (l:k<((hi-lo:Nat):Int)) :
  ∃u,(Instr.indexAt id xv (.int kd k)).run P V.w=.ok u V.w/\B7 V (.ep n e (lo+k.toNat) [] 0) u:=by
 obtain⟨b,a,m,c,f,A,z,t,v,rfl,y,h0,h1⟩:=s;have p:lo<hi:=by omega
 have i:=h1 p;obtain⟨o,q⟩:=h n b;obtain⟨g,rfl⟩:∃g,a=some ⟨g,0,none⟩:=by
  obtain⟨_,_,cells,r,_⟩:=Ye q f;rcases r.2 with ⟨d,hn⟩|⟨g,cap,x,d,_⟩
  ·injection d;omega
  ·grind
 subst i;refine⟨_,Sp hu hs _ _ _ _ _ j l,b,g,m,c,f,by omega,?_⟩;rw[DV,eK,AET];rfl
theorem BR {O:Nat->Prop} {w:World} {kd:IntKind} {k:Int} {v:Value} (h:Bl w O (.int kd) v k):v=.int kd k/\KO kd k:=by
 obtain⟨cs,⟨rfl,h1⟩,rfl⟩:=h;exact⟨rfl,h1⟩
theorem BU {O:Nat->Prop} {w:World} {kd:IntKind} {k:Int} (h:KO kd k):Bl w O (.int kd) (.int kd k) k:=⟨_,⟨rfl,h⟩,rfl⟩
theorem EM {O:Nat->Prop} {w:World} {b:Bool} {v:Value} (h:Bl w O .bool v b):v=.bool b:=by
 obtain⟨cs,h1,rfl⟩:=h;have h1:cs=_:=h1;subst h1;rfl
theorem Bm {O:Nat->Prop} {w:World} (b:Bool):Bl w O .bool (.bool b) b:=⟨[.bool b],rfl,rfl⟩
theorem Gu {O:Nat->Prop} {w:World} {s:ByteArray} {v:Value} (h:Bl w O .str v s):v=.string s/\s.size<=AP:=by
 obtain⟨cs,⟨rfl,h1⟩,rfl⟩:=h;exact⟨rfl,h1⟩
theorem VR {O:Nat->Prop} {w:World} {s:ByteArray} (h:s.size<=AP):Bl w O .str (.string s) s:=⟨_,⟨rfl,h⟩,rfl⟩
theorem CM {e:Ty} {offs:List (Nat×Nat)} {el:TypeId} {bytes:Nat} (hT:EH P tb id ⟨.slice e,offs,el,bytes⟩) (b:DH P tb) :
  P.underlying id=some (.slice el)/\(∀w,(sizeOf el).run P w=.ok e.size w)/\∃te,lk el tb.ty=some te/\te.ty=e:=by
 obtain⟨_,hu,te,a,rfl⟩:=hT;exact⟨hu,λw=>Hr w (b _ _ a),te,a,rfl⟩
theorem A4W (hT:EH P tb id ti) (m:DH P tb) {x y:AV} {xv p:Value}
  (h:F4 (some ti) (some x) (some y)=some (vc,v,obs)) (f:vc) (i:B7 V x xv) (j:B7 V y p) (r:∀n,V.L n->∃o,A8 V o (V.ρ n)) :
  obs=[]/\∃u,(Instr.indexAt id xv p).run P V.w=.ok u V.w/\B7 V v u:=by
 unfold F4 at h;split at h
 ·rename_i e offs el bytes q l kd k a c d;cases a;cases c;cases d;split at h
  ·rename_i g;subst g;cases h;obtain⟨hu,hs,_⟩:=CM hT m;obtain⟨rfl,_⟩:=BR j;exact⟨rfl,ADG hu (hs _) i f.1 f.2⟩
  ·cases h
 ·rename_i e offs el bytes n q lo hi kd k a c d;cases a;cases c;cases d;split at h
  ·rename_i g;subst g;cases h;obtain⟨hu,hs,_⟩:=CM hT m;obtain⟨rfl,_⟩:=BR j;exact⟨rfl,ADH hu (hs _) i r f.1 f.2⟩
  ·cases h
 ·rename_i u offs el b A B a c d;cases a;cases c;cases d;unfold KV at h;split at h
  ·rename_i kd k;split at h
   ·rename_i hk;obtain⟨rfl,_⟩:=BR j;exact A1v (run:=λxv=>(Instr.indexAt id xv (.int kd k)).run P V.w) (λz s ad t=>eZ hT rfl (by simp) hk t ad V.w) h i
   ·cases h
  ·cases h
 ·cases h
theorem Ki {k:IntKind} {n:Int} (h:KO k n):k.wrap n=n:=by
 obtain⟨h1,a⟩:=h;cases k<;>simp[IntKind.min,IntKind.max,IntKind.signed,IntKind.bits]at h1 a<;>simp[IntKind.wrap,IntKind.signed,IntKind.bits]<;>omega
theorem M9 (k:IntKind) (n:Int):KO k (k.wrap n):=by
 cases k<;>simp only[KO,IntKind.min,IntKind.max,IntKind.wrap,IntKind.signed,IntKind.bits]<;>simp<;>omega
theorem A8Q {op:BinOp} {t:TypeId} {k e:IntKind} {a b:Int} (w:World) (c:(bin op k a e b).1) (ha:KO k a) :
  ∃u,(binOp op t (.int k a) (.int e b)).run P w=.ok u w/\B7 V (bin op k a e b).2 u:=by
 unfold bin at c ⊢;split at c
 ·have d:¬b<0:=by have h:0<=b:=c;omega
  exact⟨_,by simp[binOp,Op.shift,d];rfl,BU (M9 _ _)⟩
 ·have d:¬b<0:=by have h:0<=b:=c.1;omega
  exact⟨_,by simp[binOp,Op.shift,d];rfl,BU c.2⟩
 ·split at c
  ·rename_i f g hk;subst hk;cases op<;>simp only[lB]at c ⊢;case add=>exact⟨.int k (a+b),by simp[binOp,Op.intArith,Ki c],BU c⟩
   case sub=>exact⟨.int k (a-b),by simp[binOp,Op.intArith,Ki c],BU c⟩
   case mul=>exact⟨.int k (a*b),by simp[binOp,Op.intArith,Ki c],BU c⟩
   case quo=>exact⟨.int k (a.tdiv b),by simp[binOp,Op.intDiv,c.1,Ki c.2],BU c.2⟩
   case rem=>exact⟨.int k (a.tmod b),by simp[binOp,Op.intDiv,c.1],BU c.2⟩
   case and=>exact⟨.int k (CC .and k a b),by simp only[binOp,ne_eq,AER,AE4,Op.intBits];rfl,BU (M9 _ _)⟩
   case or=>exact⟨.int k (CC .or k a b),by simp only[binOp,ne_eq,AER,AE4,Op.intBits];rfl,BU (M9 _ _)⟩
   case xor=>exact⟨.int k (CC .xor k a b),by simp only[binOp,ne_eq,AER,AE4,Op.intBits];rfl,BU (M9 _ _)⟩
   case andNot=>exact⟨.int k (CC .andNot k a b),by simp only[binOp,ne_eq,AER,AE4,Op.intBits];rfl,BU (M9 _ _)⟩
   case eql=>exact⟨.bool (a==b),by simp[binOp,Op.intCmp],Bm _⟩
   case neq=>exact⟨.bool (a != b),by simp[binOp,Op.intCmp],Bm _⟩
   case lss=>exact⟨.bool (decide (a<b)),by simp[binOp,Op.intCmp],Bm _⟩
   case leq=>exact⟨.bool (decide (a<=b)),by simp[binOp,Op.intCmp],Bm _⟩
   case gtr=>exact⟨.bool (decide (b<a)),by simp[binOp,Op.intCmp],Bm _⟩
   case geq=>exact⟨.bool (decide (b<=a)),by simp[binOp,Op.intCmp],Bm _⟩
  ·exact c.elim
theorem A4X {op:BinOp} {t:TypeId} {a b:ByteArray} (w:World) (c:(YP a b op).1) :
  ∃u,(binOp op t (.string a) (.string b)).run P w=.ok u w/\B7 V (YP a b op).2 u:=by
 cases op<;>simp only[YP]at c ⊢;case add =>
  have d:AP=140737488355328:=rfl;have hh:¬(((a.size+b.size:Nat):Int) > IntKind.i64.max):=by
   have:IntKind.i64.max=9223372036854775807:=by decide
   omega
  exact⟨.string (a++b),by simp only[binOp,Op.stringOp,An hh];rfl,VR (by simpa[AEs] using c)⟩
 case eql=>exact⟨.bool (AY a b),by simp only[binOp,Op.stringOp];rfl,Bm _⟩
 case neq=>exact⟨.bool (!AY a b),by simp only[binOp,Op.stringOp];rfl,Bm _⟩
 case lss=>exact⟨.bool (HR a b),by simp only[binOp,Op.stringOp];rfl,Bm _⟩
 case leq=>exact⟨.bool (HR a b||AY a b),by simp only[binOp,Op.stringOp];rfl,Bm _⟩
 case gtr=>exact⟨.bool (!(HR a b||AY a b)),by simp only[binOp,Op.stringOp];rfl,Bm _⟩
 case geq=>exact⟨.bool (!HR a b),by simp only[binOp,Op.stringOp];rfl,Bm _⟩
 all_goals exact c.elim
theorem AAh {op:BinOp} {t:TypeId} {ti:Option TI} (n:Sk ti=true->P.underlying t=some .bool) {x y:AV} {xv l:Value} (w:World)
  (h:Ra op ti (some x) (some y)=some (vc,v,obs)) (m:vc) (i:B7 V x xv) (j:B7 V y l) :
  obs=[]/\(∀e f,(eqGuard op t e f xv l).run P w=.ok () w)/\∃u,(binOp op t xv l).run P w=.ok u w/\B7 V v u:=by
 unfold Ra at h;split at h
 ·rename_i k a o b c d;cases c;cases d;cases h;obtain⟨rfl,ha⟩:=BR i;obtain⟨rfl,_⟩:=BR j;refine⟨rfl,λe f=>?_,A8Q w m ha⟩;cases op<;>simp[eqGuard]
 ·rename_i a b c d;cases c;cases d;cases h;obtain⟨rfl,ha⟩:=Gu i;obtain⟨rfl,_⟩:=Gu j;refine⟨rfl,λe f=>?_,A4X w m⟩;cases op<;>simp[eqGuard]
 ·rename_i a b c d;cases c;cases d;have ha:=EM i;have g:=EM j;subst ha g;split at h
  ·rename_i g;have hu:=n g;cases op<;>simp only[lE]at h<;>cases h
   ·exact⟨rfl,λe f=>by simp[eqGuard],.bool (a==b),by simp[binOp,run_equal_bool w t a b hu],Bm _⟩
   ·exact⟨rfl,λe f=>by simp[eqGuard],.bool (a != b),by simp[binOp,run_equal_bool w t a b hu,bne],Bm _⟩
  ·cases h
 ·cases h
theorem ADI {op:UnOp} {x:AV} {xv:Value} (w:World) (h:qUn op (some x)=some (vc,v,obs)) (c:vc) (e:B7 V x xv) :
  obs=[]/\∃u,(Op.unary op xv).run P w=.ok u w/\B7 V v u:=by
 unfold qUn at h;split at h
 ·rename_i b d;cases d;cases h;have:=EM e;subst this;exact⟨rfl,.bool (!b),by simp[Op.unary],Bm _⟩
 ·rename_i k a d;cases d;cases h;obtain⟨rfl,ha⟩:=BR e;have c:KO k (0-a):=c;exact⟨rfl,_,by simp only[Op.unary,Op.intArith,Ki c];rfl,BU c⟩
 ·cases h
end
end
section
open Go Go.RowKit
section
variable {P:Program} {tb:Tb} {id:TypeId} {ti:TI} {w:World} {V:Vw} {vc:Prop} {v:AV} {obs:List (Nat×Obj)}
theorem lH (l:List Int):(Sl l).size=l.length:=by
 show (Sl l).data.size=l.length;unfold Sl;simp
theorem A8R (G:DH P tb) (H:V.w=w) {s t:TypeId} {B ti:TI} (hs:EH P tb s B) (y:EH P tb t ti) {x:AV} {xv:Value} (h:Jq (some B) (some ti) (some x)=some (vc,v,obs)) (i:vc) (A:B7 V x xv) :
  obs=[]/\∃u,(convert s t xv).run P w=.ok u w/\B7 V v u:=by
 unfold Jq at h;split at h
 ·rename_i T U m b1 k W D b2 ab a n o p;cases n;cases o;cases p;cases h;obtain⟨rfl,ha⟩:=BR A;have i:KO k a:=i;have f:P.underlying s=some (.int T):=hs.2;have g:P.underlying t=some (.int k):=y.2;refine⟨rfl,.int k a,?_,BU i⟩;simp[convert,UH f,UH g,Conv.intToInt,Ki i]
 ·rename_i U m b1 W D b2 l n o p;cases n;cases o;cases p;cases h;obtain⟨f,te,O,Q⟩:=hs.2;have g:P.underlying t=some .string:=y.2;have z:P.underlying m=some (.int .u8):=by
   have:=(G _ _ O).2;rw[Q]at this;exact this
  obtain⟨cs,⟨a,c,rfl,h1,E,d⟩,rfl⟩:=A;have N:(Sl l).size<=AP:=by rw[lH];exact E
  refine⟨rfl,.string (Sl l),?_,⟨[.string (Sl l)],⟨rfl,N⟩,rfl⟩⟩;have L:a=none->l=[]:=λe=>by grind
  cases a with
  | none =>
   have:=L rfl;subst this;show (convert s t (.slice none 0 c)).run P w=_;have C:Sl []=ByteArray.empty:=rfl;rw[C];simp[convert,UH f,UH g,UH z,Conv.bytesToString]
  | some ad =>
   have r:=run_convert_bytes_back (P:=P) w s t m ad c (l.map λx=>UInt8.ofNat x.toNat) f z g λj q=>by
    have b:j<List.length l:=by rw[Of]at q;exact q
    rcases d with d|⟨X,d,Z,F⟩
    ·rw[d]at b;cases b
    ·cases d;obtain⟨Y,-,J,M⟩:=F j l[j] (At b);obtain⟨rfl,K⟩:=M;have I:=J 0 (.int .u8 l[j]) rfl;rw[H]at I;obtain⟨R,S⟩:(0:Int)<=(l:List Int)[j]'b/\(l:List Int)[j]'b<=255:=by
      simpa[KO,IntKind.min,IntKind.max,IntKind.signed,IntKind.bits] using K
     have e:(((List.map (λx:Int=>UInt8.ofNat x.toNat) l)[j]'q).toNat:Int)=l[j]:=by
      rw[AEl,UInt8.toNat_ofNat'];have aa:((l:List Int)[j]'b).toNat % 2 ^ 8=((l:List Int)[j]'b).toNat:=Nat.mod_eq_of_lt ((AEZ R).2 (AFk S (by decide)));grind
     grind [Ty.size]
   rw[Of]at r;exact r
 ·cases h
theorem AAi (r:∀n,V.L n->∃o,A8 V o (V.ρ n)) {x:AV} {xv:Value} {t ty:TypeId} (hT:EH P tb t ti) (w:World) (h:Tk (some ti) (some x)=some (vc,v,obs)) (g:B7 V x xv) :
  obs=[]/\∃u,(Builtin.len_ #[t] ty #[xv]).run P w=.ok u w/\B7 V v u:=by
 have j:∀n:Nat,n<=AP->KO .i64 (n:Int):=λn hn=>by
  simp[KO,IntKind.min,IntKind.max,IntKind.signed,IntKind.bits];simp[AP]at hn;omega
 unfold Tk at h;split at h
 ·rename_i e o el b q l d f;cases d;cases f;cases h;obtain⟨cs,⟨a,c,rfl,h1,y,_⟩,rfl⟩:=g;have hu:=hT.2.1;exact⟨rfl,.int .i64 (List.length l:Int),by simp[Builtin.len_,UH hu,goInt,Ty.wrap],BU (j _ y)⟩
 ·rename_i e o el b n q lo hi d f;cases d;cases f;cases h;obtain⟨k,a,m,c,C,I,H,E,F,rfl,G,h0,h1⟩:=g;have hu:=hT.2.1;obtain⟨D,p⟩:=r n k;obtain⟨_,_,_,_,this⟩:=Ye p C;exact⟨rfl,.int .i64 ((hi-lo:Nat):Int),by simp[Builtin.len_,UH hu,goInt],BU (j _ (by omega))⟩
 ·rename_i e o el b n q i len d f;cases d;cases f;cases h;obtain⟨k,K,a,c,J,B,A,z,rfl⟩:=g;have hu:=hT.2.1;obtain⟨D,p⟩:=r n k;have:=A4P p B A z rfl;exact⟨rfl,.int .i64 (len:Int),by simp[Builtin.len_,UH hu,goInt],BU (j _ this)⟩
 ·rename_i e o el b d f;cases d;cases f;cases h;have g:xv=_:=g;subst g;have hu:=hT.2.1;exact⟨rfl,.int .i64 0,by simp[Builtin.len_,UH hu,goInt],BU (j 0 (by simp))⟩
 ·rename_i o el b s d f;cases d;cases f;cases h;obtain⟨rfl,h1⟩:=Gu g;have hu:P.underlying t=some .string:=hT.2;exact⟨rfl,.int .i64 (s.size:Int),by simp[Builtin.len_,UH hu,goInt],BU (j _ h1)⟩
 ·cases h
theorem yT {i:Nat} {x:AV} {xv:Value} (w:World) (h:Eo i (some x)=some (vc,v,obs)) (g:B7 V x xv) :
  obs=[]/\∃u,(Instr.extract xv i).run P w=.ok u w/\B7 V v u:=by
 have get:∀(l:List AV) (a:List Value) (i:Nat) (y:AV),Js V l a->l[i]?=some y->∃u,a[i]?=some u/\B7 V y u:=by
  intro l;induction l with
  | nil=>intro a i y _ h;simp at h
  | cons z r j =>
   intro a i y c h;obtain⟨u,k,rfl,h1,d⟩:=c;cases i with
   | zero =>
    simp at h;subst h;exact⟨u,rfl,A1m h1⟩
   | succ i=>exact j k i y d (by simpa using h)
 unfold Eo at h;split at h
 ·rename_i l e;cases e;obtain⟨a,rfl,c⟩:=g;cases b:l[i]? with
  | none=>rw[b]at h;simp[Gt]at h
  | some y =>
   rw[b]at h;simp only[Gt]at h;cases h;obtain⟨u,hu,f⟩:=get l a i _ c b;exact⟨rfl,u,by simp[Instr.extract,hu],f⟩
 ·cases h
theorem AAj {x y:AV} {xv d:Value} {ts:Array TypeId} {ty:TypeId} (w:World) (h:Rb (some x) (some y)=some (vc,v,obs)) (g:B7 V x xv) (i:B7 V y d) :
  obs=[]/\∃u,(Builtin.min_ ts ty #[xv,d]).run P w=.ok u w/\B7 V v u:=by
 unfold Rb at h;split at h
 ·rename_i k a j b e f;cases e;cases f;split at h
  ·rename_i hk;subst hk;cases h;obtain⟨rfl,ha⟩:=BR g;obtain⟨rfl,c⟩:=BR i;have ha:KO k a:=ha;have c:KO k b:=c;refine⟨rfl,.int k (if (b:Int)<a then b else a),by simp[Builtin.min_,Builtin.min2],BU ?_⟩;split
   ·exact c
   ·exact ha
  ·cases h
 ·cases h
theorem A8S {x y z:AV} {xv f g:Value} {ts:Array TypeId} {ty:TypeId} (w:World) (h:Ir (some x) (some y) (some z)=some (vc,v,obs)) (o:B7 V x xv) (p:B7 V y f) (q:B7 V z g) :
  obs=[]/\∃u,(Builtin.min_ ts ty #[xv,f,g]).run P w=.ok u w/\B7 V v u:=by
 unfold Ir at h;split at h
 ·rename_i k a s b t c i j l;cases i;cases j;cases l;split at h
  ·rename_i hk;obtain⟨m,n⟩:=hk;subst m;subst n;cases h;obtain⟨rfl,ha⟩:=BR o;obtain⟨rfl,d⟩:=BR p;obtain⟨rfl,e⟩:=BR q;have ha:KO k a:=ha;have d:KO k b:=d;have e:KO k c:=e;refine⟨rfl,.int k (if (c:Int)<(if (b:Int)<a then b else a) then c else (if (b:Int)<a then b else a)),by simp[Builtin.min_,Builtin.min2],BU ?_⟩;by_cases r:(b:Int)<a
   ·grind
   ·grind
  ·cases h
 ·cases h
theorem AAk {x y:AV} {xv d:Value} {ts:Array TypeId} {ty:TypeId} (w:World) (h:Rc (some x) (some y)=some (vc,v,obs)) (g:B7 V x xv) (i:B7 V y d) :
  obs=[]/\∃u,(Builtin.max_ ts ty #[xv,d]).run P w=.ok u w/\B7 V v u:=by
 unfold Rc at h;split at h
 ·rename_i k a j b e f;cases e;cases f;split at h
  ·rename_i hk;subst hk;cases h;obtain⟨rfl,ha⟩:=BR g;obtain⟨rfl,c⟩:=BR i;have ha:KO k a:=ha;have c:KO k b:=c;refine⟨rfl,.int k (if (a:Int)<b then b else a),by simp[Builtin.max_,Builtin.max2],BU ?_⟩;split
   ·exact c
   ·exact ha
  ·cases h
 ·cases h
theorem A8T {t:TypeId} (hu:P.underlying t=some .string) (w:World) {s:ByteArray} {kd:IntKind} {k:Int} (h0:0<=k) (h1:k<(s.size:Int)) :
  (Instr.index t (.string s) (.int kd k)).run P w=.ok (.int .u8 ((s.data.getD k.toNat 0).toNat:Int)) w/\KO .u8 ((s.data.getD k.toNat 0).toNat:Int):=by
 have a:k.toNat<s.size:=by omega
 have d:k.toNat<s.data.size:=a;have c:s[k.toNat]?=some (s.data.getD k.toNat 0):=by
  rw[getElem?_pos s k.toNat a];simp only[Array.getD,d,dite_true];rfl
 refine⟨by simp[Instr.index,asIntOf,UH hu,h0,c],?_⟩;generalize s.data.getD k.toNat 0=b;have:=b.toNat_lt;simp[KO,IntKind.min,IntKind.max,IntKind.signed,IntKind.bits];omega
theorem A1w {t:TypeId} {x y:AV} {xv c:Value} (hT:EH P tb t ti) (w:World) (h:Ed (some ti) (some x) (some y)=some (vc,v,obs)) (a:vc) (i:B7 V x xv) (j:B7 V y c) :
  obs=[]/\∃u,(Instr.index t xv c).run P w=.ok u w/\B7 V v u:=by
 unfold Ed at h;split at h
 ·rename_i o el b s kd k e f g;cases e;cases f;cases g;cases h;obtain⟨rfl,_⟩:=Gu i;obtain⟨rfl,_⟩:=BR j;have hu:P.underlying t=some .string:=hT.2;obtain⟨h1,d⟩:=A8T (P:=P) hu w (kd:=kd) a.1 a.2;exact⟨rfl,_,h1,BU d⟩
 ·cases h
theorem AAl {x:AV} {xv:Value} (h:VK (some x)=some (vc,v,obs)) (e:B7 V x xv):obs=[]/\(∃ad,xv=.pointer (some ad))/\B7 V v xv:=by
 unfold VK at h;split at h
 ·rename_i a;cases a;cases h;obtain⟨d,b,f,rfl⟩:=e;exact⟨rfl,⟨_,rfl⟩,d,b,f,rfl⟩
 ·rename_i a;cases a;cases h;obtain⟨ad,cs,rfl,r⟩:=e;exact⟨rfl,⟨_,rfl⟩,ad,cs,rfl,r⟩
 ·rename_i a;cases a;cases h;obtain⟨d,g,m,c,f,i,rfl⟩:=e;exact⟨rfl,⟨_,rfl⟩,d,g,m,c,f,i,rfl⟩
 ·cases h
end
end
section
open Go Go.RowKit
section
variable {P:Program} {tb:Tb} {id:TypeId} {ti:TI} {V:Vw} {vc:Prop} {v:AV} {obs:List (Nat×Obj)}
def FW (a:Option Addr) (c l sz:Nat):Option Addr:=if c=l then a else a.map (·.add (l*sz))
inductive pO:Option Value->Nat->Nat->Prop
 | none (d:Nat):pO none d d
 | some (k:IntKind) (z:Int) (d:Nat) (h:0<=z):pO (some (.int k z)) d z.toNat
theorem A1x {el:TypeId} (hu:P.underlying id=some (.slice el)) {sz:Nat} (w:World) (hs:(sizeOf el).run P w=.ok sz w) {a:Option Addr} {n c l h:Nat} {lo hi:Option Value}
  (i:pO lo 0 l) (hh:pO hi n h) (h1:l<=h) (m:h<=c) :
  (Instr.sliceAt id (.slice a n c) lo hi none).run P w=.ok (.slice (FW a c l sz) (h-l) (c-l)) w:=by
 cases i with
 | none =>
  cases hh with
  | none=>simp[Instr.sliceAt,UH hu,Instr.slice,Instr.sliceBounds,hs,FW]
  | some k z _ b =>
   have e:z<=(c:Int):=by omega
   simp[Instr.sliceAt,UH hu,Instr.slice,Instr.sliceBounds,Instr.sliceBound,asIntOf,hs,FW,b,e]
 | some k z _ b =>
  cases hh with
  | none =>
   have e:z<=(n:Int):=by omega
   simp[Instr.sliceAt,UH hu,Instr.slice,Instr.sliceBounds,Instr.sliceBound,asIntOf,hs,FW,b,e]
  | some o d _ j =>
   have e:d<=(c:Int):=by omega
   have f:max d 0=d:=by omega
   have g:z<=d:=by omega
   simp[Instr.sliceAt,UH hu,Instr.slice,Instr.sliceBounds,Instr.sliceBound,asIntOf,hs,FW,b,j,e,f,g]
theorem A8U (hu:P.underlying id=some .string) (w:World) {s:ByteArray} {l h:Nat} {lo hi:Option Value} (f:pO lo 0 l) (hh:pO hi s.size h) (h1:l<=h) (i:h<=s.size) :
  (Instr.sliceAt id (.string s) lo hi none).run P w=.ok (.string (s.extract l h)) w:=by
 cases f with
 | none =>
  cases hh with
  | none=>simp[Instr.sliceAt,UH hu,Instr.slice,Instr.sliceBounds]
  | some k z _ a =>
   have e:z<=(s.size:Int):=by omega
   simp[Instr.sliceAt,UH hu,Instr.slice,Instr.sliceBounds,Instr.sliceBound,asIntOf,a,e]
 | some k z _ a =>
  cases hh with
  | none =>
   have e:z<=(s.size:Int):=by omega
   simp[Instr.sliceAt,UH hu,Instr.slice,Instr.sliceBounds,Instr.sliceBound,asIntOf,a,e]
  | some j b _ g =>
   have e:b<=(s.size:Int):=by omega
   have c:max b 0=b:=by omega
   have d:z<=b:=by omega
   simp[Instr.sliceAt,UH hu,Instr.slice,Instr.sliceBounds,Instr.sliceBound,asIntOf,a,g,e,c,d]
theorem A4Y {e:Ty} {xs:List e.den} {a:Option Addr} {n c l h:Nat} (p:B0 V.w V.O (.slice e) [.slice a n c] xs) (h1:l<=h) (g:h<=xs.length) :
  Bl V.w V.O (.slice e) (.slice (FW a c l e.size) (h-l) (c-l)) (sub xs l h)/\n=xs.length/\h<=c:=by
 obtain⟨q,r,f,s,t,b⟩:=p;injection f with f
 injection f with j k m
 subst j;subst k;subst m;have d:=OX xs (lo:=l) g;refine⟨⟨_,⟨FW a c l e.size,c-l,by rw[d],by rw[d];omega,by rw[d];omega,?_⟩,rfl⟩,rfl,by omega⟩;by_cases v:l<h
 ·right;rcases b with b|⟨ad,rfl,o,u⟩
  ·subst b;simp at g;omega
  ·refine⟨ad.add (l*e.size),?_,by rw[CO];exact o,λi x hi=>?_⟩
   ·grind [FW]
   ·obtain⟨y,_⟩:=aX xs l h i hi;grind [DV]
 ·simp_all
theorem A1y {loc:Value} {sz b c0 l h:Nat} {a:Option Addr} {n c:Nat} (s:DG loc sz b c0 (.slice a n c)) (h1:l<=h) (x:h<=c0-b) :
  DG loc sz (b+l) (b+h) (.slice (FW a c l sz) (h-l) (c-l))/\n=c0-b/\h<=c:=by
 obtain⟨d,m,e,q,y,A,v,w,t,z,j,k⟩:=s;injection t with f g i
 subst f;subst g;subst i;refine⟨⟨d,m,e,q,by omega,by omega,FW a c l sz,c-l,by rw[show b+h-(b+l)=h-l by omega],by omega,λC=>?_,λB=>?_⟩,rfl,by omega⟩
 ·have o:b=0:=by omega
  have p:l=0:=by omega
  subst o;subst p;obtain⟨u,D⟩:=j rfl;refine⟨?_,by omega⟩;rw[<-u];unfold FW;split
  ·rfl
  ·simp only[AFb];cases a<;>rfl
 ·have:=k (by omega);subst this;have r:¬c=l:=by omega
  simp only[FW,An r,Option.map_map]
  congr 1
  grind [DV]
theorem Tl (s:ByteArray) (l h:Nat):(s.extract l h).size<=s.size:=by
 simp only[ByteArray.size_extract];omega
theorem VS (hT:EH P tb id ti) (k:DH P tb) {e:Ty} (f:ti.ty=.slice e) {l:List e.den} {xv:Value} {lo hi:Option Value} {a h:Nat}
  (n:Bl V.w V.O (.slice e) xv l) (m:pO lo 0 a) (hh:pO hi l.length h) (h1:a<=h) (g:h<=l.length) :
  ∃u,(Instr.sliceAt id xv lo hi none).run P V.w=.ok u V.w/\B7 V (.p (.slice e) (sub l a h)) u:=by
 obtain⟨ty,offs,el,bytes⟩:=ti;simp only at f;subst f;obtain⟨hu,hs,_⟩:=CM hT k;obtain⟨cs,b,rfl⟩:=n;obtain⟨d,c,rfl,r⟩:=b;have b:B0 V.w V.O (.slice e) [.slice d l.length c] l:=⟨d,c,rfl,r⟩;obtain⟨i,_,j⟩:=A4Y b h1 g;exact⟨_,A1x hu _ (hs _) m hh h1 j,i⟩
theorem VT (hT:EH P tb id ti) (k:DH P tb) {n b c0:Nat} {e:Ty} (c:ti.ty=.slice e) {xv:Value} {lo hi:Option Value} {a h:Nat}
  (o:B7 V (.sr n e b c0) xv) (l:pO lo 0 a) (hh:pO hi (c0-b) h) (h1:a<=h) (f:h<=c0-b) :
  ∃u,(Instr.sliceAt id xv lo hi none).run P V.w=.ok u V.w/\B7 V (.sr n e (b+a) (b+h)) u:=by
 obtain⟨ty,offs,el,bytes⟩:=ti;simp only at c;subst c;obtain⟨hu,hs,_⟩:=CM hT k;obtain⟨j,d⟩:=o;have m:=d;obtain⟨_,_,_,_,_,_,p,q,rfl,_⟩:=m;obtain⟨g,r,i⟩:=A1y d h1 f;exact⟨_,A1x hu _ (hs _) l hh h1 i,j,g⟩
theorem VU (hT:EH P tb id ti) (c:ti.ty=.str) {s:ByteArray} {xv:Value} {lo hi:Option Value} {a h:Nat}
  (f:Bl V.w V.O .str xv s) (d:pO lo 0 a) (hh:pO hi s.size h) (h1:a<=h) (b:h<=s.size) :
  ∃u,(Instr.sliceAt id xv lo hi none).run P V.w=.ok u V.w/\B7 V (.p .str (s.extract a h)) u:=by
 obtain⟨rfl,e⟩:=Gu f;have hu:=hT.2;rw[c]at hu;exact⟨_,A8U hu _ d hh h1 b,VR (UD (Tl s a h) e)⟩
theorem JZ {z:Int} {n:Nat} (_h:0<=z) (a:z<=(n:Int)):z.toNat<=n:=by omega
theorem bB {a b:Int} (h:a<=b):a.toNat<=b.toNat:=by omega
def e9:Option AV->Option Value->Prop
 | none,none=>True
 | some x,some v=>B7 V x v
 | _,_=>False
theorem A1z (hT:EH P tb id ti) (m:DH P tb) {x ha i:AV} {xv f g:Value} (h:Dz (some ti) (some x) (some ha) (some i)=some (vc,v,obs)) (B:vc) (C:B7 V x xv) (hh:B7 V ha f) (y:B7 V i g) :
  obs=[]/\∃u,(Instr.sliceAt id xv none (some f) (some g)).run P V.w=.ok u V.w/\B7 V v u:=by
 unfold Dz at h;split at h
 ·rename_i e offs el bytes F l D a E b n o p q;cases n;cases o;cases p;cases q;split at h
  ·rename_i r;subst r;cases h;obtain⟨hu,hs,_⟩:=CM hT m;obtain⟨rfl,rfl⟩:=B;obtain⟨rfl,_⟩:=BR (hh:Bl V.w V.O (.int D) f _);obtain⟨rfl,_⟩:=BR (y:Bl V.w V.O (.int E) g _);obtain⟨cs,A,rfl⟩:=(C:Bl V.w V.O (.slice e) xv l);obtain⟨d,c,rfl,t,z,s⟩:=A;refine⟨rfl,.slice d (List.length l) (List.length l),?_,⟨_,⟨d,_,rfl,NO _,z,s⟩,rfl⟩,d,rfl⟩;have j:((List.length l:Nat):Int)<=(c:Int):=by omega
   have k:(0:Int)<=((List.length l:Nat):Int):=by omega
   simp[Ty.wrap,Instr.sliceAt,UH hu,Instr.slice,Instr.sliceBounds,Instr.sliceBound,asIntOf,hs V.w,j,k,Addr.add];intro G;exact absurd t (by omega)
  ·cases h
 ·cases h
theorem A4Z (hT:EH P tb id ti) (j:DH P tb) {x:AV} {xv:Value} {lo hi:Option AV} {D C:Option Value}
  (h:FX (some ti) (some x) (some lo) (some hi)=some (vc,v,obs)) (a:vc) (c:B7 V x xv) (g:e9 (V:=V) lo D) (f:e9 (V:=V) hi C) :
  obs=[]/\∃u,(Instr.sliceAt id xv D C none).run P V.w=.ok u V.w/\B7 V v u:=by
 have i:∀ {o:Option Value} (d:Nat),e9 (V:=V) none o->pO o d d:=λ{o} d h=>by
  cases o with
  | none=>exact .none d
  | some v=>exact h.elim
 have b1:∀ {o:Option Value} {k:IntKind} {z:Int} (d:Nat),e9 (V:=V) (some (.p (.int k) z)) o->0<=z->pO o d z.toNat:=λ{o k z} d h F=>by
  cases o with
  | none=>exact h.elim
  | some v =>
   obtain⟨rfl,_⟩:=BR (h:Bl V.w V.O (.int k) v z);exact .some k z d F
 unfold FX at h;split at h
 ·rename_i e offs el bytes E l B h0 q r t y;cases q;cases r;cases t;cases y;split at h
  ·rename_i A;subst A;have c:Bl V.w V.O (.slice e) xv l:=c;unfold Hk at h;split at h<;>first|(cases h;done)|(rename_i m;cases m<;>cases h)
   ·exact⟨rfl,VS hT j rfl c (i 0 g) (b1 _ f a.1) (IS _) (JZ a.1 a.2)⟩
   ·exact⟨rfl,VS hT j rfl c (b1 0 g a.1) (i _ f) (JZ a.1 a.2) (NO _)⟩
   ·exact⟨rfl,VS hT j rfl c (b1 0 g a.1) (b1 _ f (ADD a.1 a.2.1)) (bB a.2.1) (JZ (ADD a.1 a.2.1) a.2.2)⟩
  ·cases h
 ·rename_i e offs el bytes n E b c0 B h0 q r t y;cases q;cases r;cases t;cases y;split at h
  ·rename_i A;subst A;unfold Hk at h;split at h<;>first|(cases h;done)|(rename_i m;cases m<;>cases h)
   ·refine⟨rfl,?_⟩;have:=VT (P:=P) hT j rfl c (i 0 g) (b1 _ f a.1) (IS _) (JZ a.1 a.2);simpa using this
   ·refine⟨rfl,?_⟩;have:=VT (P:=P) hT j rfl c (b1 0 g a.1) (i _ f) (JZ a.1 a.2) (NO _);have H:=JZ a.1 a.2;obtain⟨_,_,_,_,_,G,_⟩:=c;grind
   ·exact⟨rfl,VT hT j rfl c (b1 0 g a.1) (b1 _ f (ADD a.1 a.2.1)) (bB a.2.1) (JZ (ADD a.1 a.2.1) a.2.2)⟩
  ·cases h
 ·rename_i offs el bytes s B h0 q r t y;cases q;cases r;cases t;cases y;have c:Bl V.w V.O .str xv s:=c;unfold Hk at h;split at h<;>first|(cases h;done)|(rename_i m;cases m<;>cases h)
  ·exact⟨rfl,VU hT rfl c (i 0 g) (b1 _ f a.1) (IS _) (JZ a.1 a.2)⟩
  ·exact⟨rfl,VU hT rfl c (b1 0 g a.1) (i _ f) (JZ a.1 a.2) (NO _)⟩
  ·exact⟨rfl,VU hT rfl c (b1 0 g a.1) (b1 _ f (ADD a.1 a.2.1)) (bB a.2.1) (JZ (ADD a.1 a.2.1) a.2.2)⟩
 ·cases h
end
end
end Go.Proofs.YtapkhdkbkodbjaaGreat.Fw
