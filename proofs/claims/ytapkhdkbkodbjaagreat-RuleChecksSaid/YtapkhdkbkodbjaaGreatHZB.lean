/- The executor's quiet operations are sound, first part. -/
import Derived.Test.YtapkhdkbkodbjaaGreatHZA
import Derived.Laws.IdiomStrings
set_option linter.unusedVariables false
set_option linter.unusedSimpArgs false
namespace Go.Proofs.YtapkhdkbkodbjaaGreat.Fw
section
open Go Go.RowKit
theorem Pk {w:World} {O:Nat->Prop}:∀ {t:Ty} {k:Nat} {d:t.den} {pv:PV} {cs:List Value},Gr t k d=some pv->B0 w O t cs d ->
  X3 t k=some pv.t/\∃o,Jz t k=some o/\o+pv.t.size<=t.size/\B0 w O pv.t ((cs.drop o).take pv.t.size) pv.d
 | .prod a b,0,d,pv,cs,h,c=>by
  simp only[Gr]at h;cases h;obtain⟨c1,c2,rfl,h1,f⟩:=c;refine⟨rfl,0,rfl,by simp[Ty.size],?_⟩;have e:=h1.length;simp only[UL,<-e,List.take_left];exact h1
 | .prod a b,k+1,d,pv,cs,h,c=>by
  simp only[Gr]at h;obtain⟨c1,c2,rfl,h1,f⟩:=c;obtain⟨g,o,i,l,j⟩:=Pk h f;refine⟨g,a.size+o,by simp[Jz,i],by simp[Ty.size];omega,?_⟩;have e:=h1.length;rw[<-e,<-AE8,AE0];exact j
 | .int _,0,d,pv,cs,h,c=>by
  simp only[Gr]at h;cases h;refine⟨rfl,0,rfl,by simp,?_⟩;have e:=c.length;simp only[UL,<-e,Sf];exact c
 | .bool,0,d,pv,cs,h,c=>by
  simp only[Gr]at h;cases h;refine⟨rfl,0,rfl,by simp,?_⟩;have e:=c.length;simp only[UL,<-e,Sf];exact c
 | .str,0,d,pv,cs,h,c=>by
  simp only[Gr]at h;cases h;refine⟨rfl,0,rfl,by simp,?_⟩;have e:=c.length;simp only[UL,<-e,Sf];exact c
 | .slice _,0,d,pv,cs,h,c=>by
  simp only[Gr]at h;cases h;refine⟨rfl,0,rfl,by simp,?_⟩;have e:=c.length;simp only[UL,<-e,Sf];exact c
 | .ref _,0,d,pv,cs,h,c=>by
  simp only[Gr]at h;cases h;refine⟨rfl,0,rfl,by simp,?_⟩;have e:=c.length;simp only[UL,<-e,Sf];exact c
 | .ref _,_+1,d,pv,cs,h,c=>by simp[Gr]at h
 | .agg _,0,d,pv,cs,h,c=>by
  simp only[Gr]at h;cases h;refine⟨rfl,0,rfl,by simp,?_⟩;have e:=c.length;simp only[UL,<-e,Sf];exact c
 | .int _,_+1,d,pv,cs,h,c=>by simp[Gr]at h
 | .bool,_+1,d,pv,cs,h,c=>by simp[Gr]at h
 | .str,_+1,d,pv,cs,h,c=>by simp[Gr]at h
 | .slice _,_+1,d,pv,cs,h,c=>by simp[Gr]at h
 | .agg _,_+1,d,pv,cs,h,c=>by simp[Gr]at h
theorem uT {α:Type} (cs:List α) (o m a n:Nat) (h:a+n<=m):(((cs.drop o).take m).drop a).take n=(cs.drop (o+a)).take n:=by
 rw[List.drop_take,AEL,AE8]
 congr 1
 omega
theorem VG {w:World} {O:Nat->Prop}:∀ {f:List Nat} {t:Ty} {d:t.den} {pv:PV} {cs:List Value} {off:Nat},RN f t d=some pv->Ln f t=some off->B0 w O t cs d ->
  off+pv.t.size<=t.size/\B0 w O pv.t ((cs.drop off).take pv.t.size) pv.d
 | [],t,d,pv,cs,off,h,a,b=>by
  simp only[RN]at h;simp only[Ln]at a;cases h;cases a;have e:=b.length;simp only[UL,<-e,Sf];exact⟨by simp[e],b⟩
 | k :: r,t,d,pv,cs,off,h,a,b=>by
  cases t<;>simp only[RN,Ln]at h a<;>try(cases h;done)
  rename_i t;split at h
  ·rename_i p hp;have b:B0 w O t cs d:=b;obtain⟨h1,o,g,m,i⟩:=Pk hp b;rw[h1,g]at a;simp only[Is]at a;obtain⟨n,l,rfl⟩:=a;obtain⟨j,c⟩:=VG h l i;refine⟨by simp only[Ty.size];omega,?_⟩;rw[uT _ _ _ _ _ j]at c;exact c
  ·cases h
def A1 {α:Type} (cs:List α) (o:Nat) (a:List α):List α:=cs.take o++a++cs.drop (o+a.length)
theorem FT {α:Type} {cs:List α} {o:Nat} {a:List α} (h:o+a.length<=cs.length):(A1 cs o a).length=cs.length:=by
 simp[A1];omega
theorem Dz {α:Type} {cs a:List α} (h:a.length=cs.length):A1 cs 0 a=a:=by
 simp[A1,h]
theorem Pl {α:Type} (a b:List α) (o:Nat) (c:List α):A1 (a++b) (a.length+o) c=a++A1 b o c:=by
 simp only[A1,List.take_append,AEW,Sm];have h1:List.take (a.length+o) a=a:=At (by omega);have d:List.drop (a.length+o+c.length) a=[]:=By (by omega);have e:a.length+o-a.length=o:=by omega
 have f:a.length+o+c.length-a.length=o+c.length:=by omega
 rw[h1,d,e,f];simp
theorem Sx {α:Type} (a b:List α) (c:List α) (h:c.length=a.length):A1 (a++b) 0 c=c++b:=by
 simp[A1,h]
theorem eD {w:World} {O:Nat->Prop}:∀ {t:Ty} {k:Nat} {d i:t.den} {pv:PV} {cs g:List Value} {o:Nat},Lu t k d pv=some i->Jz t k=some o->B0 w O t cs d->B0 w O pv.t g pv.d ->
  B0 w O t (A1 cs o g) i/\X3 t k=some pv.t
 | .prod a b,0,d,i,pv,cs,g,o,h,c,f,e=>by
  simp only[Lu,Is]at h;obtain⟨y,l,rfl⟩:=h;have:=BH l;subst this;simp only[Jz]at c;cases c;obtain⟨c1,c2,rfl,h1,j⟩:=f;rw[Sx _ _ _ (by rw[e.length,h1.length])];exact⟨⟨g,c2,rfl,e,j⟩,rfl⟩
 | .prod a b,k+1,d,i,pv,cs,g,o,h,c,f,e=>by
  simp only[Lu,Is]at h;obtain⟨y,l,rfl⟩:=h;simp only[Jz,Is]at c;obtain⟨q,p,rfl⟩:=c;obtain⟨c1,c2,rfl,h1,j⟩:=f;obtain⟨m,n⟩:=eD l p j e;rw[<-h1.length,Pl];exact⟨⟨c1,_,rfl,h1,m⟩,n⟩
 | .int _,0,d,i,pv,cs,g,o,h,c,f,e=>by
  have:=BH h;subst this;simp only[Jz]at c;cases c;rw[Dz (by rw[e.length,f.length])];exact⟨e,rfl⟩
 | .bool,0,d,i,pv,cs,g,o,h,c,f,e=>by
  have:=BH h;subst this;simp only[Jz]at c;cases c;rw[Dz (by rw[e.length,f.length])];exact⟨e,rfl⟩
 | .str,0,d,i,pv,cs,g,o,h,c,f,e=>by
  have:=BH h;subst this;simp only[Jz]at c;cases c;rw[Dz (by rw[e.length,f.length])];exact⟨e,rfl⟩
 | .slice _,0,d,i,pv,cs,g,o,h,c,f,e=>by
  have:=BH h;subst this;simp only[Jz]at c;cases c;rw[Dz (by rw[e.length,f.length])];exact⟨e,rfl⟩
 | .ref _,0,d,i,pv,cs,g,o,h,c,f,e=>by
  have:=BH h;subst this;simp only[Jz]at c;cases c;rw[Dz (by rw[e.length,f.length])];exact⟨e,rfl⟩
 | .ref _,_+1,d,i,pv,cs,g,o,h,c,f,e=>by simp[Lu]at h
 | .agg _,0,d,i,pv,cs,g,o,h,c,f,e=>by
  have:=BH h;subst this;simp only[Jz]at c;cases c;rw[Dz (by rw[e.length,f.length])];exact⟨e,rfl⟩
 | .int _,_+1,d,i,pv,cs,g,o,h,c,f,e=>by simp[Lu]at h
 | .bool,_+1,d,i,pv,cs,g,o,h,c,f,e=>by simp[Lu]at h
 | .str,_+1,d,i,pv,cs,g,o,h,c,f,e=>by simp[Lu]at h
 | .slice _,_+1,d,i,pv,cs,g,o,h,c,f,e=>by simp[Lu]at h
 | .agg _,_+1,d,i,pv,cs,g,o,h,c,f,e=>by simp[Lu]at h
theorem Nw {α:Type} (cs:List α) (o m a:Nat) (b:List α) (h:a+b.length<=m) (i:o+m<=cs.length) :
  A1 cs o (A1 ((cs.drop o).take m) a b)=A1 cs (o+a) b:=by
 apply AEl;intro j;have c:(A1 ((cs.drop o).take m) a b).length=m:=by rw[FT]<;>simp<;>omega
 simp only[A1]at c ⊢;rw[c];simp only[ACn,GO,OR,UI,Sr,ACE];have d:min o cs.length=o:=by omega
 have e:min m (cs.length-o)=m:=by omega
 have f:min a m=a:=by omega
 have g:min (o+a) cs.length=o+a:=by omega
 rw[d,e,f,g];by_cases c1:j<o
 ·grind
 ·grind
theorem VH {w:World} {O:Nat->Prop}:∀ {l:List Nat} {t:Ty} {d f:t.den} {pv:PV} {cs c:List Value} {off:Nat},Tp l t d pv=some f->Ln l t=some off->B0 w O t cs d->B0 w O pv.t c pv.d ->
  B0 w O t (A1 cs off c) f/\off+c.length<=cs.length
 | [],t,d,f,pv,cs,c,off,h,b,a,e=>by
  have:=BH h;subst this;simp only[Ln]at b;cases b;rw[Dz (by rw[e.length,a.length])];exact⟨e,by simp[e.length,a.length]⟩
 | k :: r,t,d,f,pv,cs,c,off,h,b,a,e=>by
  cases t<;>simp only[Tp,Ln]at h b<;>try(cases h;done)
  rename_i t;have a:B0 w O t cs d:=a;split at h
  ·rename_i p hp;obtain⟨h1,o,g,v,m⟩:=Pk hp a;rw[h1,g]at b;simp only[Is]at b;obtain⟨z,s,rfl⟩:=b;split at h
   ·rename_i y u;obtain⟨n,i⟩:=VH u s m e;have x:=a.length;have q:((cs.drop o).take p.t.size).length=p.t.size:=by simp;omega
    rw[q]at i;obtain⟨j,_⟩:=eD (pv:=⟨p.t,y⟩) h g a n;rw[Nw _ _ _ _ _ i (by omega)]at j;exact⟨j,by omega⟩
   ·cases h
  ·cases h
end
section
open Go Go.RowKit
section
variable {V:Vw}
theorem Nj.length {x:AV} {cs:List Value} (h:Nj V x cs):cs.length=x.cells:=by
 cases x;case p t d=>exact B0.length (show B0 V.w V.O t cs d from h)
 case ag l=>obtain⟨v,_,_,hf⟩:=h;exact hf.elim
 case tup l=>obtain⟨v,_,_,hf⟩:=h;exact hf.elim
 all_goals(obtain⟨v,rfl,_⟩:=h;rfl)
theorem Nj.one {x:AV} {cs:List Value} (h:Nj V x cs):∀u∈cs,u.oneCell'=true:=by
 cases x;case p t d=>exact B0.one (show B0 V.w V.O t cs d from h)
 all_goals(obtain⟨v,rfl,h1,_⟩:=h;intro u hu;simp at hu;subst hu;exact h1)
theorem Dl.one:∀ {l:List AV} {cs:List Value},Dl V l cs->∀u∈cs,u.oneCell'=true
 | [],cs,h=>by have h:cs=[]:=h;subst h;simp
 | x :: r,cs,h=>by
  obtain⟨c1,c2,rfl,h1,a⟩:=h;intro u hu;rcases No.1 hu with hu|hu
  ·exact h1.one u hu
  ·exact a.one u hu
theorem Dl.length:∀ {l:List AV} {cs:List Value},Dl V l cs->cs.length=CD l l.length
 | [],cs,h=>by have h:cs=[]:=h;subst h;rfl
 | x :: r,cs,h=>by
  obtain⟨c1,c2,rfl,h1,a⟩:=h;simp only[GO,OS,CD];rw[h1.length,a.length]
theorem Dl.get:∀ {l:List AV} {cs:List Value} {k:Nat} {x:AV},Dl V l cs->l[k]?=some x ->
  CD l k+x.cells<=cs.length/\Nj V x ((cs.drop (CD l k)).take x.cells)
 | [],cs,k,x,h,hk=>by simp at hk
 | y :: r,cs,0,x,h,hk=>by
  obtain⟨c1,c2,rfl,h1,a⟩:=h;simp at hk;subst hk;have:=h1.length;grind [CD]
 | y :: r,cs,k+1,x,h,hk=>by
  obtain⟨c1,c2,rfl,h1,a⟩:=h;have hk:r[k]?=some x:=by simpa using hk
  obtain⟨c,b⟩:=Dl.get a hk;have:=h1.length;refine⟨by simp only[CD,GO];omega,?_⟩;simp only[CD,<-this];rw[<-AE8,AE0];exact b
theorem Dl.set:∀ {l:List AV} {cs:List Value} {k:Nat} {x y:AV} {a:List Value},Dl V l cs->l[k]?=some x->Nj V y a->y.cells=x.cells ->
  Dl V (l.set k y) (A1 cs (CD l k) a)
 | [],cs,k,x,y,a,h,hk,b,c=>by simp at hk
 | z :: r,cs,0,x,y,a,h,hk,b,c=>by
  obtain⟨c1,c2,rfl,h1,d⟩:=h;simp at hk;subst hk;simp only[CD,AEe];rw[Sx _ _ _ (by rw[b.length,h1.length,c])];exact⟨a,c2,rfl,b,d⟩
 | z :: r,cs,k+1,x,y,a,h,hk,b,c=>by
  obtain⟨c1,c2,rfl,h1,d⟩:=h;have hk:r[k]?=some x:=by simpa using hk
  have:=h1.length;simp only[CD,AEE,<-this];rw[Pl];exact⟨c1,_,rfl,h1,Dl.set d hk b c⟩
theorem p5 {ty:Ty} {x:AV} {b:List Value} (a:Nj V x b) (hf:CT ty x=true):b.length=ty.size/\B9 V x (ty.wrap b):=by
 cases x;case p t d =>
  simp only[CT,Fj]at hf;subst hf;have a:B0 V.w V.O ty b d:=a;exact⟨B0.length a,b,a,rfl⟩
 case ag l=>obtain⟨v,_,_,hf⟩:=a;exact hf.elim
 case tup l=>obtain⟨v,_,_,hf⟩:=a;exact hf.elim
 all_goals
  obtain⟨v,rfl,_,h1⟩:=a;have c:ty.cell1=true:=by simp only[CT]at hf;first|exact hf|(simp only[AT]at hf;exact hf.2)|exact absurd hf (by decide)
  cases ty<;>first|(cases c;done)|exact⟨rfl,h1⟩
theorem A1a {ty:Ty} {x:AV} {v:Value} (i:B9 V x v) (hf:CT ty x=true) (o:ty.cell1=true->v.oneCell'=true):v.cells.size=ty.size/\((∀l,x≠.ag l)->Nj V x v.cells.toList):=by
 cases x;case p t d =>
  simp only[CT,Fj]at hf;subst hf;obtain⟨cs,f,rfl⟩:=i;have g:=f.length;cases ty;case agg t=>exact⟨by simpa[Ty.wrap,Value.cells] using g,λ_=>by simpa[Ty.wrap,Value.cells,Nj] using f⟩
  case prod a b=>exact⟨by simpa[Ty.wrap,Value.cells] using g,λ_=>by simpa[Ty.wrap,Value.cells,Nj] using f⟩
  case slice e =>
   obtain⟨a,c,rfl,h⟩:=f;exact⟨rfl,λ_=>⟨a,c,rfl,h⟩⟩
  case int k =>
   obtain⟨rfl,h⟩:=f;exact⟨rfl,λ_=>⟨rfl,h⟩⟩
  case bool =>
   have f:cs=_:=f;subst f;exact⟨rfl,λ_=>rfl⟩
  case str =>
   obtain⟨rfl,h⟩:=f;exact⟨rfl,λ_=>⟨rfl,h⟩⟩
  case ref k =>
   have f:cs=[KZ k]:=f;subst f;have q:(Ty.ref k).wrap [KZ k]=KZ k:=rfl;rw[q];match k with
   | 0=>exact⟨rfl,λ_=>rfl⟩
   | 1=>exact⟨rfl,λ_=>rfl⟩
   | _+2=>exact⟨rfl,λ_=>rfl⟩
 case ag l =>
  obtain⟨cs,rfl,n⟩:=i;have g:=n.length;cases ty<;>simp only[CT]at hf<;>try(cases hf;done)
  rename_i t;simp only[UH]at hf;exact⟨by simp[Value.cells,Ty.size,g,hf],λh=>absurd rfl (h l)⟩
 case tup l=>simp[CT]at hf
 all_goals
  have h1:ty.cell1=true:=by simp only[CT]at hf;first|exact hf|(simp only[AT]at hf;exact hf.2)|exact absurd hf (by decide)
  have j:v.oneCell'=true:=o h1;have m:v.cells=#[v]:=by cases v<;>first|rfl|simp[Value.oneCell']at j
  have hs:ty.size=1:=by cases ty<;>simp[Ty.cell1]at h1<;>rfl
  rw[m];exact⟨by simp[hs],λ_=>⟨v,rfl,j,i⟩⟩
end
end
section
open Go Go.RowKit
section
variable {P:Program} {tb:Tb} {id:TypeId} {ti:TI} {w:World} {O0:Nat->Prop} {σ:St} {ρ:Nat->Value} {vc:Prop} {v:AV} {obs:List (Nat×Obj)}
theorem YO {w:World} {base:Nat} {et:TypeId} {size:Nat} {g m c n:Nat} {cells:List Value} (h:w.ownsRow base et size (.slice (some ⟨g,0,none⟩) m c) n cells) :
  m=n/\∀(j:Nat) (u:Value),cells[j]?=some u->w.cell? ⟨g,j,none⟩=some u:=by
 constructor
 ·rcases h.2 with ⟨a,_⟩|⟨e,cap,d,a,_⟩
  ·injection a with h1;cases h1
  ·injection a
 ·intro j u b;have:=h.cells (g:=g) rfl j u b
  rwa [d5]at this
theorem A1b (hT:EL P tb id ti) (T:∀n o,lk n σ.objs=some o->A8 (vw w O0 σ ρ) o (ρ n)) {x:AV} {xv:Value}
  (h:Iz σ (some ti) (some x)=some (vc,v,obs)) (V:B9 (vw w O0 σ ρ) x xv):obs=[]/\∃u,(Instr.loadAt id xv).run P w=.ok u w/\B9 (vw w O0 σ ρ) v u:=by
 unfold Iz at h;split at h
 ·rename_i n X off N O;cases N;cases O;obtain⟨Z,b,z,rfl⟩:=V;cases hn:lk n σ.objs with
  | none=>rw[hn]at h;simp[EZ]at h
  | some o =>
   rw[hn]at h;cases o with
   | arr et e xs=>simp[EZ]at h
   | mapo k v l=>simp[EZ]at h
   | frame bf fs=>simp[EZ]at h
   | loop L=>simp[EZ]at h
   | itr ba bd bb bc ay=>simp[EZ]at h
   | dfr=>simp[EZ]at h
   | nest et az k e xs a=>simp[EZ]at h
   | box et st fs =>
    simp only[EZ]at h;cases a:Ix st fs X with
    | none=>rw[a]at h;simp[Hf]at h
    | some y =>
     rw[a]at h;simp only[Hf]at h;split at h
     ·rename_i H;obtain⟨B,C⟩:=H;cases h;obtain⟨bk,b',cs,s,am,M⟩:=T n _ hn;have z:ρ n=_:=z;rw[z]at s;injection s with s
      injection s with s
      injection s with s
      subst s;have D:∀(I:List Value) (o:Nat),I=(cs.drop o).take I.length->∀(j:Nat) (u:Value),I[j]?=some u->w.cell? ((⟨b,o,none⟩:Addr).add j)=some u:=by
       intro I o ab j u p;rw[Jy,cell_of_row w b (o+j) cs.toArray et (0,0) am];rw[ab,Sr,ACE]at p;split at p
       ·simpa using p
       ·cases p
      refine⟨rfl,?_⟩;unfold Ix at a;split at a
      · -- the whole
       simp only[OQ]at C;cases C;cases st with
       | true =>
        simp only[ACF]at a;cases a;have bi:=M.length;cases f:ti.ty<;>rw[f]at B<;>simp only[CT]at B<;>try(cases B;done)
        rename_i t;simp only[UH]at B;have av:cs.length=ti.ty.size:=by rw[f];simp only[Ty.size];omega
        have:=Eu w hT av (D cs 0 (by simp));refine⟨_,this,cs,?_,M⟩;rw[f];rfl
       | false =>
        simp only[AD4,ADs]at a;have ax:CD fs 0=0:=by cases fs<;>rfl
        obtain⟨h1,q⟩:=M.get a;rw[ax]at q;obtain⟨F,J⟩:=p5 q B;have:=Eu w hT F (D _ 0 (by rw[q.length]));exact⟨_,this,J⟩
      · -- a field
       rename_i k;cases st with
       | false=>simp at a
       | true =>
        simp only[ACF]at a;obtain⟨h1,q⟩:=M.get a;obtain⟨F,J⟩:=p5 q B;have ar:off=CD fs k:=by
         simp only[OQ,a]at C;cases v<;>simp only[Ln,ADF,List.isEmpty_nil,ACF]at C<;>cases C<;>rfl
        subst ar;have:=Eu w hT F (D _ (CD fs k) (by rw[q.length]));exact⟨_,this,J⟩
      ·rename_i k r U;cases st with
       | false=>simp at a
       | true =>
        simp only[ACF]at a;split at a
        ·rename_i t d hk;simp only[Is]at a;obtain⟨pv,au,rfl⟩:=a;simp only[OQ,hk,Is]at C;obtain⟨be,aq,rfl⟩:=C;obtain⟨h1,q⟩:=M.get hk;have q:B0 w (own O0 σ ρ) t _ d:=q;obtain⟨Y,G⟩:=VG au aq q;simp only[AV.cells]at h1 G;rw[uT _ _ _ _ _ Y]at G;simp only[CT,Fj]at B;have Q:=G.length;have:=Eu w hT (by rw[B];exact Q) (D _ (CD fs k+be) (by rw[Q]));rw[B]at this;exact⟨_,this,_,G,rfl⟩
        ·cases a
     ·cases h
 ·rename_i n e i X off N O;cases N;cases O;obtain⟨Z,g,m,c,z,ao,rfl⟩:=V;cases hn:lk n σ.objs with
  | none=>rw[hn]at h;simp[Ea]at h
  | some o =>
   rw[hn]at h;cases o with
   | box et st fs=>simp[Ea]at h
   | mapo k v l=>simp[Ea]at h
   | frame bf fs=>simp[Ea]at h
   | loop L=>simp[Ea]at h
   | itr ba bd bb bc ay=>simp[Ea]at h
   | dfr=>simp[Ea]at h
   | nest et az k A xs a =>
    cases a with
    | some j=>simp[Ea]at h
    | none =>
     simp only[Ea]at h;split at h
     ·rename_i aj;subst aj;obtain⟨o,ins,cells,s,S⟩:=T n _ hn;have z:plc (ρ n)=_:=z;have ap:plc (ρ n)=o:=s.plc;have E:=S.own;rw[<-ap,z]at E;obtain⟨rfl,D⟩:=YO E;have W:xs[i]?=some (xs.getD i (k.dflt,[])):=by grind
      have R:i<ins.length:=by rw[S.len];exact ao
      obtain⟨c1,v1,aa,af,F⟩:=S.row i _ ins[i] W (As R);rcases F with ⟨F,_⟩|⟨_,ag,J⟩
      ·cases F
      ·have ae:c1.length=k.size:=af.length;unfold Lx at h;split at h
       ·split at h
        ·rename_i K;obtain⟨f,rfl⟩:=K;cases h;have:=Eu (ad:=⟨g,i*(Ty.agg (.prod k (.slice A))).size+0,none⟩) w hT (by rw[f];exact ae) (λj u p=>by
          rw[Jy];refine D _ _ (aa j u ?_);rw[Sp (Sa.1 p).1];exact p)
         rw[f]at this;exact⟨rfl,_,this,c1,af,rfl⟩
        ·cases h
       ·split at h
        ·rename_i K;obtain⟨f,rfl⟩:=K;cases h;have:=Eu (ad:=⟨g,i*(Ty.agg (.prod k (.slice A))).size+k.size,none⟩) (cs:=[v1]) w hT (by rw[f];rfl) (λj u p=>by
          have an:j=0:=by have:=(Sa.1 p).1;simpa using this
          subst an;rw[Jy];refine D _ _ (aa k.size u ?_);rw[Ss (by omega),ae,ADr];exact p)
         rw[f]at this;obtain⟨ah,ai,aw⟩:=A14 ag J;exact⟨rfl,_,this,Z,_,ah,ai,ins[i],s.resolve_right (λh=>by rw[h.2.2]at R;simp at R),by simp[R],ag,aw⟩
        ·cases h
       ·cases h
     ·cases h
   | arr et A xs =>
    simp only[Ea]at h;cases H:BW (.slice e) ⟨.slice A,xs⟩ with
    | none=>rw[H]at h;simp[Hh]at h
    | some ys =>
     obtain⟨rfl,q⟩:=Bp H;cases q;rw[H]at h;simp only[Hh]at h;cases hp:RN X A (xs.getD i A.dflt) with
     | none=>rw[hp]at h;simp[Hg]at h
     | some pv =>
      rw[hp]at h;simp only[Hg]at h;split at h
      ·rename_i K;obtain⟨f,C⟩:=K;cases h;obtain⟨bj,cells,E,ak⟩:=T n _ hn;have z:plc (ρ n)=_:=z;have E:w.ownsRow 0 et A.size (ρ n) xs.length cells:=E;rw[Hj E]at z;rw[z]at E;obtain⟨rfl,D⟩:=YO E;have W:xs[i]?=some (xs.getD i A.dflt):=by grind
       obtain⟨I,ab,bh,al⟩:=ak i _ W;obtain⟨Y,G⟩:=VG hp C al;have Q:=G.length;have:=Eu (ad:=⟨g,i*A.size+off,none⟩) w hT (by rw[f];exact Q) (λj u p=>by
        rw[Jy,AEO];rw[Sr,ACE]at p;split at p
        ·grind
        ·cases p)
       rw[f]at this;exact⟨rfl,_,this,_,G,rfl⟩
      ·cases h
 ·rename_i u d N O;cases N;cases O;obtain⟨ad,cs,rfl,bg,H,U⟩:=V;split at h
  ·rename_i f;cases h;have:=Eu w hT (by rw[f];exact U.length) H;rw[f]at this;exact⟨rfl,_,this,cs,U,rfl⟩
  ·cases h
 ·cases h
end
end
section
open Go Go.RowKit
section
variable {P:Program} {tb:Tb} {id:TypeId} {ti:TI} {w:World} {V:Vw} {vc:Prop} {v:AV} {obs:List (Nat×Obj)}
theorem p6 {α:Type} {l:List α} {k:Nat} {x:α} (h:l[k]?=some x):x∈l:=f3 h
theorem eE (hT:EL P tb id ti) {u:Ty} (p:ti.ty=.agg u) (d:ti.el=0) {f k s:Nat} (hf:ti.offs[f]?=some (k,s)) (ad:Addr) (w:World) :
  (Instr.fieldAt id (.pointer (some ad)) f).run P w=.ok (.pointer (some (ad.add k))) w:=by
 obtain⟨⟨⟨m,_⟩,_⟩,a⟩:=hT;rw[p]at a;simp only at a;rcases a with ⟨fs,_,hu,o⟩|⟨n,e,i,l,_⟩
 ·have b:(ti.offs.map some)[f]?=some (some (k,s)):=by simp[hf]
  rw[o]at b;simp only[iS,Is]at b;obtain⟨fl,h,g⟩:=b;obtain⟨i,hi,c⟩:=g;cases c;have j:fs[f]?=some fl:=by simpa using h
  have hs:i.size≠0:=m _ (p6 hf);simp[Instr.fieldAt,Sh hu,j,Instr.sureAddr,fieldPlace,sizeOf,L5 w hi,hs]
 ·exact absurd d l
theorem eF (hT:EL P tb id ti) {u:Ty} (h:ti.ty=.agg u) (c:ti.el≠0) {k s:Nat} {z:Int} {kd:IntKind} (j:0<=z) (hf:ti.offs[z.toNat]?=some (k,s)) (ad:Addr) (w:World) :
  (Instr.indexAt id (.pointer (some ad)) (.int kd z)).run P w=.ok (.pointer (some (ad.add k))) w:=by
 obtain⟨_,a⟩:=hT;rw[h]at a;simp only at a;rcases a with ⟨fs,h0,_⟩|⟨n,e,i,_,hu,hi,g⟩
 ·exact absurd h0 c
 ·rw[g]at hf;simp only[iS,Is]at hf;obtain⟨l,d,b⟩:=hf;cases b;obtain⟨h1,a⟩:=Sa.1 d;simp only[AE5]at h1;simp only[ADN]at a;subst a;have f:z<(n:Int):=by omega
  simp[Instr.indexAt,asIntOf,Sh hu,Instr.sureAddr,sizeOf,L5 w hi,j,f]
theorem A1c {f:Nat} {o:Option (Nat×Nat)} {x:AV} {xv:Value} {run:Value->Result Value} (y:∀k s ad,o=some (k,s)->run (.pointer (some ad))=.ok (.pointer (some (ad.add k))) w)
  (h:Np f o x=some (vc,v,obs)) (z:B9 V x xv):obs=[]/\∃u,run xv=.ok u w/\B9 V v u:=by
 unfold Np at h;split at h
 ·rename_i n G off;obtain⟨q,b,A,rfl⟩:=z;cases o with
  | none=>simp[Tr]at h
  | some p =>
   obtain⟨k,s⟩:=p;simp only[Tr]at h;cases h;exact⟨rfl,_,y k s _ rfl,q,b,A,by rw[Jy]⟩
 ·rename_i n e i G off;obtain⟨q,g,m,c,A,F,rfl⟩:=z;cases o with
  | none=>simp[Tr]at h
  | some p =>
   obtain⟨k,s⟩:=p;simp only[Tr]at h;cases h;exact⟨rfl,_,y k s _ rfl,q,g,m,c,A,F,by rw[Jy,AEO]⟩
 ·rename_i u d;obtain⟨ad,cs,rfl,D,E,t⟩:=z;cases r:Gr u f d with
  | none=>rw[r]at h;simp[Hi]at h
  | some pv =>
   rw[r]at h;simp only[Hi]at h;split at h
   ·rename_i l;cases h;have t:B0 V.w V.O u cs d:=t;obtain⟨h1,I,B,H,C⟩:=Pk r t;rw[B]at l;cases o with
    | none=>simp at l
    | some p =>
     obtain⟨k,s⟩:=p;simp only[ADF,ACW]at l;subst l;refine⟨rfl,_,y k s _ rfl,ad.add k,_,rfl,by rw[CO];exact D,λj u a=>?_,C⟩;rw[DR];rw[Sr,ACE]at a;split at a
     ·exact E _ _ a
     ·cases a
   ·cases h
 ·cases h
theorem A5C (hT:EL P tb id ti) {f:Nat} {x:AV} {xv:Value} (w:World)
  (h:GX f (some ti) (some x)=some (vc,v,obs)) (e:B9 V x xv):obs=[]/\∃u,(Instr.fieldAt id xv f).run P w=.ok u w/\B9 V v u:=by
 unfold GX at h;split at h
 ·rename_i u offs b g a c;cases a;cases c;exact A1c (run:=λxv=>(Instr.fieldAt id xv f).run P w) (λk s ad d=>eE hT rfl rfl d ad w) h e
 ·cases h
theorem Sy {e:TypeId} (hu:P.underlying id=some (.slice e)) {size:Nat} (hs:(sizeOf e).run P w=.ok size w) (a:Addr) (n c:Nat) (k:IntKind) (i:Int) (h0:0<=i) (h1:i<n) :
  (Instr.indexAt id (.slice (some a) n c) (.int k i)).run P w=.ok (.pointer (some (a.add (i.toNat*size)))) w:=by
 simp[Instr.indexAt,asIntOf,Sh hu,h0,h1,hs]
theorem AD1 {e:Ty} {el:TypeId} (hu:P.underlying id=some (.slice el)) (hs:(sizeOf el).run P V.w=.ok e.size V.w) {l:List e.den} {kd:IntKind} {k:Int} {xv:Value}
  (r:Bm V.w V.O (.slice e) xv l) (n:0<=k) (o:k<(l.length:Int)) :
  ∃u,(Instr.indexAt id xv (.int kd k)).run P V.w=.ok u V.w/\B9 V (.ip e (l.getD k.toNat e.dflt)) u:=by
 obtain⟨cs,h,rfl⟩:=r;obtain⟨a,c,rfl,h1,t,b⟩:=h;have p:k.toNat<l.length:=by omega
 rcases b with b|⟨ad,rfl,f,i⟩
 ·subst b;simp at p
 ·refine⟨_,Sy hu hs _ _ _ _ _ n o,?_⟩;have s:l[k.toNat]?=some (l.getD k.toNat e.dflt):=by grind
  obtain⟨d,v,g,q⟩:=i _ _ s;exact⟨_,d,rfl,by rw[CO];exact f,λj u m=>by rw[DR];exact g j u m,q⟩
theorem AD2 {e:Ty} {el:TypeId} (hu:P.underlying id=some (.slice el)) (hs:(sizeOf el).run P V.w=.ok e.size V.w) {n lo hi:Nat} {kd:IntKind} {k:Int} {xv:Value}
  (s:B9 V (.sr n e lo hi) xv) (h:∀n,V.L n->∃o,A8 V o (V.ρ n)) (j:0<=k) (l:k<((hi-lo:Nat):Int)) :
  ∃u,(Instr.indexAt id xv (.int kd k)).run P V.w=.ok u V.w/\B9 V (.ep n e (lo+k.toNat) [] 0) u:=by
 obtain⟨b,a,m,c,f,A,z,t,v,rfl,y,h0,h1⟩:=s;have p:lo<hi:=by omega
 have i:=h1 p;obtain⟨o,q⟩:=h n b;obtain⟨g,rfl⟩:∃g,a=some ⟨g,0,none⟩:=by
  obtain⟨_,_,cells,r,_⟩:=YN q f;rcases r.2 with ⟨d,hn⟩|⟨g,cap,x,d,_⟩
  ·injection d;omega
  ·grind
 subst i;refine⟨_,Sy hu hs _ _ _ _ _ j l,b,g,m,c,f,by omega,?_⟩;rw[DR,d5,AEj];rfl
theorem BS {O:Nat->Prop} {w:World} {kd:IntKind} {k:Int} {v:Value} (h:Bm w O (.int kd) v k):v=.int kd k/\KX kd k:=by
 obtain⟨cs,⟨rfl,h1⟩,rfl⟩:=h;exact⟨rfl,h1⟩
theorem BV {O:Nat->Prop} {w:World} {kd:IntKind} {k:Int} (h:KX kd k):Bm w O (.int kd) (.int kd k) k:=⟨_,⟨rfl,h⟩,rfl⟩
theorem ET {O:Nat->Prop} {w:World} {b:Bool} {v:Value} (h:Bm w O .bool v b):v=.bool b:=by
 obtain⟨cs,h1,rfl⟩:=h;have h1:cs=_:=h1;subst h1;rfl
theorem Bn {O:Nat->Prop} {w:World} (b:Bool):Bm w O .bool (.bool b) b:=⟨[.bool b],rfl,rfl⟩
theorem Gu {O:Nat->Prop} {w:World} {s:ByteArray} {v:Value} (h:Bm w O .str v s):v=.string s/\s.size<=AP:=by
 obtain⟨cs,⟨rfl,h1⟩,rfl⟩:=h;exact⟨rfl,h1⟩
theorem VI {O:Nat->Prop} {w:World} {s:ByteArray} (h:s.size<=AP):Bm w O .str (.string s) s:=⟨_,⟨rfl,h⟩,rfl⟩
theorem CZ {e:Ty} {offs:List (Nat×Nat)} {el:TypeId} {bytes:Nat} (hT:EL P tb id ⟨.slice e,offs,el,bytes⟩) (b:DF P tb) :
  P.underlying id=some (.slice el)/\(∀w,(sizeOf el).run P w=.ok e.size w)/\∃te,lk el tb.ty=some te/\te.ty=e:=by
 obtain⟨_,hu,te,a,rfl⟩:=hT;exact⟨hu,λw=>IK w (b _ _ a),te,a,rfl⟩
theorem A5D (hT:EL P tb id ti) (m:DF P tb) {x y:AV} {xv p:Value}
  (h:Fc (some ti) (some x) (some y)=some (vc,v,obs)) (f:vc) (i:B9 V x xv) (j:B9 V y p) (r:∀n,V.L n->∃o,A8 V o (V.ρ n)) :
  obs=[]/\∃u,(Instr.indexAt id xv p).run P V.w=.ok u V.w/\B9 V v u:=by
 unfold Fc at h;split at h
 ·rename_i e offs el bytes q l kd k a c d;cases a;cases c;cases d;split at h
  ·rename_i g;subst g;cases h;obtain⟨hu,hs,_⟩:=CZ hT m;obtain⟨rfl,_⟩:=BS j;exact⟨rfl,AD1 hu (hs _) i f.1 f.2⟩
  ·cases h
 ·rename_i e offs el bytes n q lo hi kd k a c d;cases a;cases c;cases d;split at h
  ·rename_i g;subst g;cases h;obtain⟨hu,hs,_⟩:=CZ hT m;obtain⟨rfl,_⟩:=BS j;exact⟨rfl,AD2 hu (hs _) i r f.1 f.2⟩
  ·cases h
 ·rename_i u offs el b A B a c d;cases a;cases c;cases d;unfold I0 at h;split at h
  ·rename_i kd k;split at h
   ·rename_i hk;obtain⟨rfl,_⟩:=BS j;exact A1c (run:=λxv=>(Instr.indexAt id xv (.int kd k)).run P V.w) (λz s ad t=>eF hT rfl (by simp) hk t ad V.w) h i
   ·cases h
  ·cases h
 ·cases h
theorem Kn {k:IntKind} {n:Int} (h:KX k n):k.wrap n=n:=by
 obtain⟨h1,a⟩:=h;cases k<;>simp[IntKind.min,IntKind.max,IntKind.signed,IntKind.bits]at h1 a<;>simp[IntKind.wrap,IntKind.signed,IntKind.bits]<;>omega
theorem M8 (k:IntKind) (n:Int):KX k (k.wrap n):=by
 cases k<;>simp only[KX,IntKind.min,IntKind.max,IntKind.wrap,IntKind.signed,IntKind.bits]<;>simp<;>omega
theorem A8f {op:BinOp} {t:TypeId} {k e:IntKind} {a b:Int} (w:World) (c:(bin op k a e b).1) (ha:KX k a) :
  ∃u,(binOp op t (.int k a) (.int e b)).run P w=.ok u w/\B9 V (bin op k a e b).2 u:=by
 unfold bin at c ⊢;split at c
 ·have d:¬b<0:=by have h:0<=b:=c;omega
  exact⟨_,by simp[binOp,Op.shift,d];rfl,BV (M8 _ _)⟩
 ·have d:¬b<0:=by have h:0<=b:=c.1;omega
  exact⟨_,by simp[binOp,Op.shift,d];rfl,BV c.2⟩
 ·split at c
  ·rename_i f g hk;subst hk;cases op<;>simp only[d6]at c ⊢;case add=>exact⟨.int k (a+b),by simp[binOp,Op.intArith,Kn c],BV c⟩
   case sub=>exact⟨.int k (a-b),by simp[binOp,Op.intArith,Kn c],BV c⟩
   case mul=>exact⟨.int k (a*b),by simp[binOp,Op.intArith,Kn c],BV c⟩
   case quo=>exact⟨.int k (a.tdiv b),by simp[binOp,Op.intDiv,c.1,Kn c.2],BV c.2⟩
   case rem=>exact⟨.int k (a.tmod b),by simp[binOp,Op.intDiv,c.1],BV c.2⟩
   case and=>exact⟨.int k (CA .and k a b),by simp only[binOp,ne_eq,AEh,ADs,Op.intBits];rfl,BV (M8 _ _)⟩
   case or=>exact⟨.int k (CA .or k a b),by simp only[binOp,ne_eq,AEh,ADs,Op.intBits];rfl,BV (M8 _ _)⟩
   case xor=>exact⟨.int k (CA .xor k a b),by simp only[binOp,ne_eq,AEh,ADs,Op.intBits];rfl,BV (M8 _ _)⟩
   case andNot=>exact⟨.int k (CA .andNot k a b),by simp only[binOp,ne_eq,AEh,ADs,Op.intBits];rfl,BV (M8 _ _)⟩
   case eql=>exact⟨.bool (a==b),by simp[binOp,Op.intCmp],Bn _⟩
   case neq=>exact⟨.bool (a != b),by simp[binOp,Op.intCmp],Bn _⟩
   case lss=>exact⟨.bool (decide (a<b)),by simp[binOp,Op.intCmp],Bn _⟩
   case leq=>exact⟨.bool (decide (a<=b)),by simp[binOp,Op.intCmp],Bn _⟩
   case gtr=>exact⟨.bool (decide (b<a)),by simp[binOp,Op.intCmp],Bn _⟩
   case geq=>exact⟨.bool (decide (b<=a)),by simp[binOp,Op.intCmp],Bn _⟩
  ·exact c.elim
theorem A5E {op:BinOp} {t:TypeId} {a b:ByteArray} (w:World) (c:(Uz a b op).1) :
  ∃u,(binOp op t (.string a) (.string b)).run P w=.ok u w/\B9 V (Uz a b op).2 u:=by
 cases op<;>simp only[Uz]at c ⊢;case add =>
  have d:AP=140737488355328:=rfl;have hh:¬(((a.size+b.size:Nat):Int) > IntKind.i64.max):=by
   have:IntKind.i64.max=9223372036854775807:=by decide
   omega
  exact⟨.string (a++b),by simp only[binOp,Op.stringOp,An hh];rfl,VI (by simpa[ADP] using c)⟩
 case eql=>exact⟨.bool (AY a b),by simp only[binOp,Op.stringOp];rfl,Bn _⟩
 case neq=>exact⟨.bool (!AY a b),by simp only[binOp,Op.stringOp];rfl,Bn _⟩
 case lss=>exact⟨.bool (HY a b),by simp only[binOp,Op.stringOp];rfl,Bn _⟩
 case leq=>exact⟨.bool (HY a b||AY a b),by simp only[binOp,Op.stringOp];rfl,Bn _⟩
 case gtr=>exact⟨.bool (!(HY a b||AY a b)),by simp only[binOp,Op.stringOp];rfl,Bn _⟩
 case geq=>exact⟨.bool (!HY a b),by simp only[binOp,Op.stringOp];rfl,Bn _⟩
 all_goals exact c.elim
theorem A9B {op:BinOp} {t:TypeId} {ti:Option TI} (n:Pc ti=true->P.underlying t=some .bool) {x y:AV} {xv l:Value} (w:World)
  (h:Pd op ti (some x) (some y)=some (vc,v,obs)) (m:vc) (i:B9 V x xv) (j:B9 V y l) :
  obs=[]/\(∀e f,(eqGuard op t e f xv l).run P w=.ok () w)/\∃u,(binOp op t xv l).run P w=.ok u w/\B9 V v u:=by
 unfold Pd at h;split at h
 ·rename_i k a o b c d;cases c;cases d;cases h;obtain⟨rfl,ha⟩:=BS i;obtain⟨rfl,_⟩:=BS j;refine⟨rfl,λe f=>?_,A8f w m ha⟩;cases op<;>simp[eqGuard]
 ·rename_i a b c d;cases c;cases d;cases h;obtain⟨rfl,ha⟩:=Gu i;obtain⟨rfl,_⟩:=Gu j;refine⟨rfl,λe f=>?_,A5E w m⟩;cases op<;>simp[eqGuard]
 ·rename_i a b c d;cases c;cases d;have ha:=ET i;have g:=ET j;subst ha g;split at h
  ·rename_i g;have hu:=n g;cases op<;>simp only[d9]at h<;>cases h
   ·exact⟨rfl,λe f=>by simp[eqGuard],.bool (a==b),by simp[binOp,run_equal_bool w t a b hu],Bn _⟩
   ·exact⟨rfl,λe f=>by simp[eqGuard],.bool (a != b),by simp[binOp,run_equal_bool w t a b hu,bne],Bn _⟩
  ·cases h
 ·cases h
theorem AD3 {op:UnOp} {x:AV} {xv:Value} (w:World) (h:qUn op (some x)=some (vc,v,obs)) (c:vc) (e:B9 V x xv) :
  obs=[]/\∃u,(Op.unary op xv).run P w=.ok u w/\B9 V v u:=by
 unfold qUn at h;split at h
 ·rename_i b d;cases d;cases h;have:=ET e;subst this;exact⟨rfl,.bool (!b),by simp[Op.unary],Bn _⟩
 ·rename_i k a d;cases d;cases h;obtain⟨rfl,ha⟩:=BS e;have c:KX k (0-a):=c;exact⟨rfl,_,by simp only[Op.unary,Op.intArith,Kn c];rfl,BV c⟩
 ·cases h
end
end
section
open Go Go.RowKit
section
variable {P:Program} {tb:Tb} {id:TypeId} {ti:TI} {w:World} {V:Vw} {vc:Prop} {v:AV} {obs:List (Nat×Obj)}
theorem p7 (l:List Int):(Sv l).size=l.length:=by
 show (Sv l).data.size=l.length;unfold Sv;simp
theorem A8g (G:DF P tb) (H:V.w=w) {s t:TypeId} {B ti:TI} (hs:EL P tb s B) (y:EL P tb t ti) {x:AV} {xv:Value} (h:I8 (some B) (some ti) (some x)=some (vc,v,obs)) (i:vc) (A:B9 V x xv) :
  obs=[]/\∃u,(convert s t xv).run P w=.ok u w/\B9 V v u:=by
 unfold I8 at h;split at h
 ·rename_i T U m b1 k W D b2 ab a n o p;cases n;cases o;cases p;cases h;obtain⟨rfl,ha⟩:=BS A;have i:KX k a:=i;have f:P.underlying s=some (.int T):=hs.2;have g:P.underlying t=some (.int k):=y.2;refine⟨rfl,.int k a,?_,BV i⟩;simp[convert,Sh f,Sh g,Conv.intToInt,Kn i]
 ·rename_i U m b1 W D b2 l n o p;cases n;cases o;cases p;cases h;obtain⟨f,te,O,Q⟩:=hs.2;have g:P.underlying t=some .string:=y.2;have z:P.underlying m=some (.int .u8):=by
   have:=(G _ _ O).2;rw[Q]at this;exact this
  obtain⟨cs,⟨a,c,rfl,h1,E,d⟩,rfl⟩:=A;have N:(Sv l).size<=AP:=by rw[p7];exact E
  refine⟨rfl,.string (Sv l),?_,⟨[.string (Sv l)],⟨rfl,N⟩,rfl⟩⟩;have L:a=none->l=[]:=λe=>by grind
  cases a with
  | none =>
   have:=L rfl;subst this;show (convert s t (.slice none 0 c)).run P w=_;have C:Sv []=ByteArray.empty:=rfl;rw[C];simp[convert,Sh f,Sh g,Sh z,Conv.bytesToString]
  | some ad =>
   have r:=run_convert_bytes_back (P:=P) w s t m ad c (l.map λx=>UInt8.ofNat x.toNat) f z g λj q=>by
    have b:j<List.length l:=by rw[SX]at q;exact q
    rcases d with d|⟨X,d,Z,F⟩
    ·rw[d]at b;cases b
    ·cases d;obtain⟨Y,-,J,M⟩:=F j l[j] (As b);obtain⟨rfl,K⟩:=M;have I:=J 0 (.int .u8 l[j]) rfl;rw[H]at I;obtain⟨R,S⟩:(0:Int)<=(l:List Int)[j]'b/\(l:List Int)[j]'b<=255:=by
      simpa[KX,IntKind.min,IntKind.max,IntKind.signed,IntKind.bits] using K
     have e:(((List.map (λx:Int=>UInt8.ofNat x.toNat) l)[j]'q).toNat:Int)=l[j]:=by
      rw[ADJ,UInt8.toNat_ofNat'];have aa:((l:List Int)[j]'b).toNat % 2 ^ 8=((l:List Int)[j]'b).toNat:=Nat.mod_eq_of_lt ((AEp R).2 (AEJ S (by decide)));grind
     grind [Ty.size]
   rw[SX]at r;exact r
 ·cases h
theorem A9C (r:∀n,V.L n->∃o,A8 V o (V.ρ n)) {x:AV} {xv:Value} {t ty:TypeId} (hT:EL P tb t ti) (w:World) (h:RQ (some ti) (some x)=some (vc,v,obs)) (g:B9 V x xv) :
  obs=[]/\∃u,(Builtin.len_ #[t] ty #[xv]).run P w=.ok u w/\B9 V v u:=by
 have j:∀n:Nat,n<=AP->KX .i64 (n:Int):=λn hn=>by
  simp[KX,IntKind.min,IntKind.max,IntKind.signed,IntKind.bits];simp[AP]at hn;omega
 unfold RQ at h;split at h
 ·rename_i e o el b q l d f;cases d;cases f;cases h;obtain⟨cs,⟨a,c,rfl,h1,y,_⟩,rfl⟩:=g;have hu:=hT.2.1;exact⟨rfl,.int .i64 (List.length l:Int),by simp[Builtin.len_,Sh hu,goInt,Ty.wrap],BV (j _ y)⟩
 ·rename_i e o el b n q lo hi d f;cases d;cases f;cases h;obtain⟨k,a,m,c,C,I,H,E,F,rfl,G,h0,h1⟩:=g;have hu:=hT.2.1;obtain⟨D,p⟩:=r n k;obtain⟨_,_,_,_,this⟩:=YN p C;exact⟨rfl,.int .i64 ((hi-lo:Nat):Int),by simp[Builtin.len_,Sh hu,goInt],BV (j _ (by omega))⟩
 ·rename_i e o el b n q i len d f;cases d;cases f;cases h;obtain⟨k,K,a,c,J,B,A,z,rfl⟩:=g;have hu:=hT.2.1;obtain⟨D,p⟩:=r n k;have:=A5w p B A z rfl;exact⟨rfl,.int .i64 (len:Int),by simp[Builtin.len_,Sh hu,goInt],BV (j _ this)⟩
 ·rename_i e o el b d f;cases d;cases f;cases h;have g:xv=_:=g;subst g;have hu:=hT.2.1;exact⟨rfl,.int .i64 0,by simp[Builtin.len_,Sh hu,goInt],BV (j 0 (by simp))⟩
 ·rename_i o el b s d f;cases d;cases f;cases h;obtain⟨rfl,h1⟩:=Gu g;have hu:P.underlying t=some .string:=hT.2;exact⟨rfl,.int .i64 (s.size:Int),by simp[Builtin.len_,Sh hu,goInt],BV (j _ h1)⟩
 ·cases h
theorem xY {i:Nat} {x:AV} {xv:Value} (w:World) (h:EE i (some x)=some (vc,v,obs)) (g:B9 V x xv) :
  obs=[]/\∃u,(Instr.extract xv i).run P w=.ok u w/\B9 V v u:=by
 have get:∀(l:List AV) (a:List Value) (i:Nat) (y:AV),J5 V l a->l[i]?=some y->∃u,a[i]?=some u/\B9 V y u:=by
  intro l;induction l with
  | nil=>intro a i y _ h;simp at h
  | cons z r j =>
   intro a i y c h;obtain⟨u,k,rfl,h1,d⟩:=c;cases i with
   | zero =>
    simp at h;subst h;exact⟨u,rfl,A13 h1⟩
   | succ i=>exact j k i y d (by simpa using h)
 unfold EE at h;split at h
 ·rename_i l e;cases e;obtain⟨a,rfl,c⟩:=g;cases b:l[i]? with
  | none=>rw[b]at h;simp[GW]at h
  | some y =>
   rw[b]at h;simp only[GW]at h;cases h;obtain⟨u,hu,f⟩:=get l a i _ c b;exact⟨rfl,u,by simp[Instr.extract,hu],f⟩
 ·cases h
theorem A9D {x y:AV} {xv d:Value} {ts:Array TypeId} {ty:TypeId} (w:World) (h:Pe (some x) (some y)=some (vc,v,obs)) (g:B9 V x xv) (i:B9 V y d) :
  obs=[]/\∃u,(Builtin.min_ ts ty #[xv,d]).run P w=.ok u w/\B9 V v u:=by
 unfold Pe at h;split at h
 ·rename_i k a j b e f;cases e;cases f;split at h
  ·rename_i hk;subst hk;cases h;obtain⟨rfl,ha⟩:=BS g;obtain⟨rfl,c⟩:=BS i;have ha:KX k a:=ha;have c:KX k b:=c;refine⟨rfl,.int k (if (b:Int)<a then b else a),by simp[Builtin.min_,Builtin.min2],BV ?_⟩;split
   ·exact c
   ·exact ha
  ·cases h
 ·cases h
theorem A8h {x y z:AV} {xv f g:Value} {ts:Array TypeId} {ty:TypeId} (w:World) (h:IC (some x) (some y) (some z)=some (vc,v,obs)) (o:B9 V x xv) (p:B9 V y f) (q:B9 V z g) :
  obs=[]/\∃u,(Builtin.min_ ts ty #[xv,f,g]).run P w=.ok u w/\B9 V v u:=by
 unfold IC at h;split at h
 ·rename_i k a s b t c i j l;cases i;cases j;cases l;split at h
  ·rename_i hk;obtain⟨m,n⟩:=hk;subst m;subst n;cases h;obtain⟨rfl,ha⟩:=BS o;obtain⟨rfl,d⟩:=BS p;obtain⟨rfl,e⟩:=BS q;have ha:KX k a:=ha;have d:KX k b:=d;have e:KX k c:=e;refine⟨rfl,.int k (if (c:Int)<(if (b:Int)<a then b else a) then c else (if (b:Int)<a then b else a)),by simp[Builtin.min_,Builtin.min2],BV ?_⟩;by_cases r:(b:Int)<a
   ·grind
   ·grind
  ·cases h
 ·cases h
theorem A9E {x y:AV} {xv d:Value} {ts:Array TypeId} {ty:TypeId} (w:World) (h:Pf (some x) (some y)=some (vc,v,obs)) (g:B9 V x xv) (i:B9 V y d) :
  obs=[]/\∃u,(Builtin.max_ ts ty #[xv,d]).run P w=.ok u w/\B9 V v u:=by
 unfold Pf at h;split at h
 ·rename_i k a j b e f;cases e;cases f;split at h
  ·rename_i hk;subst hk;cases h;obtain⟨rfl,ha⟩:=BS g;obtain⟨rfl,c⟩:=BS i;have ha:KX k a:=ha;have c:KX k b:=c;refine⟨rfl,.int k (if (a:Int)<b then b else a),by simp[Builtin.max_,Builtin.max2],BV ?_⟩;split
   ·exact c
   ·exact ha
  ·cases h
 ·cases h
theorem A8i {t:TypeId} (hu:P.underlying t=some .string) (w:World) {s:ByteArray} {kd:IntKind} {k:Int} (h0:0<=k) (h1:k<(s.size:Int)) :
  (Instr.index t (.string s) (.int kd k)).run P w=.ok (.int .u8 ((s.data.getD k.toNat 0).toNat:Int)) w/\KX .u8 ((s.data.getD k.toNat 0).toNat:Int):=by
 have a:k.toNat<s.size:=by omega
 have d:k.toNat<s.data.size:=a;have c:s[k.toNat]?=some (s.data.getD k.toNat 0):=by
  rw[getElem?_pos s k.toNat a];simp only[Array.getD,d,dite_true];rfl
 refine⟨by simp[Instr.index,asIntOf,Sh hu,h0,c],?_⟩;generalize s.data.getD k.toNat 0=b;have:=b.toNat_lt;simp[KX,IntKind.min,IntKind.max,IntKind.signed,IntKind.bits];omega
theorem A1d {t:TypeId} {x y:AV} {xv c:Value} (hT:EL P tb t ti) (w:World) (h:Dx (some ti) (some x) (some y)=some (vc,v,obs)) (a:vc) (i:B9 V x xv) (j:B9 V y c) :
  obs=[]/\∃u,(Instr.index t xv c).run P w=.ok u w/\B9 V v u:=by
 unfold Dx at h;split at h
 ·rename_i o el b s kd k e f g;cases e;cases f;cases g;cases h;obtain⟨rfl,_⟩:=Gu i;obtain⟨rfl,_⟩:=BS j;have hu:P.underlying t=some .string:=hT.2;obtain⟨h1,d⟩:=A8i (P:=P) hu w (kd:=kd) a.1 a.2;exact⟨rfl,_,h1,BV d⟩
 ·cases h
theorem A9F {x:AV} {xv:Value} (h:Ts (some x)=some (vc,v,obs)) (e:B9 V x xv):obs=[]/\(∃ad,xv=.pointer (some ad))/\B9 V v xv:=by
 unfold Ts at h;split at h
 ·rename_i a;cases a;cases h;obtain⟨d,b,f,rfl⟩:=e;exact⟨rfl,⟨_,rfl⟩,d,b,f,rfl⟩
 ·rename_i a;cases a;cases h;obtain⟨ad,cs,rfl,r⟩:=e;exact⟨rfl,⟨_,rfl⟩,ad,cs,rfl,r⟩
 ·rename_i a;cases a;cases h;obtain⟨d,g,m,c,f,i,rfl⟩:=e;exact⟨rfl,⟨_,rfl⟩,d,g,m,c,f,i,rfl⟩
 ·cases h
end
end
section
open Go Go.RowKit
section
variable {P:Program} {tb:Tb} {id:TypeId} {ti:TI} {V:Vw} {vc:Prop} {v:AV} {obs:List (Nat×Obj)}
def FZ (a:Option Addr) (c l sz:Nat):Option Addr:=if c=l then a else a.map (·.add (l*sz))
inductive uU:Option Value->Nat->Nat->Prop
 | none (d:Nat):uU none d d
 | some (k:IntKind) (z:Int) (d:Nat) (h:0<=z):uU (some (.int k z)) d z.toNat
theorem A1e {el:TypeId} (hu:P.underlying id=some (.slice el)) {sz:Nat} (w:World) (hs:(sizeOf el).run P w=.ok sz w) {a:Option Addr} {n c l h:Nat} {lo hi:Option Value}
  (i:uU lo 0 l) (hh:uU hi n h) (h1:l<=h) (m:h<=c) :
  (Instr.sliceAt id (.slice a n c) lo hi none).run P w=.ok (.slice (FZ a c l sz) (h-l) (c-l)) w:=by
 cases i with
 | none =>
  cases hh with
  | none=>simp[Instr.sliceAt,Sh hu,Instr.slice,Instr.sliceBounds,hs,FZ]
  | some k z _ b =>
   have e:z<=(c:Int):=by omega
   simp[Instr.sliceAt,Sh hu,Instr.slice,Instr.sliceBounds,Instr.sliceBound,asIntOf,hs,FZ,b,e]
 | some k z _ b =>
  cases hh with
  | none =>
   have e:z<=(n:Int):=by omega
   simp[Instr.sliceAt,Sh hu,Instr.slice,Instr.sliceBounds,Instr.sliceBound,asIntOf,hs,FZ,b,e]
  | some o d _ j =>
   have e:d<=(c:Int):=by omega
   have f:max d 0=d:=by omega
   have g:z<=d:=by omega
   simp[Instr.sliceAt,Sh hu,Instr.slice,Instr.sliceBounds,Instr.sliceBound,asIntOf,hs,FZ,b,j,e,f,g]
theorem A8j (hu:P.underlying id=some .string) (w:World) {s:ByteArray} {l h:Nat} {lo hi:Option Value} (f:uU lo 0 l) (hh:uU hi s.size h) (h1:l<=h) (i:h<=s.size) :
  (Instr.sliceAt id (.string s) lo hi none).run P w=.ok (.string (s.extract l h)) w:=by
 cases f with
 | none =>
  cases hh with
  | none=>simp[Instr.sliceAt,Sh hu,Instr.slice,Instr.sliceBounds]
  | some k z _ a =>
   have e:z<=(s.size:Int):=by omega
   simp[Instr.sliceAt,Sh hu,Instr.slice,Instr.sliceBounds,Instr.sliceBound,asIntOf,a,e]
 | some k z _ a =>
  cases hh with
  | none =>
   have e:z<=(s.size:Int):=by omega
   simp[Instr.sliceAt,Sh hu,Instr.slice,Instr.sliceBounds,Instr.sliceBound,asIntOf,a,e]
  | some j b _ g =>
   have e:b<=(s.size:Int):=by omega
   have c:max b 0=b:=by omega
   have d:z<=b:=by omega
   simp[Instr.sliceAt,Sh hu,Instr.slice,Instr.sliceBounds,Instr.sliceBound,asIntOf,a,g,e,c,d]
theorem A5F {e:Ty} {xs:List e.den} {a:Option Addr} {n c l h:Nat} (p:B0 V.w V.O (.slice e) [.slice a n c] xs) (h1:l<=h) (g:h<=xs.length) :
  Bm V.w V.O (.slice e) (.slice (FZ a c l e.size) (h-l) (c-l)) (sub xs l h)/\n=xs.length/\h<=c:=by
 obtain⟨q,r,f,s,t,b⟩:=p;injection f with f
 injection f with j k m
 subst j;subst k;subst m;have d:=OV xs (lo:=l) g;refine⟨⟨_,⟨FZ a c l e.size,c-l,by rw[d],by rw[d];omega,by rw[d];omega,?_⟩,rfl⟩,rfl,by omega⟩;by_cases v:l<h
 ·right;rcases b with b|⟨ad,rfl,o,u⟩
  ·subst b;simp at g;omega
  ·refine⟨ad.add (l*e.size),?_,by rw[CO];exact o,λi x hi=>?_⟩
   ·grind [FZ]
   ·obtain⟨y,_⟩:=aG xs l h i hi;grind [DR]
 ·simp_all
theorem A1f {loc:Value} {sz b c0 l h:Nat} {a:Option Addr} {n c:Nat} (s:DS loc sz b c0 (.slice a n c)) (h1:l<=h) (x:h<=c0-b) :
  DS loc sz (b+l) (b+h) (.slice (FZ a c l sz) (h-l) (c-l))/\n=c0-b/\h<=c:=by
 obtain⟨d,m,e,q,y,A,v,w,t,z,j,k⟩:=s;injection t with f g i
 subst f;subst g;subst i;refine⟨⟨d,m,e,q,by omega,by omega,FZ a c l sz,c-l,by rw[show b+h-(b+l)=h-l by omega],by omega,λC=>?_,λB=>?_⟩,rfl,by omega⟩
 ·have o:b=0:=by omega
  have p:l=0:=by omega
  subst o;subst p;obtain⟨u,D⟩:=j rfl;refine⟨?_,by omega⟩;rw[<-u];unfold FZ;split
  ·rfl
  ·simp only[AEX];cases a<;>rfl
 ·have:=k (by omega);subst this;have r:¬c=l:=by omega
  simp only[FZ,An r,Option.map_map]
  congr 1
  grind [DR]
theorem Tt (s:ByteArray) (l h:Nat):(s.extract l h).size<=s.size:=by
 simp only[ByteArray.size_extract];omega
theorem VJ (hT:EL P tb id ti) (k:DF P tb) {e:Ty} (f:ti.ty=.slice e) {l:List e.den} {xv:Value} {lo hi:Option Value} {a h:Nat}
  (n:Bm V.w V.O (.slice e) xv l) (m:uU lo 0 a) (hh:uU hi l.length h) (h1:a<=h) (g:h<=l.length) :
  ∃u,(Instr.sliceAt id xv lo hi none).run P V.w=.ok u V.w/\B9 V (.p (.slice e) (sub l a h)) u:=by
 obtain⟨ty,offs,el,bytes⟩:=ti;simp only at f;subst f;obtain⟨hu,hs,_⟩:=CZ hT k;obtain⟨cs,b,rfl⟩:=n;obtain⟨d,c,rfl,r⟩:=b;have b:B0 V.w V.O (.slice e) [.slice d l.length c] l:=⟨d,c,rfl,r⟩;obtain⟨i,_,j⟩:=A5F b h1 g;exact⟨_,A1e hu _ (hs _) m hh h1 j,i⟩
theorem VK (hT:EL P tb id ti) (k:DF P tb) {n b c0:Nat} {e:Ty} (c:ti.ty=.slice e) {xv:Value} {lo hi:Option Value} {a h:Nat}
  (o:B9 V (.sr n e b c0) xv) (l:uU lo 0 a) (hh:uU hi (c0-b) h) (h1:a<=h) (f:h<=c0-b) :
  ∃u,(Instr.sliceAt id xv lo hi none).run P V.w=.ok u V.w/\B9 V (.sr n e (b+a) (b+h)) u:=by
 obtain⟨ty,offs,el,bytes⟩:=ti;simp only at c;subst c;obtain⟨hu,hs,_⟩:=CZ hT k;obtain⟨j,d⟩:=o;have m:=d;obtain⟨_,_,_,_,_,_,p,q,rfl,_⟩:=m;obtain⟨g,r,i⟩:=A1f d h1 f;exact⟨_,A1e hu _ (hs _) l hh h1 i,j,g⟩
theorem VL (hT:EL P tb id ti) (c:ti.ty=.str) {s:ByteArray} {xv:Value} {lo hi:Option Value} {a h:Nat}
  (f:Bm V.w V.O .str xv s) (d:uU lo 0 a) (hh:uU hi s.size h) (h1:a<=h) (b:h<=s.size) :
  ∃u,(Instr.sliceAt id xv lo hi none).run P V.w=.ok u V.w/\B9 V (.p .str (s.extract a h)) u:=by
 obtain⟨rfl,e⟩:=Gu f;have hu:=hT.2;rw[c]at hu;exact⟨_,A8j hu _ d hh h1 b,VI (Sd (Tt s a h) e)⟩
theorem Jl {z:Int} {n:Nat} (_h:0<=z) (a:z<=(n:Int)):z.toNat<=n:=by omega
theorem aL {a b:Int} (h:a<=b):a.toNat<=b.toNat:=by omega
def eG:Option AV->Option Value->Prop
 | none,none=>True
 | some x,some v=>B9 V x v
 | _,_=>False
theorem A1g (hT:EL P tb id ti) (m:DF P tb) {x ha i:AV} {xv f g:Value} (h:Df (some ti) (some x) (some ha) (some i)=some (vc,v,obs)) (B:vc) (C:B9 V x xv) (hh:B9 V ha f) (y:B9 V i g) :
  obs=[]/\∃u,(Instr.sliceAt id xv none (some f) (some g)).run P V.w=.ok u V.w/\B9 V v u:=by
 unfold Df at h;split at h
 ·rename_i e offs el bytes F l D a E b n o p q;cases n;cases o;cases p;cases q;split at h
  ·rename_i r;subst r;cases h;obtain⟨hu,hs,_⟩:=CZ hT m;obtain⟨rfl,rfl⟩:=B;obtain⟨rfl,_⟩:=BS (hh:Bm V.w V.O (.int D) f _);obtain⟨rfl,_⟩:=BS (y:Bm V.w V.O (.int E) g _);obtain⟨cs,A,rfl⟩:=(C:Bm V.w V.O (.slice e) xv l);obtain⟨d,c,rfl,t,z,s⟩:=A;refine⟨rfl,.slice d (List.length l) (List.length l),?_,⟨_,⟨d,_,rfl,NO _,z,s⟩,rfl⟩,d,rfl⟩;have j:((List.length l:Nat):Int)<=(c:Int):=by omega
   have k:(0:Int)<=((List.length l:Nat):Int):=by omega
   simp[Ty.wrap,Instr.sliceAt,Sh hu,Instr.slice,Instr.sliceBounds,Instr.sliceBound,asIntOf,hs V.w,j,k,Addr.add];intro G;exact absurd t (by omega)
  ·cases h
 ·cases h
theorem A5G (hT:EL P tb id ti) (j:DF P tb) {x:AV} {xv:Value} {lo hi:Option AV} {D C:Option Value}
  (h:FJ (some ti) (some x) (some lo) (some hi)=some (vc,v,obs)) (a:vc) (c:B9 V x xv) (g:eG (V:=V) lo D) (f:eG (V:=V) hi C) :
  obs=[]/\∃u,(Instr.sliceAt id xv D C none).run P V.w=.ok u V.w/\B9 V v u:=by
 have i:∀ {o:Option Value} (d:Nat),eG (V:=V) none o->uU o d d:=λ{o} d h=>by
  cases o with
  | none=>exact .none d
  | some v=>exact h.elim
 have b1:∀ {o:Option Value} {k:IntKind} {z:Int} (d:Nat),eG (V:=V) (some (.p (.int k) z)) o->0<=z->uU o d z.toNat:=λ{o k z} d h F=>by
  cases o with
  | none=>exact h.elim
  | some v =>
   obtain⟨rfl,_⟩:=BS (h:Bm V.w V.O (.int k) v z);exact .some k z d F
 unfold FJ at h;split at h
 ·rename_i e offs el bytes E l B h0 q r t y;cases q;cases r;cases t;cases y;split at h
  ·rename_i A;subst A;have c:Bm V.w V.O (.slice e) xv l:=c;unfold HK at h;split at h<;>first|(cases h;done)|(rename_i m;cases m<;>cases h)
   ·exact⟨rfl,VJ hT j rfl c (i 0 g) (b1 _ f a.1) (IN _) (Jl a.1 a.2)⟩
   ·exact⟨rfl,VJ hT j rfl c (b1 0 g a.1) (i _ f) (Jl a.1 a.2) (NO _)⟩
   ·exact⟨rfl,VJ hT j rfl c (b1 0 g a.1) (b1 _ f (ADy a.1 a.2.1)) (aL a.2.1) (Jl (ADy a.1 a.2.1) a.2.2)⟩
  ·cases h
 ·rename_i e offs el bytes n E b c0 B h0 q r t y;cases q;cases r;cases t;cases y;split at h
  ·rename_i A;subst A;unfold HK at h;split at h<;>first|(cases h;done)|(rename_i m;cases m<;>cases h)
   ·refine⟨rfl,?_⟩;have:=VK (P:=P) hT j rfl c (i 0 g) (b1 _ f a.1) (IN _) (Jl a.1 a.2);simpa using this
   ·refine⟨rfl,?_⟩;have:=VK (P:=P) hT j rfl c (b1 0 g a.1) (i _ f) (Jl a.1 a.2) (NO _);have H:=Jl a.1 a.2;obtain⟨_,_,_,_,_,G,_⟩:=c;grind
   ·exact⟨rfl,VK hT j rfl c (b1 0 g a.1) (b1 _ f (ADy a.1 a.2.1)) (aL a.2.1) (Jl (ADy a.1 a.2.1) a.2.2)⟩
  ·cases h
 ·rename_i offs el bytes s B h0 q r t y;cases q;cases r;cases t;cases y;have c:Bm V.w V.O .str xv s:=c;unfold HK at h;split at h<;>first|(cases h;done)|(rename_i m;cases m<;>cases h)
  ·exact⟨rfl,VL hT rfl c (i 0 g) (b1 _ f a.1) (IN _) (Jl a.1 a.2)⟩
  ·exact⟨rfl,VL hT rfl c (b1 0 g a.1) (i _ f) (Jl a.1 a.2) (NO _)⟩
  ·exact⟨rfl,VL hT rfl c (b1 0 g a.1) (b1 _ f (ADy a.1 a.2.1)) (aL a.2.1) (Jl (ADy a.1 a.2.1) a.2.2)⟩
 ·cases h
end
end
end Go.Proofs.YtapkhdkbkodbjaaGreat.Fw
