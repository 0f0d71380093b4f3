/- The executor's quiet operations are sound, first part. -/
import Derived.Test.YtdapahgnpbehbaaGreatJZA
import Derived.Laws.IdiomStrings
set_option linter.unusedVariables false
set_option linter.unusedSimpArgs false
namespace Go.Proofs.YtdapahgnpbehbaaGreat.Fw
section
open Go Go.RowKit
theorem O9 {w:World} {O:Nat->Prop}:∀ {t:Ty} {k:Nat} {d:t.den} {pv:PV} {cs:List Value},HI t k d=some pv->Br w O t cs d ->
  Yt t k=some pv.t/\∃o,Ka t k=some o/\o+pv.t.size<=t.size/\Br w O pv.t ((cs.drop o).take pv.t.size) pv.d
 | .prod a b,0,d,pv,cs,h,c=>by
  simp only[HI]at h;cases h;obtain⟨c1,c2,rfl,h1,f⟩:=c;refine⟨rfl,0,rfl,by simp[Ty.size],?_⟩;have e:=h1.length;simp only[AAV,<-e,List.take_left];exact h1
 | .prod a b,k+1,d,pv,cs,h,c=>by
  simp only[HI]at h;obtain⟨c1,c2,rfl,h1,f⟩:=c;obtain⟨g,o,i,l,j⟩:=O9 h f;refine⟨g,a.size+o,by simp[Ka,i],by simp[Ty.size];omega,?_⟩;have e:=h1.length;rw[<-e,<-ACo,ACg];exact j
 | .int _,0,d,pv,cs,h,c=>by
  simp only[HI]at h;cases h;refine⟨rfl,0,rfl,by simp,?_⟩;have e:=c.length;simp only[AAV,<-e,iN];exact c
 | .bool,0,d,pv,cs,h,c=>by
  simp only[HI]at h;cases h;refine⟨rfl,0,rfl,by simp,?_⟩;have e:=c.length;simp only[AAV,<-e,iN];exact c
 | .str,0,d,pv,cs,h,c=>by
  simp only[HI]at h;cases h;refine⟨rfl,0,rfl,by simp,?_⟩;have e:=c.length;simp only[AAV,<-e,iN];exact c
 | .slice _,0,d,pv,cs,h,c=>by
  simp only[HI]at h;cases h;refine⟨rfl,0,rfl,by simp,?_⟩;have e:=c.length;simp only[AAV,<-e,iN];exact c
 | .ref _,0,d,pv,cs,h,c=>by
  simp only[HI]at h;cases h;refine⟨rfl,0,rfl,by simp,?_⟩;have e:=c.length;simp only[AAV,<-e,iN];exact c
 | .ref _,_+1,d,pv,cs,h,c=>by simp[HI]at h
 | .agg _,0,d,pv,cs,h,c=>by
  simp only[HI]at h;cases h;refine⟨rfl,0,rfl,by simp,?_⟩;have e:=c.length;simp only[AAV,<-e,iN];exact c
 | .int _,_+1,d,pv,cs,h,c=>by simp[HI]at h
 | .bool,_+1,d,pv,cs,h,c=>by simp[HI]at h
 | .str,_+1,d,pv,cs,h,c=>by simp[HI]at h
 | .slice _,_+1,d,pv,cs,h,c=>by simp[HI]at h
 | .agg _,_+1,d,pv,cs,h,c=>by simp[HI]at h
theorem mR {α:Type} (cs:List α) (o m a n:Nat) (h:a+n<=m):(((cs.drop o).take m).drop a).take n=(cs.drop (o+a)).take n:=by
 rw[List.drop_take,ACf,ACo]
 congr 1
 omega
theorem Tz {w:World} {O:Nat->Prop}:∀ {f:List Nat} {t:Ty} {d:t.den} {pv:PV} {cs:List Value} {off:Nat},Sw f t d=some pv->Lu f t=some off->Br w O t cs d ->
  off+pv.t.size<=t.size/\Br w O pv.t ((cs.drop off).take pv.t.size) pv.d
 | [],t,d,pv,cs,off,h,a,b=>by
  simp only[Sw]at h;simp only[Lu]at a;cases h;cases a;have e:=b.length;simp only[AAV,<-e,iN];exact⟨by simp[e],b⟩
 | k :: r,t,d,pv,cs,off,h,a,b=>by
  cases t<;>simp only[Sw,Lu]at h a<;>try(cases h;done)
  rename_i t;split at h
  ·rename_i p hp;have b:Br w O t cs d:=b;obtain⟨h1,o,g,m,i⟩:=O9 hp b;rw[h1,g]at a;simp only[OR]at a;obtain⟨n,l,rfl⟩:=a;obtain⟨j,c⟩:=Tz h l i;refine⟨by simp only[Ty.size];omega,?_⟩;rw[mR _ _ _ _ _ j]at c;exact c
  ·cases h
def A0 {α:Type} (cs:List α) (o:Nat) (a:List α):List α:=cs.take o++a++cs.drop (o+a.length)
theorem FG {α:Type} {cs:List α} {o:Nat} {a:List α} (h:o+a.length<=cs.length):(A0 cs o a).length=cs.length:=by
 simp[A0];omega
theorem D5 {α:Type} {cs a:List α} (h:a.length=cs.length):A0 cs 0 a=a:=by
 simp[A0,h]
theorem PI {α:Type} (a b:List α) (o:Nat) (c:List α):A0 (a++b) (a.length+o) c=a++A0 b o c:=by
 simp only[A0,List.take_append,ADg,oF];have h1:List.take (a.length+o) a=a:=An (by omega);have d:List.drop (a.length+o+c.length) a=[]:=IF (by omega);have e:a.length+o-a.length=o:=by omega
 have f:a.length+o+c.length-a.length=o+c.length:=by omega
 rw[h1,d,e,f];simp
theorem R8 {α:Type} (a b:List α) (c:List α) (h:c.length=a.length):A0 (a++b) 0 c=c++b:=by
 simp[A0,h]
theorem aR {w:World} {O:Nat->Prop}:∀ {t:Ty} {k:Nat} {d i:t.den} {pv:PV} {cs g:List Value} {o:Nat},NV t k d pv=some i->Ka t k=some o->Br w O t cs d->Br w O pv.t g pv.d ->
  Br w O t (A0 cs o g) i/\Yt t k=some pv.t
 | .prod a b,0,d,i,pv,cs,g,o,h,c,f,e=>by
  simp only[NV,OR]at h;obtain⟨y,l,rfl⟩:=h;have:=BG l;subst this;simp only[Ka]at c;cases c;obtain⟨c1,c2,rfl,h1,j⟩:=f;rw[R8 _ _ _ (by rw[e.length,h1.length])];exact⟨⟨g,c2,rfl,e,j⟩,rfl⟩
 | .prod a b,k+1,d,i,pv,cs,g,o,h,c,f,e=>by
  simp only[NV,OR]at h;obtain⟨y,l,rfl⟩:=h;simp only[Ka,OR]at c;obtain⟨q,p,rfl⟩:=c;obtain⟨c1,c2,rfl,h1,j⟩:=f;obtain⟨m,n⟩:=aR l p j e;rw[<-h1.length,PI];exact⟨⟨c1,_,rfl,h1,m⟩,n⟩
 | .int _,0,d,i,pv,cs,g,o,h,c,f,e=>by
  have:=BG h;subst this;simp only[Ka]at c;cases c;rw[D5 (by rw[e.length,f.length])];exact⟨e,rfl⟩
 | .bool,0,d,i,pv,cs,g,o,h,c,f,e=>by
  have:=BG h;subst this;simp only[Ka]at c;cases c;rw[D5 (by rw[e.length,f.length])];exact⟨e,rfl⟩
 | .str,0,d,i,pv,cs,g,o,h,c,f,e=>by
  have:=BG h;subst this;simp only[Ka]at c;cases c;rw[D5 (by rw[e.length,f.length])];exact⟨e,rfl⟩
 | .slice _,0,d,i,pv,cs,g,o,h,c,f,e=>by
  have:=BG h;subst this;simp only[Ka]at c;cases c;rw[D5 (by rw[e.length,f.length])];exact⟨e,rfl⟩
 | .ref _,0,d,i,pv,cs,g,o,h,c,f,e=>by
  have:=BG h;subst this;simp only[Ka]at c;cases c;rw[D5 (by rw[e.length,f.length])];exact⟨e,rfl⟩
 | .ref _,_+1,d,i,pv,cs,g,o,h,c,f,e=>by simp[NV]at h
 | .agg _,0,d,i,pv,cs,g,o,h,c,f,e=>by
  have:=BG h;subst this;simp only[Ka]at c;cases c;rw[D5 (by rw[e.length,f.length])];exact⟨e,rfl⟩
 | .int _,_+1,d,i,pv,cs,g,o,h,c,f,e=>by simp[NV]at h
 | .bool,_+1,d,i,pv,cs,g,o,h,c,f,e=>by simp[NV]at h
 | .str,_+1,d,i,pv,cs,g,o,h,c,f,e=>by simp[NV]at h
 | .slice _,_+1,d,i,pv,cs,g,o,h,c,f,e=>by simp[NV]at h
 | .agg _,_+1,d,i,pv,cs,g,o,h,c,f,e=>by simp[NV]at h
theorem Nf {α:Type} (cs:List α) (o m a:Nat) (b:List α) (h:a+b.length<=m) (i:o+m<=cs.length) :
  A0 cs o (A0 ((cs.drop o).take m) a b)=A0 cs (o+a) b:=by
 apply ACa;intro j;have c:(A0 ((cs.drop o).take m) a b).length=m:=by rw[FG]<;>simp<;>omega
 simp only[A0]at c ⊢;rw[c];simp only[ABb,GO,ON,AAQ,AAy,AAZ];have d:min o cs.length=o:=by omega
 have e:min m (cs.length-o)=m:=by omega
 have f:min a m=a:=by omega
 have g:min (o+a) cs.length=o+a:=by omega
 rw[d,e,f,g];by_cases c1:j<o
 ·grind
 ·grind
theorem UA {w:World} {O:Nat->Prop}:∀ {l:List Nat} {t:Ty} {d f:t.den} {pv:PV} {cs c:List Value} {off:Nat},Ts l t d pv=some f->Lu l t=some off->Br w O t cs d->Br w O pv.t c pv.d ->
  Br w O t (A0 cs off c) f/\off+c.length<=cs.length
 | [],t,d,f,pv,cs,c,off,h,b,a,e=>by
  have:=BG h;subst this;simp only[Lu]at b;cases b;rw[D5 (by rw[e.length,a.length])];exact⟨e,by simp[e.length,a.length]⟩
 | k :: r,t,d,f,pv,cs,c,off,h,b,a,e=>by
  cases t<;>simp only[Ts,Lu]at h b<;>try(cases h;done)
  rename_i t;have a:Br w O t cs d:=a;split at h
  ·rename_i p hp;obtain⟨h1,o,g,v,m⟩:=O9 hp a;rw[h1,g]at b;simp only[OR]at b;obtain⟨z,s,rfl⟩:=b;split at h
   ·rename_i y u;obtain⟨n,i⟩:=UA u s m e;have x:=a.length;have q:((cs.drop o).take p.t.size).length=p.t.size:=by simp;omega
    rw[q]at i;obtain⟨j,_⟩:=aR (pv:=⟨p.t,y⟩) h g a n;rw[Nf _ _ _ _ _ i (by omega)]at j;exact⟨j,by omega⟩
   ·cases h
  ·cases h
end
section
open Go Go.RowKit
section
variable {V:Vw}
theorem NW.length {x:AV} {cs:List Value} (h:NW V x cs):cs.length=x.cells:=by
 cases x;case p t d=>exact Br.length (show Br V.w V.O t cs d from h)
 case ag l=>obtain⟨v,_,_,hf⟩:=h;exact hf.elim
 case tup l=>obtain⟨v,_,_,hf⟩:=h;exact hf.elim
 all_goals(obtain⟨v,rfl,_⟩:=h;rfl)
theorem NW.one {x:AV} {cs:List Value} (h:NW V x cs):∀u∈cs,u.oneCell'=true:=by
 cases x;case p t d=>exact Br.one (show Br V.w V.O t cs d from h)
 all_goals(obtain⟨v,rfl,h1,_⟩:=h;intro u hu;simp at hu;subst hu;exact h1)
theorem DZ.one:∀ {l:List AV} {cs:List Value},DZ V l cs->∀u∈cs,u.oneCell'=true
 | [],cs,h=>by have h:cs=[]:=h;subst h;simp
 | x :: r,cs,h=>by
  obtain⟨c1,c2,rfl,h1,a⟩:=h;intro u hu;rcases OF.1 hu with hu|hu
  ·exact h1.one u hu
  ·exact a.one u hu
theorem DZ.length:∀ {l:List AV} {cs:List Value},DZ V l cs->cs.length=CJ l l.length
 | [],cs,h=>by have h:cs=[]:=h;subst h;rfl
 | x :: r,cs,h=>by
  obtain⟨c1,c2,rfl,h1,a⟩:=h;simp only[GO,OS,CJ];rw[h1.length,a.length]
theorem DZ.get:∀ {l:List AV} {cs:List Value} {k:Nat} {x:AV},DZ V l cs->l[k]?=some x ->
  CJ l k+x.cells<=cs.length/\NW V x ((cs.drop (CJ l k)).take x.cells)
 | [],cs,k,x,h,hk=>by simp at hk
 | y :: r,cs,0,x,h,hk=>by
  obtain⟨c1,c2,rfl,h1,a⟩:=h;simp at hk;subst hk;have:=h1.length;grind [CJ]
 | y :: r,cs,k+1,x,h,hk=>by
  obtain⟨c1,c2,rfl,h1,a⟩:=h;have hk:r[k]?=some x:=by simpa using hk
  obtain⟨c,b⟩:=DZ.get a hk;have:=h1.length;refine⟨by simp only[CJ,GO];omega,?_⟩;simp only[CJ,<-this];rw[<-ACo,ACg];exact b
theorem DZ.set:∀ {l:List AV} {cs:List Value} {k:Nat} {x y:AV} {a:List Value},DZ V l cs->l[k]?=some x->NW V y a->y.cells=x.cells ->
  DZ V (l.set k y) (A0 cs (CJ l k) a)
 | [],cs,k,x,y,a,h,hk,b,c=>by simp at hk
 | z :: r,cs,0,x,y,a,h,hk,b,c=>by
  obtain⟨c1,c2,rfl,h1,d⟩:=h;simp at hk;subst hk;simp only[CJ,ABF];rw[R8 _ _ _ (by rw[b.length,h1.length,c])];exact⟨a,c2,rfl,b,d⟩
 | z :: r,cs,k+1,x,y,a,h,hk,b,c=>by
  obtain⟨c1,c2,rfl,h1,d⟩:=h;have hk:r[k]?=some x:=by simpa using hk
  have:=h1.length;simp only[CJ,ACt,<-this];rw[PI];exact⟨c1,_,rfl,h1,DZ.set d hk b c⟩
theorem g9 {ty:Ty} {x:AV} {b:List Value} (a:NW V x b) (hf:CX ty x=true):b.length=ty.size/\B2 V x (ty.wrap b):=by
 cases x;case p t d =>
  simp only[CX,IS]at hf;subst hf;have a:Br V.w V.O ty b d:=a;exact⟨Br.length a,b,a,rfl⟩
 case ag l=>obtain⟨v,_,_,hf⟩:=a;exact hf.elim
 case tup l=>obtain⟨v,_,_,hf⟩:=a;exact hf.elim
 all_goals
  obtain⟨v,rfl,_,h1⟩:=a;have c:ty.cell1=true:=by simp only[CX]at hf;first|exact hf|(simp only[As]at hf;exact hf.2)|exact absurd hf (by decide)
  cases ty<;>first|(cases c;done)|exact⟨rfl,h1⟩
theorem zB {ty:Ty} {x:AV} {v:Value} (i:B2 V x v) (hf:CX ty x=true) (o:ty.cell1=true->v.oneCell'=true):v.cells.size=ty.size/\((∀l,x≠.ag l)->NW V x v.cells.toList):=by
 cases x;case p t d =>
  simp only[CX,IS]at hf;subst hf;obtain⟨cs,f,rfl⟩:=i;have g:=f.length;cases ty;case agg t=>exact⟨by simpa[Ty.wrap,Value.cells] using g,λ_=>by simpa[Ty.wrap,Value.cells,NW] using f⟩
  case prod a b=>exact⟨by simpa[Ty.wrap,Value.cells] using g,λ_=>by simpa[Ty.wrap,Value.cells,NW] using f⟩
  case slice e =>
   obtain⟨a,c,rfl,h⟩:=f;exact⟨rfl,λ_=>⟨a,c,rfl,h⟩⟩
  case int k =>
   obtain⟨rfl,h⟩:=f;exact⟨rfl,λ_=>⟨rfl,h⟩⟩
  case bool =>
   have f:cs=_:=f;subst f;exact⟨rfl,λ_=>rfl⟩
  case str =>
   obtain⟨rfl,h⟩:=f;exact⟨rfl,λ_=>⟨rfl,h⟩⟩
  case ref k =>
   have f:cs=[Lr k]:=f;subst f;have q:(Ty.ref k).wrap [Lr k]=Lr k:=rfl;rw[q];match k with
   | 0=>exact⟨rfl,λ_=>rfl⟩
   | 1=>exact⟨rfl,λ_=>rfl⟩
   | _+2=>exact⟨rfl,λ_=>rfl⟩
 case ag l =>
  obtain⟨cs,rfl,n⟩:=i;have g:=n.length;cases ty<;>simp only[CX]at hf<;>try(cases hf;done)
  rename_i t;simp only[AAN]at hf;exact⟨by simp[Value.cells,Ty.size,g,hf],λh=>absurd rfl (h l)⟩
 case tup l=>simp[CX]at hf
 all_goals
  have h1:ty.cell1=true:=by simp only[CX]at hf;first|exact hf|(simp only[As]at hf;exact hf.2)|exact absurd hf (by decide)
  have j:v.oneCell'=true:=o h1;have m:v.cells=#[v]:=by cases v<;>first|rfl|simp[Value.oneCell']at j
  have hs:ty.size=1:=by cases ty<;>simp[Ty.cell1]at h1<;>rfl
  rw[m];exact⟨by simp[hs],λ_=>⟨v,rfl,j,i⟩⟩
end
end
section
open Go Go.RowKit
section
variable {P:Program} {tb:Tb} {id:TypeId} {ti:TI} {w:World} {O0:Nat->Prop} {σ:St} {ρ:Nat->Value} {vc:Prop} {v:AV} {obs:List (Nat×Obj)}
theorem XH {w:World} {base:Nat} {et:TypeId} {size:Nat} {g m c n:Nat} {cells:List Value} (h:w.ownsRow base et size (.slice (some ⟨g,0,none⟩) m c) n cells) :
  m=n/\∀(j:Nat) (u:Value),cells[j]?=some u->w.cell? ⟨g,j,none⟩=some u:=by
 constructor
 ·rcases h.2 with ⟨a,_⟩|⟨e,cap,d,a,_⟩
  ·injection a with h1;cases h1
  ·injection a
 ·intro j u b;have:=h.cells (g:=g) rfl j u b
  rwa [aM]at this
theorem zC (hT:EI P tb id ti) (T:∀n o,lk n σ.objs=some o->A3 (vw w O0 σ ρ) o (ρ n)) {x:AV} {xv:Value}
  (h:Jy σ (some ti) (some x)=some (vc,v,obs)) (V:B2 (vw w O0 σ ρ) x xv):obs=[]/\∃u,(Instr.loadAt id xv).run P w=.ok u w/\B2 (vw w O0 σ ρ) v u:=by
 unfold Jy at h;split at h
 ·rename_i n X off N O;cases N;cases O;obtain⟨Z,b,z,rfl⟩:=V;cases hn:lk n σ.objs with
  | none=>rw[hn]at h;simp[Ek]at h
  | some o =>
   rw[hn]at h;cases o with
   | arr et e xs=>simp[Ek]at h
   | mapo k v l=>simp[Ek]at h
   | frame bf fs=>simp[Ek]at h
   | loop L=>simp[Ek]at h
   | itr ba bd bb bc ay=>simp[Ek]at h
   | dfr=>simp[Ek]at h
   | nest et az k e xs a=>simp[Ek]at h
   | box et st fs =>
    simp only[Ek]at h;cases a:Jw st fs X with
    | none=>rw[a]at h;simp[I3]at h
    | some y =>
     rw[a]at h;simp only[I3]at h;split at h
     ·rename_i H;obtain⟨B,C⟩:=H;cases h;obtain⟨bk,b',cs,s,am,M⟩:=T n _ hn;have z:ρ n=_:=z;rw[z]at s;injection s with s
      injection s with s
      injection s with s
      subst s;have D:∀(I:List Value) (o:Nat),I=(cs.drop o).take I.length->∀(j:Nat) (u:Value),I[j]?=some u->w.cell? ((⟨b,o,none⟩:Addr).add j)=some u:=by
       intro I o ab j u p;rw[Jv,cell_of_row w b (o+j) cs.toArray et (0,0) am];rw[ab,AAy,AAZ]at p;split at p
       ·simpa using p
       ·cases p
      refine⟨rfl,?_⟩;unfold Jw at a;split at a
      · -- the whole
       simp only[Oy]at C;cases C;cases st with
       | true =>
        simp only[ABi]at a;cases a;have bi:=M.length;cases f:ti.ty<;>rw[f]at B<;>simp only[CX]at B<;>try(cases B;done)
        rename_i t;simp only[AAN]at B;have av:cs.length=ti.ty.size:=by rw[f];simp only[Ty.size];omega
        have:=Er w hT av (D cs 0 (by simp));refine⟨_,this,cs,?_,M⟩;rw[f];rfl
       | false =>
        simp only[ABj,ABK]at a;have ax:CJ fs 0=0:=by cases fs<;>rfl
        obtain⟨h1,q⟩:=M.get a;rw[ax]at q;obtain⟨F,J⟩:=g9 q B;have:=Er w hT F (D _ 0 (by rw[q.length]));exact⟨_,this,J⟩
      · -- a field
       rename_i k;cases st with
       | false=>simp at a
       | true =>
        simp only[ABi]at a;obtain⟨h1,q⟩:=M.get a;obtain⟨F,J⟩:=g9 q B;have ar:off=CJ fs k:=by
         simp only[Oy,a]at C;cases v<;>simp only[Lu,ABD,List.isEmpty_nil,ABi]at C<;>cases C<;>rfl
        subst ar;have:=Er w hT F (D _ (CJ fs k) (by rw[q.length]));exact⟨_,this,J⟩
      ·rename_i k r U;cases st with
       | false=>simp at a
       | true =>
        simp only[ABi]at a;split at a
        ·rename_i t d hk;simp only[OR]at a;obtain⟨pv,au,rfl⟩:=a;simp only[Oy,hk,OR]at C;obtain⟨be,aq,rfl⟩:=C;obtain⟨h1,q⟩:=M.get hk;have q:Br w (own O0 σ ρ) t _ d:=q;obtain⟨Y,G⟩:=Tz au aq q;simp only[AV.cells]at h1 G;rw[mR _ _ _ _ _ Y]at G;simp only[CX,IS]at B;have Q:=G.length;have:=Er w hT (by rw[B];exact Q) (D _ (CJ fs k+be) (by rw[Q]));rw[B]at this;exact⟨_,this,_,G,rfl⟩
        ·cases a
     ·cases h
 ·rename_i n e i X off N O;cases N;cases O;obtain⟨Z,g,m,c,z,ao,rfl⟩:=V;cases hn:lk n σ.objs with
  | none=>rw[hn]at h;simp[El]at h
  | some o =>
   rw[hn]at h;cases o with
   | box et st fs=>simp[El]at h
   | mapo k v l=>simp[El]at h
   | frame bf fs=>simp[El]at h
   | loop L=>simp[El]at h
   | itr ba bd bb bc ay=>simp[El]at h
   | dfr=>simp[El]at h
   | nest et az k A xs a =>
    cases a with
    | some j=>simp[El]at h
    | none =>
     simp only[El]at h;split at h
     ·rename_i aj;subst aj;obtain⟨o,ins,cells,s,S⟩:=T n _ hn;have z:plc (ρ n)=_:=z;have ap:plc (ρ n)=o:=s.plc;have E:=S.own;rw[<-ap,z]at E;obtain⟨rfl,D⟩:=XH E;have W:xs[i]?=some (xs.getD i (k.dflt,[])):=by grind
      have R:i<ins.length:=by rw[S.len];exact ao
      obtain⟨c1,v1,aa,af,F⟩:=S.row i _ ins[i] W (AT R);rcases F with ⟨F,_⟩|⟨_,ag,J⟩
      ·cases F
      ·have ae:c1.length=k.size:=af.length;unfold Nx at h;split at h
       ·split at h
        ·rename_i K;obtain⟨f,rfl⟩:=K;cases h;have:=Er (ad:=⟨g,i*(Ty.agg (.prod k (.slice A))).size+0,none⟩) w hT (by rw[f];exact ae) (λj u p=>by
          rw[Jv];refine D _ _ (aa j u ?_);rw[AAo (bY.1 p).1];exact p)
         rw[f]at this;exact⟨rfl,_,this,c1,af,rfl⟩
        ·cases h
       ·split at h
        ·rename_i K;obtain⟨f,rfl⟩:=K;cases h;have:=Er (ad:=⟨g,i*(Ty.agg (.prod k (.slice A))).size+k.size,none⟩) (cs:=[v1]) w hT (by rw[f];rfl) (λj u p=>by
          have an:j=0:=by have:=(bY.1 p).1;simpa using this
          subst an;rw[Jv];refine D _ _ (aa k.size u ?_);rw[AAl (by omega),ae,AB7];exact p)
         rw[f]at this;obtain⟨ah,ai,aw⟩:=y5 ag J;exact⟨rfl,_,this,Z,_,ah,ai,ins[i],s.resolve_right (λh=>by rw[h.2.2]at R;simp at R),by simp[R],ag,aw⟩
        ·cases h
       ·cases h
     ·cases h
   | arr et A xs =>
    simp only[El]at h;cases H:BQ (.slice e) ⟨.slice A,xs⟩ with
    | none=>rw[H]at h;simp[I5]at h
    | some ys =>
     obtain⟨rfl,q⟩:=Bl H;cases q;rw[H]at h;simp only[I5]at h;cases hp:Sw X A (xs.getD i A.dflt) with
     | none=>rw[hp]at h;simp[I4]at h
     | some pv =>
      rw[hp]at h;simp only[I4]at h;split at h
      ·rename_i K;obtain⟨f,C⟩:=K;cases h;obtain⟨bj,cells,E,ak⟩:=T n _ hn;have z:plc (ρ n)=_:=z;have E:w.ownsRow 0 et A.size (ρ n) xs.length cells:=E;rw[Hc E]at z;rw[z]at E;obtain⟨rfl,D⟩:=XH E;have W:xs[i]?=some (xs.getD i A.dflt):=by grind
       obtain⟨I,ab,bh,al⟩:=ak i _ W;obtain⟨Y,G⟩:=Tz hp C al;have Q:=G.length;have:=Er (ad:=⟨g,i*A.size+off,none⟩) w hT (by rw[f];exact Q) (λj u p=>by
        rw[Jv,AD9];rw[AAy,AAZ]at p;split at p
        ·grind
        ·cases p)
       rw[f]at this;exact⟨rfl,_,this,_,G,rfl⟩
      ·cases h
 ·rename_i u d N O;cases N;cases O;obtain⟨ad,cs,rfl,bg,H,U⟩:=V;split at h
  ·rename_i f;cases h;have:=Er w hT (by rw[f];exact U.length) H;rw[f]at this;exact⟨rfl,_,this,cs,U,rfl⟩
  ·cases h
 ·cases h
end
end
section
open Go Go.RowKit
section
variable {P:Program} {tb:Tb} {id:TypeId} {ti:TI} {w:World} {V:Vw} {vc:Prop} {v:AV} {obs:List (Nat×Obj)}
theorem hC {α:Type} {l:List α} {k:Nat} {x:α} (h:l[k]?=some x):x∈l:=AB2 h
theorem aU (hT:EI P tb id ti) {u:Ty} (p:ti.ty=.agg u) (d:ti.el=0) {f k s:Nat} (hf:ti.offs[f]?=some (k,s)) (ad:Addr) (w:World) :
  (Instr.fieldAt id (.pointer (some ad)) f).run P w=.ok (.pointer (some (ad.add k))) w:=by
 obtain⟨⟨⟨m,_⟩,_⟩,a⟩:=hT;rw[p]at a;simp only at a;rcases a with ⟨fs,_,hu,o⟩|⟨n,e,i,l,_⟩
 ·have b:(ti.offs.map some)[f]?=some (some (k,s)):=by simp[hf]
  rw[o]at b;simp only[AA1,OR]at b;obtain⟨fl,h,g⟩:=b;obtain⟨i,hi,c⟩:=g;cases c;have j:fs[f]?=some fl:=by simpa using h
  have hs:i.size≠0:=m _ (hC hf);simp[Instr.fieldAt,nO hu,j,Instr.sureAddr,fieldPlace,sizeOf,L6 w hi,hs]
 ·exact absurd d l
theorem aV (hT:EI P tb id ti) {u:Ty} (h:ti.ty=.agg u) (c:ti.el≠0) {k s:Nat} {z:Int} {kd:IntKind} (j:0<=z) (hf:ti.offs[z.toNat]?=some (k,s)) (ad:Addr) (w:World) :
  (Instr.indexAt id (.pointer (some ad)) (.int kd z)).run P w=.ok (.pointer (some (ad.add k))) w:=by
 obtain⟨_,a⟩:=hT;rw[h]at a;simp only at a;rcases a with ⟨fs,h0,_⟩|⟨n,e,i,_,hu,hi,g⟩
 ·exact absurd h0 c
 ·rw[g]at hf;simp only[AA1,OR]at hf;obtain⟨l,d,b⟩:=hf;cases b;obtain⟨h1,a⟩:=bY.1 d;simp only[ABT]at h1;simp only[AC3]at a;subst a;have f:z<(n:Int):=by omega
  simp[Instr.indexAt,asIntOf,nO hu,Instr.sureAddr,sizeOf,L6 w hi,j,f]
theorem zD {f:Nat} {o:Option (Nat×Nat)} {x:AV} {xv:Value} {run:Value->Result Value} (y:∀k s ad,o=some (k,s)->run (.pointer (some ad))=.ok (.pointer (some (ad.add k))) w)
  (h:Oz f o x=some (vc,v,obs)) (z:B2 V x xv):obs=[]/\∃u,run xv=.ok u w/\B2 V v u:=by
 unfold Oz at h;split at h
 ·rename_i n G off;obtain⟨q,b,A,rfl⟩:=z;cases o with
  | none=>simp[Tt]at h
  | some p =>
   obtain⟨k,s⟩:=p;simp only[Tt]at h;cases h;exact⟨rfl,_,y k s _ rfl,q,b,A,by rw[Jv]⟩
 ·rename_i n e i G off;obtain⟨q,g,m,c,A,F,rfl⟩:=z;cases o with
  | none=>simp[Tt]at h
  | some p =>
   obtain⟨k,s⟩:=p;simp only[Tt]at h;cases h;exact⟨rfl,_,y k s _ rfl,q,g,m,c,A,F,by rw[Jv,AD9]⟩
 ·rename_i u d;obtain⟨ad,cs,rfl,D,E,t⟩:=z;cases r:HI u f d with
  | none=>rw[r]at h;simp[I6]at h
  | some pv =>
   rw[r]at h;simp only[I6]at h;split at h
   ·rename_i l;cases h;have t:Br V.w V.O u cs d:=t;obtain⟨h1,I,B,H,C⟩:=O9 r t;rw[B]at l;cases o with
    | none=>simp at l
    | some p =>
     obtain⟨k,s⟩:=p;simp only[ABD,ABA]at l;subst l;refine⟨rfl,_,y k s _ rfl,ad.add k,_,rfl,by rw[CN];exact D,λj u a=>?_,C⟩;rw[DW];rw[AAy,AAZ]at a;split at a
     ·exact E _ _ a
     ·cases a
   ·cases h
 ·cases h
theorem A36 (hT:EI P tb id ti) {f:Nat} {x:AV} {xv:Value} (w:World)
  (h:HJ f (some ti) (some x)=some (vc,v,obs)) (e:B2 V x xv):obs=[]/\∃u,(Instr.fieldAt id xv f).run P w=.ok u w/\B2 V v u:=by
 unfold HJ at h;split at h
 ·rename_i u offs b g a c;cases a;cases c;exact zD (run:=λxv=>(Instr.fieldAt id xv f).run P w) (λk s ad d=>aU hT rfl rfl d ad w) h e
 ·cases h
theorem R9 {e:TypeId} (hu:P.underlying id=some (.slice e)) {size:Nat} (hs:(sizeOf e).run P w=.ok size w) (a:Addr) (n c:Nat) (k:IntKind) (i:Int) (h0:0<=i) (h1:i<n) :
  (Instr.indexAt id (.slice (some a) n c) (.int k i)).run P w=.ok (.pointer (some (a.add (i.toNat*size)))) w:=by
 simp[Instr.indexAt,asIntOf,nO hu,h0,h1,hs]
theorem AAv {e:Ty} {el:TypeId} (hu:P.underlying id=some (.slice el)) (hs:(sizeOf el).run P V.w=.ok e.size V.w) {l:List e.den} {kd:IntKind} {k:Int} {xv:Value}
  (r:BX V.w V.O (.slice e) xv l) (n:0<=k) (o:k<(l.length:Int)) :
  ∃u,(Instr.indexAt id xv (.int kd k)).run P V.w=.ok u V.w/\B2 V (.ip e (l.getD k.toNat e.dflt)) u:=by
 obtain⟨cs,h,rfl⟩:=r;obtain⟨a,c,rfl,h1,t,b⟩:=h;have p:k.toNat<l.length:=by omega
 rcases b with b|⟨ad,rfl,f,i⟩
 ·subst b;simp at p
 ·refine⟨_,R9 hu hs _ _ _ _ _ n o,?_⟩;have s:l[k.toNat]?=some (l.getD k.toNat e.dflt):=by grind
  obtain⟨d,v,g,q⟩:=i _ _ s;exact⟨_,d,rfl,by rw[CN];exact f,λj u m=>by rw[DW];exact g j u m,q⟩
theorem AAw {e:Ty} {el:TypeId} (hu:P.underlying id=some (.slice el)) (hs:(sizeOf el).run P V.w=.ok e.size V.w) {n lo hi:Nat} {kd:IntKind} {k:Int} {xv:Value}
  (s:B2 V (.sr n e lo hi) xv) (h:∀n,V.L n->∃o,A3 V o (V.ρ n)) (j:0<=k) (l:k<((hi-lo:Nat):Int)) :
  ∃u,(Instr.indexAt id xv (.int kd k)).run P V.w=.ok u V.w/\B2 V (.ep n e (lo+k.toNat) [] 0) u:=by
 obtain⟨b,a,m,c,f,A,z,t,v,rfl,y,h0,h1⟩:=s;have p:lo<hi:=by omega
 have i:=h1 p;obtain⟨o,q⟩:=h n b;obtain⟨g,rfl⟩:∃g,a=some ⟨g,0,none⟩:=by
  obtain⟨_,_,cells,r,_⟩:=XG q f;rcases r.2 with ⟨d,hn⟩|⟨g,cap,x,d,_⟩
  ·injection d;omega
  ·grind
 subst i;refine⟨_,R9 hu hs _ _ _ _ _ j l,b,g,m,c,f,by omega,?_⟩;rw[DW,aM,ACU];rfl
theorem BR {O:Nat->Prop} {w:World} {kd:IntKind} {k:Int} {v:Value} (h:BX w O (.int kd) v k):v=.int kd k/\LW kd k:=by
 obtain⟨cs,⟨rfl,h1⟩,rfl⟩:=h;exact⟨rfl,h1⟩
theorem BO {O:Nat->Prop} {w:World} {kd:IntKind} {k:Int} (h:LW kd k):BX w O (.int kd) (.int kd k) k:=⟨_,⟨rfl,h⟩,rfl⟩
theorem EV {O:Nat->Prop} {w:World} {b:Bool} {v:Value} (h:BX w O .bool v b):v=.bool b:=by
 obtain⟨cs,h1,rfl⟩:=h;have h1:cs=_:=h1;subst h1;rfl
theorem Bi {O:Nat->Prop} {w:World} (b:Bool):BX w O .bool (.bool b) b:=⟨[.bool b],rfl,rfl⟩
theorem Gy {O:Nat->Prop} {w:World} {s:ByteArray} {v:Value} (h:BX w O .str v s):v=.string s/\s.size<=AO:=by
 obtain⟨cs,⟨rfl,h1⟩,rfl⟩:=h;exact⟨rfl,h1⟩
theorem UB {O:Nat->Prop} {w:World} {s:ByteArray} (h:s.size<=AO):BX w O .str (.string s) s:=⟨_,⟨rfl,h⟩,rfl⟩
theorem CK {e:Ty} {offs:List (Nat×Nat)} {el:TypeId} {bytes:Nat} (hT:EI P tb id ⟨.slice e,offs,el,bytes⟩) (b:DG P tb) :
  P.underlying id=some (.slice el)/\(∀w,(sizeOf el).run P w=.ok e.size w)/\∃te,lk el tb.ty=some te/\te.ty=e:=by
 obtain⟨_,hu,te,a,rfl⟩:=hT;exact⟨hu,λw=>Hy w (b _ _ a),te,a,rfl⟩
theorem A37 (hT:EI P tb id ti) (m:DG P tb) {x y:AV} {xv p:Value}
  (h:Fz (some ti) (some x) (some y)=some (vc,v,obs)) (f:vc) (i:B2 V x xv) (j:B2 V y p) (r:∀n,V.L n->∃o,A3 V o (V.ρ n)) :
  obs=[]/\∃u,(Instr.indexAt id xv p).run P V.w=.ok u V.w/\B2 V v u:=by
 unfold Fz at h;split at h
 ·rename_i e offs el bytes q l kd k a c d;cases a;cases c;cases d;split at h
  ·rename_i g;subst g;cases h;obtain⟨hu,hs,_⟩:=CK hT m;obtain⟨rfl,_⟩:=BR j;exact⟨rfl,AAv hu (hs _) i f.1 f.2⟩
  ·cases h
 ·rename_i e offs el bytes n q lo hi kd k a c d;cases a;cases c;cases d;split at h
  ·rename_i g;subst g;cases h;obtain⟨hu,hs,_⟩:=CK hT m;obtain⟨rfl,_⟩:=BR j;exact⟨rfl,AAw hu (hs _) i r f.1 f.2⟩
  ·cases h
 ·rename_i u offs el b A B a c d;cases a;cases c;cases d;unfold Kh at h;split at h
  ·rename_i kd k;split at h
   ·rename_i hk;obtain⟨rfl,_⟩:=BR j;exact zD (run:=λxv=>(Instr.indexAt id xv (.int kd k)).run P V.w) (λz s ad t=>aV hT rfl (by simp) hk t ad V.w) h i
   ·cases h
  ·cases h
 ·cases h
theorem Ks {k:IntKind} {n:Int} (h:LW k n):k.wrap n=n:=by
 obtain⟨h1,a⟩:=h;cases k<;>simp[IntKind.min,IntKind.max,IntKind.signed,IntKind.bits]at h1 a<;>simp[IntKind.wrap,IntKind.signed,IntKind.bits]<;>omega
theorem Mv (k:IntKind) (n:Int):LW k (k.wrap n):=by
 cases k<;>simp only[LW,IntKind.min,IntKind.max,IntKind.wrap,IntKind.signed,IntKind.bits]<;>simp<;>omega
theorem A6F {op:BinOp} {t:TypeId} {k e:IntKind} {a b:Int} (w:World) (c:(bin op k a e b).1) (ha:LW k a) :
  ∃u,(binOp op t (.int k a) (.int e b)).run P w=.ok u w/\B2 V (bin op k a e b).2 u:=by
 unfold bin at c ⊢;split at c
 ·have d:¬b<0:=by have h:0<=b:=c;omega
  exact⟨_,by simp[binOp,Op.shift,d];rfl,BO (Mv _ _)⟩
 ·have d:¬b<0:=by have h:0<=b:=c.1;omega
  exact⟨_,by simp[binOp,Op.shift,d];rfl,BO c.2⟩
 ·split at c
  ·rename_i f g hk;subst hk;cases op<;>simp only[gW]at c ⊢;case add=>exact⟨.int k (a+b),by simp[binOp,Op.intArith,Ks c],BO c⟩
   case sub=>exact⟨.int k (a-b),by simp[binOp,Op.intArith,Ks c],BO c⟩
   case mul=>exact⟨.int k (a*b),by simp[binOp,Op.intArith,Ks c],BO c⟩
   case quo=>exact⟨.int k (a.tdiv b),by simp[binOp,Op.intDiv,c.1,Ks c.2],BO c.2⟩
   case rem=>exact⟨.int k (a.tmod b),by simp[binOp,Op.intDiv,c.1],BO c.2⟩
   case and=>exact⟨.int k (CA .and k a b),by simp only[binOp,ne_eq,ACB,ABK,Op.intBits];rfl,BO (Mv _ _)⟩
   case or=>exact⟨.int k (CA .or k a b),by simp only[binOp,ne_eq,ACB,ABK,Op.intBits];rfl,BO (Mv _ _)⟩
   case xor=>exact⟨.int k (CA .xor k a b),by simp only[binOp,ne_eq,ACB,ABK,Op.intBits];rfl,BO (Mv _ _)⟩
   case andNot=>exact⟨.int k (CA .andNot k a b),by simp only[binOp,ne_eq,ACB,ABK,Op.intBits];rfl,BO (Mv _ _)⟩
   case eql=>exact⟨.bool (a==b),by simp[binOp,Op.intCmp],Bi _⟩
   case neq=>exact⟨.bool (a != b),by simp[binOp,Op.intCmp],Bi _⟩
   case lss=>exact⟨.bool (decide (a<b)),by simp[binOp,Op.intCmp],Bi _⟩
   case leq=>exact⟨.bool (decide (a<=b)),by simp[binOp,Op.intCmp],Bi _⟩
   case gtr=>exact⟨.bool (decide (b<a)),by simp[binOp,Op.intCmp],Bi _⟩
   case geq=>exact⟨.bool (decide (b<=a)),by simp[binOp,Op.intCmp],Bi _⟩
  ·exact c.elim
theorem A38 {op:BinOp} {t:TypeId} {a b:ByteArray} (w:World) (c:(Ws a b op).1) :
  ∃u,(binOp op t (.string a) (.string b)).run P w=.ok u w/\B2 V (Ws a b op).2 u:=by
 cases op<;>simp only[Ws]at c ⊢;case add =>
  have d:AO=140737488355328:=rfl;have hh:¬(((a.size+b.size:Nat):Int) > IntKind.i64.max):=by
   have:IntKind.i64.max=9223372036854775807:=by decide
   omega
  exact⟨.string (a++b),by simp only[binOp,Op.stringOp,At hh];rfl,UB (by simpa[AC5] using c)⟩
 case eql=>exact⟨.bool (Ac a b),by simp only[binOp,Op.stringOp];rfl,Bi _⟩
 case neq=>exact⟨.bool (!Ac a b),by simp only[binOp,Op.stringOp];rfl,Bi _⟩
 case lss=>exact⟨.bool (HW a b),by simp only[binOp,Op.stringOp];rfl,Bi _⟩
 case leq=>exact⟨.bool (HW a b||Ac a b),by simp only[binOp,Op.stringOp];rfl,Bi _⟩
 case gtr=>exact⟨.bool (!(HW a b||Ac a b)),by simp only[binOp,Op.stringOp];rfl,Bi _⟩
 case geq=>exact⟨.bool (!HW a b),by simp only[binOp,Op.stringOp];rfl,Bi _⟩
 all_goals exact c.elim
theorem A7S {op:BinOp} {t:TypeId} {ti:Option TI} (n:R4 ti=true->P.underlying t=some .bool) {x y:AV} {xv l:Value} (w:World)
  (h:Qr op ti (some x) (some y)=some (vc,v,obs)) (m:vc) (i:B2 V x xv) (j:B2 V y l) :
  obs=[]/\(∀e f,(eqGuard op t e f xv l).run P w=.ok () w)/\∃u,(binOp op t xv l).run P w=.ok u w/\B2 V v u:=by
 unfold Qr at h;split at h
 ·rename_i k a o b c d;cases c;cases d;cases h;obtain⟨rfl,ha⟩:=BR i;obtain⟨rfl,_⟩:=BR j;refine⟨rfl,λe f=>?_,A6F w m ha⟩;cases op<;>simp[eqGuard]
 ·rename_i a b c d;cases c;cases d;cases h;obtain⟨rfl,ha⟩:=Gy i;obtain⟨rfl,_⟩:=Gy j;refine⟨rfl,λe f=>?_,A38 w m⟩;cases op<;>simp[eqGuard]
 ·rename_i a b c d;cases c;cases d;have ha:=EV i;have g:=EV j;subst ha g;split at h
  ·rename_i g;have hu:=n g;cases op<;>simp only[gZ]at h<;>cases h
   ·exact⟨rfl,λe f=>by simp[eqGuard],.bool (a==b),by simp[binOp,run_equal_bool w t a b hu],Bi _⟩
   ·exact⟨rfl,λe f=>by simp[eqGuard],.bool (a != b),by simp[binOp,run_equal_bool w t a b hu,bne],Bi _⟩
  ·cases h
 ·cases h
theorem AAx {op:UnOp} {x:AV} {xv:Value} (w:World) (h:y3 op (some x)=some (vc,v,obs)) (c:vc) (e:B2 V x xv) :
  obs=[]/\∃u,(Op.unary op xv).run P w=.ok u w/\B2 V v u:=by
 unfold y3 at h;split at h
 ·rename_i b d;cases d;cases h;have:=EV e;subst this;exact⟨rfl,.bool (!b),by simp[Op.unary],Bi _⟩
 ·rename_i k a d;cases d;cases h;obtain⟨rfl,ha⟩:=BR e;have c:LW k (0-a):=c;exact⟨rfl,_,by simp only[Op.unary,Op.intArith,Ks c];rfl,BO c⟩
 ·cases h
end
end
section
open Go Go.RowKit
section
variable {P:Program} {tb:Tb} {id:TypeId} {ti:TI} {w:World} {V:Vw} {vc:Prop} {v:AV} {obs:List (Nat×Obj)}
theorem hH (l:List Int):(R5 l).size=l.length:=by
 show (R5 l).data.size=l.length;unfold R5;simp
theorem A6G (G:DG P tb) (H:V.w=w) {s t:TypeId} {B ti:TI} (hs:EI P tb s B) (y:EI P tb t ti) {x:AV} {xv:Value} (h:Jz (some B) (some ti) (some x)=some (vc,v,obs)) (i:vc) (A:B2 V x xv) :
  obs=[]/\∃u,(convert s t xv).run P w=.ok u w/\B2 V v u:=by
 unfold Jz at h;split at h
 ·rename_i T U m b1 k W D b2 ab a n o p;cases n;cases o;cases p;cases h;obtain⟨rfl,ha⟩:=BR A;have i:LW k a:=i;have f:P.underlying s=some (.int T):=hs.2;have g:P.underlying t=some (.int k):=y.2;refine⟨rfl,.int k a,?_,BO i⟩;simp[convert,nO f,nO g,Conv.intToInt,Ks i]
 ·rename_i U m b1 W D b2 l n o p;cases n;cases o;cases p;cases h;obtain⟨f,te,O,Q⟩:=hs.2;have g:P.underlying t=some .string:=y.2;have z:P.underlying m=some (.int .u8):=by
   have:=(G _ _ O).2;rw[Q]at this;exact this
  obtain⟨cs,⟨a,c,rfl,h1,E,d⟩,rfl⟩:=A;have N:(R5 l).size<=AO:=by rw[hH];exact E
  refine⟨rfl,.string (R5 l),?_,⟨[.string (R5 l)],⟨rfl,N⟩,rfl⟩⟩;have L:a=none->l=[]:=λe=>by grind
  cases a with
  | none =>
   have:=L rfl;subst this;show (convert s t (.slice none 0 c)).run P w=_;have C:R5 []=ByteArray.empty:=rfl;rw[C];simp[convert,nO f,nO g,nO z,Conv.bytesToString]
  | some ad =>
   have r:=run_convert_bytes_back (P:=P) w s t m ad c (l.map λx=>UInt8.ofNat x.toNat) f z g λj q=>by
    have b:j<List.length l:=by rw[On]at q;exact q
    rcases d with d|⟨X,d,Z,F⟩
    ·rw[d]at b;cases b
    ·cases d;obtain⟨Y,-,J,M⟩:=F j l[j] (AT b);obtain⟨rfl,K⟩:=M;have I:=J 0 (.int .u8 l[j]) rfl;rw[H]at I;obtain⟨R,S⟩:(0:Int)<=(l:List Int)[j]'b/\(l:List Int)[j]'b<=255:=by
      simpa[LW,IntKind.min,IntKind.max,IntKind.signed,IntKind.bits] using K
     have e:(((List.map (λx:Int=>UInt8.ofNat x.toNat) l)[j]'q).toNat:Int)=l[j]:=by
      rw[ABZ,UInt8.toNat_ofNat'];have aa:((l:List Int)[j]'b).toNat % 2 ^ 8=((l:List Int)[j]'b).toNat:=Nat.mod_eq_of_lt ((ACK R).2 (ACw S (by decide)));grind
     grind [Ty.size]
   rw[On]at r;exact r
 ·cases h
theorem A7T (r:∀n,V.L n->∃o,A3 V o (V.ρ n)) {x:AV} {xv:Value} {t ty:TypeId} (hT:EI P tb t ti) (w:World) (h:Sz (some ti) (some x)=some (vc,v,obs)) (g:B2 V x xv) :
  obs=[]/\∃u,(Builtin.len_ #[t] ty #[xv]).run P w=.ok u w/\B2 V v u:=by
 have j:∀n:Nat,n<=AO->LW .i64 (n:Int):=λn hn=>by
  simp[LW,IntKind.min,IntKind.max,IntKind.signed,IntKind.bits];simp[AO]at hn;omega
 unfold Sz at h;split at h
 ·rename_i e o el b q l d f;cases d;cases f;cases h;obtain⟨cs,⟨a,c,rfl,h1,y,_⟩,rfl⟩:=g;have hu:=hT.2.1;exact⟨rfl,.int .i64 (List.length l:Int),by simp[Builtin.len_,nO hu,goInt,Ty.wrap],BO (j _ y)⟩
 ·rename_i e o el b n q lo hi d f;cases d;cases f;cases h;obtain⟨k,a,m,c,C,I,H,E,F,rfl,G,h0,h1⟩:=g;have hu:=hT.2.1;obtain⟨D,p⟩:=r n k;obtain⟨_,_,_,_,this⟩:=XG p C;exact⟨rfl,.int .i64 ((hi-lo:Nat):Int),by simp[Builtin.len_,nO hu,goInt],BO (j _ (by omega))⟩
 ·rename_i e o el b n q i len d f;cases d;cases f;cases h;obtain⟨k,K,a,c,J,B,A,z,rfl⟩:=g;have hu:=hT.2.1;obtain⟨D,p⟩:=r n k;have:=A31 p B A z rfl;exact⟨rfl,.int .i64 (len:Int),by simp[Builtin.len_,nO hu,goInt],BO (j _ this)⟩
 ·rename_i e o el b d f;cases d;cases f;cases h;have g:xv=_:=g;subst g;have hu:=hT.2.1;exact⟨rfl,.int .i64 0,by simp[Builtin.len_,nO hu,goInt],BO (j 0 (by simp))⟩
 ·rename_i o el b s d f;cases d;cases f;cases h;obtain⟨rfl,h1⟩:=Gy g;have hu:P.underlying t=some .string:=hT.2;exact⟨rfl,.int .i64 (s.size:Int),by simp[Builtin.len_,nO hu,goInt],BO (j _ h1)⟩
 ·cases h
theorem uQ {i:Nat} {x:AV} {xv:Value} (w:World) (h:Em i (some x)=some (vc,v,obs)) (g:B2 V x xv) :
  obs=[]/\∃u,(Instr.extract xv i).run P w=.ok u w/\B2 V v u:=by
 have get:∀(l:List AV) (a:List Value) (i:Nat) (y:AV),J1 V l a->l[i]?=some y->∃u,a[i]?=some u/\B2 V y u:=by
  intro l;induction l with
  | nil=>intro a i y _ h;simp at h
  | cons z r j =>
   intro a i y c h;obtain⟨u,k,rfl,h1,d⟩:=c;cases i with
   | zero =>
    simp at h;subst h;exact⟨u,rfl,y4 h1⟩
   | succ i=>exact j k i y d (by simpa using h)
 unfold Em at h;split at h
 ·rename_i l e;cases e;obtain⟨a,rfl,c⟩:=g;cases b:l[i]? with
  | none=>rw[b]at h;simp[Gx]at h
  | some y =>
   rw[b]at h;simp only[Gx]at h;cases h;obtain⟨u,hu,f⟩:=get l a i _ c b;exact⟨rfl,u,by simp[Instr.extract,hu],f⟩
 ·cases h
theorem A7U {x y:AV} {xv d:Value} {ts:Array TypeId} {ty:TypeId} (w:World) (h:Qs (some x) (some y)=some (vc,v,obs)) (g:B2 V x xv) (i:B2 V y d) :
  obs=[]/\∃u,(Builtin.min_ ts ty #[xv,d]).run P w=.ok u w/\B2 V v u:=by
 unfold Qs at h;split at h
 ·rename_i k a j b e f;cases e;cases f;split at h
  ·rename_i hk;subst hk;cases h;obtain⟨rfl,ha⟩:=BR g;obtain⟨rfl,c⟩:=BR i;have ha:LW k a:=ha;have c:LW k b:=c;refine⟨rfl,.int k (if (b:Int)<a then b else a),by simp[Builtin.min_,Builtin.min2],BO ?_⟩;split
   ·exact c
   ·exact ha
  ·cases h
 ·cases h
theorem A6H {x y z:AV} {xv f g:Value} {ts:Array TypeId} {ty:TypeId} (w:World) (h:I8 (some x) (some y) (some z)=some (vc,v,obs)) (o:B2 V x xv) (p:B2 V y f) (q:B2 V z g) :
  obs=[]/\∃u,(Builtin.min_ ts ty #[xv,f,g]).run P w=.ok u w/\B2 V v u:=by
 unfold I8 at h;split at h
 ·rename_i k a s b t c i j l;cases i;cases j;cases l;split at h
  ·rename_i hk;obtain⟨m,n⟩:=hk;subst m;subst n;cases h;obtain⟨rfl,ha⟩:=BR o;obtain⟨rfl,d⟩:=BR p;obtain⟨rfl,e⟩:=BR q;have ha:LW k a:=ha;have d:LW k b:=d;have e:LW k c:=e;refine⟨rfl,.int k (if (c:Int)<(if (b:Int)<a then b else a) then c else (if (b:Int)<a then b else a)),by simp[Builtin.min_,Builtin.min2],BO ?_⟩;by_cases r:(b:Int)<a
   ·grind
   ·grind
  ·cases h
 ·cases h
theorem A7V {x y:AV} {xv d:Value} {ts:Array TypeId} {ty:TypeId} (w:World) (h:Qt (some x) (some y)=some (vc,v,obs)) (g:B2 V x xv) (i:B2 V y d) :
  obs=[]/\∃u,(Builtin.max_ ts ty #[xv,d]).run P w=.ok u w/\B2 V v u:=by
 unfold Qt at h;split at h
 ·rename_i k a j b e f;cases e;cases f;split at h
  ·rename_i hk;subst hk;cases h;obtain⟨rfl,ha⟩:=BR g;obtain⟨rfl,c⟩:=BR i;have ha:LW k a:=ha;have c:LW k b:=c;refine⟨rfl,.int k (if (a:Int)<b then b else a),by simp[Builtin.max_,Builtin.max2],BO ?_⟩;split
   ·exact c
   ·exact ha
  ·cases h
 ·cases h
theorem A6I {t:TypeId} (hu:P.underlying t=some .string) (w:World) {s:ByteArray} {kd:IntKind} {k:Int} (h0:0<=k) (h1:k<(s.size:Int)) :
  (Instr.index t (.string s) (.int kd k)).run P w=.ok (.int .u8 ((s.data.getD k.toNat 0).toNat:Int)) w/\LW .u8 ((s.data.getD k.toNat 0).toNat:Int):=by
 have a:k.toNat<s.size:=by omega
 have d:k.toNat<s.data.size:=a;have c:s[k.toNat]?=some (s.data.getD k.toNat 0):=by
  rw[getElem?_pos s k.toNat a];simp only[Array.getD,d,dite_true];rfl
 refine⟨by simp[Instr.index,asIntOf,nO hu,h0,c],?_⟩;generalize s.data.getD k.toNat 0=b;have:=b.toNat_lt;simp[LW,IntKind.min,IntKind.max,IntKind.signed,IntKind.bits];omega
theorem zE {t:TypeId} {x y:AV} {xv c:Value} (hT:EI P tb t ti) (w:World) (h:Ec (some ti) (some x) (some y)=some (vc,v,obs)) (a:vc) (i:B2 V x xv) (j:B2 V y c) :
  obs=[]/\∃u,(Instr.index t xv c).run P w=.ok u w/\B2 V v u:=by
 unfold Ec at h;split at h
 ·rename_i o el b s kd k e f g;cases e;cases f;cases g;cases h;obtain⟨rfl,_⟩:=Gy i;obtain⟨rfl,_⟩:=BR j;have hu:P.underlying t=some .string:=hT.2;obtain⟨h1,d⟩:=A6I (P:=P) hu w (kd:=kd) a.1 a.2;exact⟨rfl,_,h1,BO d⟩
 ·cases h
theorem A7W {x:AV} {xv:Value} (h:Tu (some x)=some (vc,v,obs)) (e:B2 V x xv):obs=[]/\(∃ad,xv=.pointer (some ad))/\B2 V v xv:=by
 unfold Tu at h;split at h
 ·rename_i a;cases a;cases h;obtain⟨d,b,f,rfl⟩:=e;exact⟨rfl,⟨_,rfl⟩,d,b,f,rfl⟩
 ·rename_i a;cases a;cases h;obtain⟨ad,cs,rfl,r⟩:=e;exact⟨rfl,⟨_,rfl⟩,ad,cs,rfl,r⟩
 ·rename_i a;cases a;cases h;obtain⟨d,g,m,c,f,i,rfl⟩:=e;exact⟨rfl,⟨_,rfl⟩,d,g,m,c,f,i,rfl⟩
 ·cases h
end
end
section
open Go Go.RowKit
section
variable {P:Program} {tb:Tb} {id:TypeId} {ti:TI} {V:Vw} {vc:Prop} {v:AV} {obs:List (Nat×Obj)}
def FO (a:Option Addr) (c l sz:Nat):Option Addr:=if c=l then a else a.map (·.add (l*sz))
inductive mS:Option Value->Nat->Nat->Prop
 | none (d:Nat):mS none d d
 | some (k:IntKind) (z:Int) (d:Nat) (h:0<=z):mS (some (.int k z)) d z.toNat
theorem zF {el:TypeId} (hu:P.underlying id=some (.slice el)) {sz:Nat} (w:World) (hs:(sizeOf el).run P w=.ok sz w) {a:Option Addr} {n c l h:Nat} {lo hi:Option Value}
  (i:mS lo 0 l) (hh:mS hi n h) (h1:l<=h) (m:h<=c) :
  (Instr.sliceAt id (.slice a n c) lo hi none).run P w=.ok (.slice (FO a c l sz) (h-l) (c-l)) w:=by
 cases i with
 | none =>
  cases hh with
  | none=>simp[Instr.sliceAt,nO hu,Instr.slice,Instr.sliceBounds,hs,FO]
  | some k z _ b =>
   have e:z<=(c:Int):=by omega
   simp[Instr.sliceAt,nO hu,Instr.slice,Instr.sliceBounds,Instr.sliceBound,asIntOf,hs,FO,b,e]
 | some k z _ b =>
  cases hh with
  | none =>
   have e:z<=(n:Int):=by omega
   simp[Instr.sliceAt,nO hu,Instr.slice,Instr.sliceBounds,Instr.sliceBound,asIntOf,hs,FO,b,e]
  | some o d _ j =>
   have e:d<=(c:Int):=by omega
   have f:max d 0=d:=by omega
   have g:z<=d:=by omega
   simp[Instr.sliceAt,nO hu,Instr.slice,Instr.sliceBounds,Instr.sliceBound,asIntOf,hs,FO,b,j,e,f,g]
theorem A6J (hu:P.underlying id=some .string) (w:World) {s:ByteArray} {l h:Nat} {lo hi:Option Value} (f:mS lo 0 l) (hh:mS hi s.size h) (h1:l<=h) (i:h<=s.size) :
  (Instr.sliceAt id (.string s) lo hi none).run P w=.ok (.string (s.extract l h)) w:=by
 cases f with
 | none =>
  cases hh with
  | none=>simp[Instr.sliceAt,nO hu,Instr.slice,Instr.sliceBounds]
  | some k z _ a =>
   have e:z<=(s.size:Int):=by omega
   simp[Instr.sliceAt,nO hu,Instr.slice,Instr.sliceBounds,Instr.sliceBound,asIntOf,a,e]
 | some k z _ a =>
  cases hh with
  | none =>
   have e:z<=(s.size:Int):=by omega
   simp[Instr.sliceAt,nO hu,Instr.slice,Instr.sliceBounds,Instr.sliceBound,asIntOf,a,e]
  | some j b _ g =>
   have e:b<=(s.size:Int):=by omega
   have c:max b 0=b:=by omega
   have d:z<=b:=by omega
   simp[Instr.sliceAt,nO hu,Instr.slice,Instr.sliceBounds,Instr.sliceBound,asIntOf,a,g,e,c,d]
theorem A39 {e:Ty} {xs:List e.den} {a:Option Addr} {n c l h:Nat} (p:Br V.w V.O (.slice e) [.slice a n c] xs) (h1:l<=h) (g:h<=xs.length) :
  BX V.w V.O (.slice e) (.slice (FO a c l e.size) (h-l) (c-l)) (sub xs l h)/\n=xs.length/\h<=c:=by
 obtain⟨q,r,f,s,t,b⟩:=p;injection f with f
 injection f with j k m
 subst j;subst k;subst m;have d:=N0 xs (lo:=l) g;refine⟨⟨_,⟨FO a c l e.size,c-l,by rw[d],by rw[d];omega,by rw[d];omega,?_⟩,rfl⟩,rfl,by omega⟩;by_cases v:l<h
 ·right;rcases b with b|⟨ad,rfl,o,u⟩
  ·subst b;simp at g;omega
  ·refine⟨ad.add (l*e.size),?_,by rw[CN];exact o,λi x hi=>?_⟩
   ·grind [FO]
   ·obtain⟨y,_⟩:=Yy xs l h i hi;grind [DW]
 ·simp_all
theorem zG {loc:Value} {sz b c0 l h:Nat} {a:Option Addr} {n c:Nat} (r:DF loc sz b c0 (.slice a n c)) (h1:l<=h) (w:h<=c0-b) :
  DF loc sz (b+l) (b+h) (.slice (FO a c l sz) (h-l) (c-l))/\n=c0-b/\h<=c:=by
 obtain⟨a0,m,d,p,x,z,u,v,s,y,i,j⟩:=r;injection s with e f g
 subst e;subst f;subst g;refine⟨⟨a0,m,d,p,by omega,by omega,FO a c l sz,c-l,by rw[show b+h-(b+l)=h-l by omega],by omega,λB=>?_,λA=>?_⟩,rfl,by omega⟩
 ·have k:b=0:=by omega
  have o:l=0:=by omega
  subst k;subst o;obtain⟨t,C⟩:=i rfl;refine⟨?_,by omega⟩;rw[<-t];unfold FO;split
  ·rfl
  ·simp only[ACX];cases a<;>rfl
 ·have:=j (by omega);subst this;have q:¬c=l:=by omega
  simp only[FO,At q,Option.map_map]
  congr 1
  grind [DW]
theorem S0 (s:ByteArray) (l h:Nat):(s.extract l h).size<=s.size:=by
 simp only[ByteArray.size_extract];omega
theorem UC (hT:EI P tb id ti) (j:DG P tb) {e:Ty} (d:ti.ty=.slice e) {l:List e.den} {xv:Value} {lo hi:Option Value} {a h:Nat}
  (m:BX V.w V.O (.slice e) xv l) (k:mS lo 0 a) (hh:mS hi l.length h) (h1:a<=h) (f:h<=l.length) :
  ∃u,(Instr.sliceAt id xv lo hi none).run P V.w=.ok u V.w/\B2 V (.p (.slice e) (sub l a h)) u:=by
 obtain⟨ty,offs,el,bytes⟩:=ti;simp only at d;subst d;obtain⟨hu,hs,_⟩:=CK hT j;obtain⟨cs,b,rfl⟩:=m;obtain⟨a0,c,rfl,r⟩:=b;have b:Br V.w V.O (.slice e) [.slice a0 l.length c] l:=⟨a0,c,rfl,r⟩;obtain⟨g,_,i⟩:=A39 b h1 f;exact⟨_,zF hu _ (hs _) k hh h1 i,g⟩
theorem UD (hT:EI P tb id ti) (k:DG P tb) {n b c0:Nat} {e:Ty} (c:ti.ty=.slice e) {xv:Value} {lo hi:Option Value} {a h:Nat}
  (o:B2 V (.sr n e b c0) xv) (l:mS lo 0 a) (hh:mS hi (c0-b) h) (h1:a<=h) (f:h<=c0-b) :
  ∃u,(Instr.sliceAt id xv lo hi none).run P V.w=.ok u V.w/\B2 V (.sr n e (b+a) (b+h)) u:=by
 obtain⟨ty,offs,el,bytes⟩:=ti;simp only at c;subst c;obtain⟨hu,hs,_⟩:=CK hT k;obtain⟨j,d⟩:=o;have m:=d;obtain⟨_,_,_,_,_,_,p,q,rfl,_⟩:=m;obtain⟨g,r,i⟩:=zG d h1 f;exact⟨_,zF hu _ (hs _) l hh h1 i,j,g⟩
theorem UE (hT:EI P tb id ti) (c:ti.ty=.str) {s:ByteArray} {xv:Value} {lo hi:Option Value} {a h:Nat}
  (f:BX V.w V.O .str xv s) (d:mS lo 0 a) (hh:mS hi s.size h) (h1:a<=h) (b:h<=s.size) :
  ∃u,(Instr.sliceAt id xv lo hi none).run P V.w=.ok u V.w/\B2 V (.p .str (s.extract a h)) u:=by
 obtain⟨rfl,e⟩:=Gy f;have hu:=hT.2;rw[c]at hu;exact⟨_,A6J hu _ d hh h1 b,UB (Qo (S0 s a h) e)⟩
theorem Je {z:Int} {n:Nat} (_h:0<=z) (a:z<=(n:Int)):z.toNat<=n:=by omega
theorem Y4 {a b:Int} (h:a<=b):a.toNat<=b.toNat:=by omega
def aW:Option AV->Option Value->Prop
 | none,none=>True
 | some x,some v=>B2 V x v
 | _,_=>False
theorem zH (hT:EI P tb id ti) (k:DG P tb) {x ha g:AV} {xv d f:Value} (h:Dz (some ti) (some x) (some ha) (some g)=some (vc,v,obs)) (A:vc) (B:B2 V x xv) (hh:B2 V ha d) (t:B2 V g f) :
  obs=[]/\∃u,(Instr.sliceAt id xv none (some d) (some f)).run P V.w=.ok u V.w/\B2 V v u:=by
 unfold Dz at h;split at h
 ·rename_i e offs el bytes E l C a D b m n o p;cases m;cases n;cases o;cases p;split at h
  ·rename_i q;subst q;cases h;obtain⟨hu,hs,_⟩:=CK hT k;obtain⟨rfl,rfl⟩:=A;obtain⟨rfl,_⟩:=BR (hh:BX V.w V.O (.int C) d _);obtain⟨rfl,_⟩:=BR (t:BX V.w V.O (.int D) f _);obtain⟨cs,z,rfl⟩:=(B:BX V.w V.O (.slice e) xv l);obtain⟨a0,c,rfl,s,y,r⟩:=z;refine⟨rfl,.slice a0 (List.length l) (List.length l),?_,⟨_,⟨a0,_,rfl,NO _,y,r⟩,rfl⟩,a0,rfl⟩;have i:((List.length l:Nat):Int)<=(c:Int):=by omega
   have j:(0:Int)<=((List.length l:Nat):Int):=by omega
   simp[Ty.wrap,Instr.sliceAt,nO hu,Instr.slice,Instr.sliceBounds,Instr.sliceBound,asIntOf,hs V.w,i,j,Addr.add];intro F;exact absurd s (by omega)
  ·cases h
 ·cases h
theorem A3a (hT:EI P tb id ti) (j:DG P tb) {x:AV} {xv:Value} {lo hi:Option AV} {C B:Option Value}
  (h:K1 (some ti) (some x) (some lo) (some hi)=some (vc,v,obs)) (a:vc) (c:B2 V x xv) (g:aW (V:=V) lo C) (f:aW (V:=V) hi B) :
  obs=[]/\∃u,(Instr.sliceAt id xv C B none).run P V.w=.ok u V.w/\B2 V v u:=by
 have i:∀ {o:Option Value} (d:Nat),aW (V:=V) none o->mS o d d:=λ{o} d h=>by
  cases o with
  | none=>exact .none d
  | some v=>exact h.elim
 have b1:∀ {o:Option Value} {k:IntKind} {z:Int} (d:Nat),aW (V:=V) (some (.p (.int k) z)) o->0<=z->mS o d z.toNat:=λ{o k z} d h E=>by
  cases o with
  | none=>exact h.elim
  | some v =>
   obtain⟨rfl,_⟩:=BR (h:BX V.w V.O (.int k) v z);exact .some k z d E
 unfold K1 at h;split at h
 ·rename_i e offs el bytes D l a0 h0 q r t y;cases q;cases r;cases t;cases y;split at h
  ·rename_i A;subst A;have c:BX V.w V.O (.slice e) xv l:=c;unfold Ht at h;split at h<;>first|(cases h;done)|(rename_i m;cases m<;>cases h)
   ·exact⟨rfl,UC hT j rfl c (i 0 g) (b1 _ f a.1) (Is _) (Je a.1 a.2)⟩
   ·exact⟨rfl,UC hT j rfl c (b1 0 g a.1) (i _ f) (Je a.1 a.2) (NO _)⟩
   ·exact⟨rfl,UC hT j rfl c (b1 0 g a.1) (b1 _ f (ABJ a.1 a.2.1)) (Y4 a.2.1) (Je (ABJ a.1 a.2.1) a.2.2)⟩
  ·cases h
 ·rename_i e offs el bytes n D b c0 a0 h0 q r t y;cases q;cases r;cases t;cases y;split at h
  ·rename_i A;subst A;unfold Ht at h;split at h<;>first|(cases h;done)|(rename_i m;cases m<;>cases h)
   ·refine⟨rfl,?_⟩;have:=UD (P:=P) hT j rfl c (i 0 g) (b1 _ f a.1) (Is _) (Je a.1 a.2);simpa using this
   ·refine⟨rfl,?_⟩;have:=UD (P:=P) hT j rfl c (b1 0 g a.1) (i _ f) (Je a.1 a.2) (NO _);have G:=Je a.1 a.2;obtain⟨_,_,_,_,_,F,_⟩:=c;grind
   ·exact⟨rfl,UD hT j rfl c (b1 0 g a.1) (b1 _ f (ABJ a.1 a.2.1)) (Y4 a.2.1) (Je (ABJ a.1 a.2.1) a.2.2)⟩
  ·cases h
 ·rename_i offs el bytes s a0 h0 q r t y;cases q;cases r;cases t;cases y;have c:BX V.w V.O .str xv s:=c;unfold Ht at h;split at h<;>first|(cases h;done)|(rename_i m;cases m<;>cases h)
  ·exact⟨rfl,UE hT rfl c (i 0 g) (b1 _ f a.1) (Is _) (Je a.1 a.2)⟩
  ·exact⟨rfl,UE hT rfl c (b1 0 g a.1) (i _ f) (Je a.1 a.2) (NO _)⟩
  ·exact⟨rfl,UE hT rfl c (b1 0 g a.1) (b1 _ f (ABJ a.1 a.2.1)) (Y4 a.2.1) (Je (ABJ a.1 a.2.1) a.2.2)⟩
 ·cases h
end
end
end Go.Proofs.YtdapahgnpbehbaaGreat.Fw
