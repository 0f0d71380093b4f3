/- The executor's quiet operations are sound, first part. -/
import Derived.Test.YtdapahgnpbehbaaGreatIZA
import Derived.Laws.IdiomStrings
set_option linter.unusedVariables false
set_option linter.unusedSimpArgs false
namespace Go.Proofs.YtdapahgnpbehbaaGreat.Fw
section
open Go Go.RowKit
theorem Mt {w:World} {O:Nat→Prop}:∀ {t:Ty} {k:Nat} {d:t.den} {pv:PV} {cs:List Value},GF t k d=some pv→Be w O t cs d →
  VX t k=some pv.t∧∃o,JF t k=some o∧o+pv.t.size≤t.size∧Be w O pv.t ((cs.drop o).take pv.t.size) pv.d
 | .prod a b,0,d,pv,cs,h,c=>by
  simp only[GF]at h;cases h;obtain⟨c1,c2,rfl,h1,f⟩:=c;refine⟨rfl,0,rfl,by simp[Ty.size],?_⟩;have e:=h1.length;simp only[AAm,←e,List.take_left];exact h1
 | .prod a b,k+1,d,pv,cs,h,c=>by
  simp only[GF]at h;obtain⟨c1,c2,rfl,h1,f⟩:=c;obtain⟨g,o,i,l,j⟩:=Mt h f;refine⟨g,a.size+o,by simp[JF,i],by simp[Ty.size];omega,?_⟩;have e:=h1.length;rw[←e,←ABD,List.drop_left];exact j
 | .int _,0,d,pv,cs,h,c=>by
  simp only[GF]at h;cases h;refine⟨rfl,0,rfl,by simp,?_⟩;have e:=c.length;simp only[AAm,←e,gO];exact c
 | .bool,0,d,pv,cs,h,c=>by
  simp only[GF]at h;cases h;refine⟨rfl,0,rfl,by simp,?_⟩;have e:=c.length;simp only[AAm,←e,gO];exact c
 | .str,0,d,pv,cs,h,c=>by
  simp only[GF]at h;cases h;refine⟨rfl,0,rfl,by simp,?_⟩;have e:=c.length;simp only[AAm,←e,gO];exact c
 | .slice _,0,d,pv,cs,h,c=>by
  simp only[GF]at h;cases h;refine⟨rfl,0,rfl,by simp,?_⟩;have e:=c.length;simp only[AAm,←e,gO];exact c
 | .ref _,0,d,pv,cs,h,c=>by
  simp only[GF]at h;cases h;refine⟨rfl,0,rfl,by simp,?_⟩;have e:=c.length;simp only[AAm,←e,gO];exact c
 | .ref _,_+1,d,pv,cs,h,c=>by simp[GF]at h
 | .agg _,0,d,pv,cs,h,c=>by
  simp only[GF]at h;cases h;refine⟨rfl,0,rfl,by simp,?_⟩;have e:=c.length;simp only[AAm,←e,gO];exact c
 | .int _,_+1,d,pv,cs,h,c=>by simp[GF]at h
 | .bool,_+1,d,pv,cs,h,c=>by simp[GF]at h
 | .str,_+1,d,pv,cs,h,c=>by simp[GF]at h
 | .slice _,_+1,d,pv,cs,h,c=>by simp[GF]at h
 | .agg _,_+1,d,pv,cs,h,c=>by simp[GF]at h
theorem cB {α:Type} (cs:List α) (o m a n:Nat) (h:a+n≤m):(((cs.drop o).take m).drop a).take n=(cs.drop (o+a)).take n:=by
 rw[List.drop_take,ABv,ABD]
 congr 1
 omega
theorem RP {w:World} {O:Nat→Prop}:∀ {f:List Nat} {t:Ty} {d:t.den} {pv:PV} {cs:List Value} {off:Nat},QU f t d=some pv→KM f t=some off→Be w O t cs d →
  off+pv.t.size≤t.size∧Be w O pv.t ((cs.drop off).take pv.t.size) pv.d
 | [],t,d,pv,cs,off,h,a,b=>by
  simp only[QU]at h;simp only[KM]at a;cases h;cases a;have e:=b.length;simp only[AAm,←e,gO];exact⟨by simp[e],b⟩
 | k :: r,t,d,pv,cs,off,h,a,b=>by
  cases t<;>simp only[QU,KM]at h a<;>try(cases h;done)
  rename_i t;split at h
  ·rename_i p hp;have b:Be w O t cs d:=b;obtain⟨h1,o,g,m,i⟩:=Mt hp b;rw[h1,g]at a;simp only[IN]at a;obtain⟨n,l,rfl⟩:=a;obtain⟨j,c⟩:=RP h l i;refine⟨by simp only[Ty.size];omega,?_⟩;rw[cB _ _ _ _ _ j]at c;exact c
  ·cases h
def Au {α:Type} (cs:List α) (o:Nat) (a:List α):List α:=cs.take o++a++cs.drop (o+a.length)
theorem EY {α:Type} {cs:List α} {o:Nat} {a:List α} (h:o+a.length≤cs.length):(Au cs o a).length=cs.length:=by
 simp[Au];omega
theorem DT {α:Type} {cs a:List α} (h:a.length=cs.length):Au cs 0 a=a:=by
 simp[Au,h]
theorem Mu {α:Type} (a b:List α) (o:Nat) (c:List α):Au (a++b) (a.length+o) c=a++Au b o c:=by
 simp only[Au,List.take_append,ACv,AAy];have h1:List.take (a.length+o) a=a:=As (by omega);have d:List.drop (a.length+o+c.length) a=[]:=IF (by omega);have e:a.length+o-a.length=o:=by omega
 have f:a.length+o+c.length-a.length=o+c.length:=by omega
 rw[h1,d,e,f];simp
theorem Pj {α:Type} (a b:List α) (c:List α) (h:c.length=a.length):Au (a++b) 0 c=c++b:=by
 simp[Au,h]
theorem Wu {w:World} {O:Nat→Prop}:∀ {t:Ty} {k:Nat} {d i:t.den} {pv:PV} {cs g:List Value} {o:Nat},Ln t k d pv=some i→JF t k=some o→Be w O t cs d→Be w O pv.t g pv.d →
  Be w O t (Au cs o g) i∧VX t k=some pv.t
 | .prod a b,0,d,i,pv,cs,g,o,h,c,f,e=>by
  simp only[Ln,IN]at h;obtain⟨y,l,rfl⟩:=h;have:=A5 l;subst this;simp only[JF]at c;cases c;obtain⟨c1,c2,rfl,h1,j⟩:=f;rw[Pj _ _ _ (by rw[e.length,h1.length])];exact⟨⟨g,c2,rfl,e,j⟩,rfl⟩
 | .prod a b,k+1,d,i,pv,cs,g,o,h,c,f,e=>by
  simp only[Ln,IN]at h;obtain⟨y,l,rfl⟩:=h;simp only[JF,IN]at c;obtain⟨q,p,rfl⟩:=c;obtain⟨c1,c2,rfl,h1,j⟩:=f;obtain⟨m,n⟩:=Wu l p j e;rw[←h1.length,Mu];exact⟨⟨c1,_,rfl,h1,m⟩,n⟩
 | .int _,0,d,i,pv,cs,g,o,h,c,f,e=>by
  have:=A5 h;subst this;simp only[JF]at c;cases c;rw[DT (by rw[e.length,f.length])];exact⟨e,rfl⟩
 | .bool,0,d,i,pv,cs,g,o,h,c,f,e=>by
  have:=A5 h;subst this;simp only[JF]at c;cases c;rw[DT (by rw[e.length,f.length])];exact⟨e,rfl⟩
 | .str,0,d,i,pv,cs,g,o,h,c,f,e=>by
  have:=A5 h;subst this;simp only[JF]at c;cases c;rw[DT (by rw[e.length,f.length])];exact⟨e,rfl⟩
 | .slice _,0,d,i,pv,cs,g,o,h,c,f,e=>by
  have:=A5 h;subst this;simp only[JF]at c;cases c;rw[DT (by rw[e.length,f.length])];exact⟨e,rfl⟩
 | .ref _,0,d,i,pv,cs,g,o,h,c,f,e=>by
  have:=A5 h;subst this;simp only[JF]at c;cases c;rw[DT (by rw[e.length,f.length])];exact⟨e,rfl⟩
 | .ref _,_+1,d,i,pv,cs,g,o,h,c,f,e=>by simp[Ln]at h
 | .agg _,0,d,i,pv,cs,g,o,h,c,f,e=>by
  have:=A5 h;subst this;simp only[JF]at c;cases c;rw[DT (by rw[e.length,f.length])];exact⟨e,rfl⟩
 | .int _,_+1,d,i,pv,cs,g,o,h,c,f,e=>by simp[Ln]at h
 | .bool,_+1,d,i,pv,cs,g,o,h,c,f,e=>by simp[Ln]at h
 | .str,_+1,d,i,pv,cs,g,o,h,c,f,e=>by simp[Ln]at h
 | .slice _,_+1,d,i,pv,cs,g,o,h,c,f,e=>by simp[Ln]at h
 | .agg _,_+1,d,i,pv,cs,g,o,h,c,f,e=>by simp[Ln]at h
theorem Lx {α:Type} (cs:List α) (o m a:Nat) (b:List α) (h:a+b.length≤m) (l:o+m≤cs.length) :
  Au cs o (Au ((cs.drop o).take m) a b)=Au cs (o+a) b:=by
 apply ABS;intro j;have d:(Au ((cs.drop o).take m) a b).length=m:=by rw[EY]<;>simp<;>omega
 simp only[Au]at d ⊢;rw[d];simp only[AAh,On,OR,AAP,iN,AAe];have e:min o cs.length=o:=by omega
 have f:min m (cs.length-o)=m:=by omega
 have g:min a m=a:=by omega
 have i:min (o+a) cs.length=o+a:=by omega
 rw[e,f,g,i];by_cases c1:j<o
 ·have:j<o+(a+b.length+(m-(a+b.length))):=by omega
  simp[c1,this,show j<o+a by omega,show j<o+a+b.length by omega]
 ·by_cases c2:j<o+a
  ·simp[c1,c2,show j-o<a by omega,show j-o<m by omega,show j<o+(a+b.length+(m-(a+b.length))) by omega,show j<o+a+b.length by omega,show j-o<a+b.length by omega,show o+(j-o)=j by omega]
  ·by_cases c:j<o+a+b.length
   ·simp[c1,c2,c,show ¬j-o<a by omega,show j<o+(a+b.length+(m-(a+b.length))) by omega,show j-o<a+b.length by omega,show j-o-a=j-(o+a) by omega]
   ·by_cases k:j<o+m
    ·simp[c1,c2,c,show ¬j-o<a by omega,show ¬j-o<a+b.length by omega,show j<o+(a+b.length+(m-(a+b.length))) by omega,show a+b.length+(j-o-(a+b.length))<m by omega]
     congr 1
     omega
    ·simp[c1,c2,c,show ¬j<o+(a+b.length+(m-(a+b.length))) by omega]
     congr 1
     omega
theorem RQ {w:World} {O:Nat→Prop}:∀ {l:List Nat} {t:Ty} {d f:t.den} {pv:PV} {cs c:List Value} {off:Nat},RJ l t d pv=some f→KM l t=some off→Be w O t cs d→Be w O pv.t c pv.d →
  Be w O t (Au cs off c) f∧off+c.length≤cs.length
 | [],t,d,f,pv,cs,c,off,h,b,a,e=>by
  have:=A5 h;subst this;simp only[KM]at b;cases b;rw[DT (by rw[e.length,a.length])];exact⟨e,by simp[e.length,a.length]⟩
 | k :: r,t,d,f,pv,cs,c,off,h,b,a,e=>by
  cases t<;>simp only[RJ,KM]at h b<;>try(cases h;done)
  rename_i t;have a:Be w O t cs d:=a;split at h
  ·rename_i p hp;obtain⟨h1,o,g,v,m⟩:=Mt hp a;rw[h1,g]at b;simp only[IN]at b;obtain⟨z,s,rfl⟩:=b;split at h
   ·rename_i y u;obtain⟨n,i⟩:=RQ u s m e;have x:=a.length;have q:((cs.drop o).take p.t.size).length=p.t.size:=by simp;omega
    rw[q]at i;obtain⟨j,_⟩:=Wu (pv:=⟨p.t,y⟩) h g a n;rw[Lx _ _ _ _ _ i (by omega)]at j;exact⟨j,by omega⟩
   ·cases h
  ·cases h
end
section
open Go Go.RowKit
section
variable {V:Vw}
theorem Lo.length {x:AV} {cs:List Value} (h:Lo V x cs):cs.length=x.cells:=by
 cases x;case p t d=>exact Be.length (show Be V.w V.O t cs d from h)
 case ag l=>obtain⟨v,_,_,hf⟩:=h;exact hf.elim
 case tup l=>obtain⟨v,_,_,hf⟩:=h;exact hf.elim
 all_goals(obtain⟨v,rfl,_⟩:=h;rfl)
theorem Lo.one {x:AV} {cs:List Value} (h:Lo V x cs):∀u∈cs,u.oneCell'=true:=by
 cases x;case p t d=>exact Be.one (show Be V.w V.O t cs d from h)
 all_goals(obtain⟨v,rfl,h1,_⟩:=h;intro u a;simp at a;subst a;exact h1)
theorem Cw.one:∀ {l:List AV} {cs:List Value},Cw V l cs→∀u∈cs,u.oneCell'=true
 | [],cs,h=>by have h:cs=[]:=h;subst h;simp
 | x :: r,cs,h=>by
  obtain⟨c1,c2,rfl,h1,b⟩:=h;intro u a;rcases ON.1 a with a|a
  ·exact h1.one u a
  ·exact b.one u a
theorem Cw.length:∀ {l:List AV} {cs:List Value},Cw V l cs→cs.length=B0 l l.length
 | [],cs,h=>by have h:cs=[]:=h;subst h;rfl
 | x :: r,cs,h=>by
  obtain⟨c1,c2,rfl,h1,a⟩:=h;simp only[On,Is,B0];rw[h1.length,a.length]
theorem Cw.get:∀ {l:List AV} {cs:List Value} {k:Nat} {x:AV},Cw V l cs→l[k]?=some x →
  B0 l k+x.cells≤cs.length∧Lo V x ((cs.drop (B0 l k)).take x.cells)
 | [],cs,k,x,h,hk=>by simp at hk
 | y :: r,cs,0,x,h,hk=>by
  obtain⟨c1,c2,rfl,h1,a⟩:=h;simp at hk;subst hk;have:=h1.length;simp only[B0,AAm,←this,List.take_left];exact⟨by simp,h1⟩
 | y :: r,cs,k+1,x,h,hk=>by
  obtain⟨c1,c2,rfl,h1,a⟩:=h;have hk:r[k]?=some x:=by simpa using hk
  obtain⟨c,b⟩:=Cw.get a hk;have:=h1.length;refine⟨by simp only[B0,On];omega,?_⟩;simp only[B0,←this];rw[←ABD,List.drop_left];exact b
theorem Cw.set:∀ {l:List AV} {cs:List Value} {k:Nat} {x y:AV} {a:List Value},Cw V l cs→l[k]?=some x→Lo V y a→y.cells=x.cells →
  Cw V (l.set k y) (Au cs (B0 l k) a)
 | [],cs,k,x,y,a,h,hk,b,c=>by simp at hk
 | z :: r,cs,0,x,y,a,h,hk,b,c=>by
  obtain⟨c1,c2,rfl,h1,d⟩:=h;simp at hk;subst hk;simp only[B0,ACb];rw[Pj _ _ _ (by rw[b.length,h1.length,c])];exact⟨a,c2,rfl,b,d⟩
 | z :: r,cs,k+1,x,y,a,h,hk,b,c=>by
  obtain⟨c1,c2,rfl,h1,d⟩:=h;have hk:r[k]?=some x:=by simpa using hk
  have:=h1.length;simp only[B0,ABL,←this];rw[Mu];exact⟨c1,_,rfl,h1,Cw.set d hk b c⟩
theorem ZK {ty:Ty} {x:AV} {b:List Value} (a:Lo V x b) (hf:CB ty x=true):b.length=ty.size∧Bm V x (ty.wrap b):=by
 cases x;case p t d =>
  simp only[CB,GO]at hf;subst hf;have a:Be V.w V.O ty b d:=a;exact⟨Be.length a,b,a,rfl⟩
 case ag l=>obtain⟨v,_,_,hf⟩:=a;exact hf.elim
 case tup l=>obtain⟨v,_,_,hf⟩:=a;exact hf.elim
 all_goals
  obtain⟨v,rfl,_,h1⟩:=a;have c:ty.cell1=true:=by simp only[CB]at hf;first|exact hf|(simp only[An]at hf;exact hf.2)|exact absurd hf (by decide)
  cases ty<;>first|(cases c;done)|exact⟨rfl,h1⟩
theorem oA {ty:Ty} {x:AV} {v:Value} (i:Bm V x v) (hf:CB ty x=true) (o:ty.cell1=true→v.oneCell'=true):v.cells.size=ty.size∧((∀l,x≠.ag l)→Lo V x v.cells.toList):=by
 cases x;case p t d =>
  simp only[CB,GO]at hf;subst hf;obtain⟨cs,f,rfl⟩:=i;have g:=f.length;cases ty;case agg t=>exact⟨by simpa[Ty.wrap,Value.cells] using g,fun _=>by simpa[Ty.wrap,Value.cells,Lo] using f⟩
  case prod a b=>exact⟨by simpa[Ty.wrap,Value.cells] using g,fun _=>by simpa[Ty.wrap,Value.cells,Lo] using f⟩
  case slice e =>
   obtain⟨a,c,rfl,h⟩:=f;exact⟨rfl,fun _=>⟨a,c,rfl,h⟩⟩
  case int k =>
   obtain⟨rfl,h⟩:=f;exact⟨rfl,fun _=>⟨rfl,h⟩⟩
  case bool =>
   have f:cs=_:=f;subst f;exact⟨rfl,fun _=>rfl⟩
  case str =>
   obtain⟨rfl,h⟩:=f;exact⟨rfl,fun _=>⟨rfl,h⟩⟩
  case ref k =>
   have f:cs=[KJ k]:=f;subst f;have q:(Ty.ref k).wrap [KJ k]=KJ k:=rfl;rw[q];match k with
   | 0=>exact⟨rfl,fun _=>rfl⟩
   | 1=>exact⟨rfl,fun _=>rfl⟩
   | _+2=>exact⟨rfl,fun _=>rfl⟩
 case ag l =>
  obtain⟨cs,rfl,n⟩:=i;have g:=n.length;cases ty<;>simp only[CB]at hf<;>try(cases hf;done)
  rename_i t;simp only[AA0]at hf;exact⟨by simp[Value.cells,Ty.size,g,hf],fun h=>absurd rfl (h l)⟩
 case tup l=>simp[CB]at hf
 all_goals
  have h1:ty.cell1=true:=by simp only[CB]at hf;first|exact hf|(simp only[An]at hf;exact hf.2)|exact absurd hf (by decide)
  have j:v.oneCell'=true:=o h1;have m:v.cells=#[v]:=by cases v<;>first|rfl|simp[Value.oneCell']at j
  have hs:ty.size=1:=by cases ty<;>simp[Ty.cell1]at h1<;>rfl
  rw[m];exact⟨by simp[hs],fun _=>⟨v,rfl,j,i⟩⟩
end
end
section
open Go Go.RowKit
section
variable {P:Program} {tb:Tb} {id:TypeId} {ti:TI} {w:World} {O0:Nat→Prop} {σ:St} {ρ:Nat→Value} {vc:Prop} {v:AV} {obs:List (Nat×Obj)}
theorem Tq {w:World} {base:Nat} {et:TypeId} {size:Nat} {g m c n:Nat} {cells:List Value} (h:w.ownsRow base et size (.slice (some ⟨g,0,none⟩) m c) n cells) :
  m=n∧∀(j:Nat) (u:Value),cells[j]?=some u→w.cell? ⟨g,j,none⟩=some u:=by
 constructor
 ·rcases h.2 with ⟨a,_⟩|⟨e,cap,d,a,_⟩
  ·injection a with h1;cases h1
  ·injection a
 ·intro j u b;have:=h.cells (g:=g) rfl j u b
  rwa [Wp]at this
theorem oB (hT:Dd P tb id ti) (V:∀n o,lk n σ.objs=some o→Aw (vw w O0 σ ρ) o (ρ n)) {x:AV} {xv:Value}
  (h:IY σ (some ti) (some x)=some (vc,v,obs)) (X:Bm (vw w O0 σ ρ) x xv):obs=[]∧∃u,(Instr.loadAt id xv).run P w=.ok u w∧Bm (vw w O0 σ ρ) v u:=by
 unfold IY at h;split at h
 ·rename_i n Z off N O;cases N;cases O;obtain⟨ab,b,z,rfl⟩:=X;cases hn:lk n σ.objs with
  | none=>rw[hn]at h;simp[Dz]at h
  | some o =>
   rw[hn]at h;cases o with
   | arr et e xs=>simp[Dz]at h
   | mapo k v l=>simp[Dz]at h
   | frame bh fs=>simp[Dz]at h
   | loop L=>simp[Dz]at h
   | itr bc bf bd be ba=>simp[Dz]at h
   | dfr=>simp[Dz]at h
   | nest et bb k e xs a=>simp[Dz]at h
   | box et R fs =>
    simp only[Dz]at h;cases a:IW R fs Z with
    | none=>rw[a]at h;simp[He]at h
    | some y =>
     rw[a]at h;simp only[He]at h;split at h
     ·rename_i H;obtain⟨C,D⟩:=H;cases h;obtain⟨bl,b',cs,s,ap,M⟩:=V n _ hn;have z:ρ n=_:=z;rw[z]at s;injection s with s
      injection s with s
      injection s with s
      subst s;have B:∀(I:List Value) (o:Nat),I=(cs.drop o).take I.length→∀(j:Nat) (u:Value),I[j]?=some u→w.cell? ((⟨b,o,none⟩:Addr).add j)=some u:=by
       intro I o af j u f;rw[IV,cell_of_row w b (o+j) cs.toArray et (0,0) ap];rw[af,iN,AAe]at f;split at f
       ·simpa using f
       ·cases f
      refine⟨rfl,?_⟩;unfold IW at a;split at a
      · -- the whole
       simp only[Mk]at D;cases D;cases R with
       | true =>
        simp only[AAv]at a;cases a;have bj:=M.length;cases p:ti.ty<;>rw[p]at C<;>simp only[CB]at C<;>try(cases C;done)
        rename_i t;simp only[AA0]at C;have ax:cs.length=ti.ty.size:=by rw[p];simp only[Ty.size];omega
        have:=D9 w hT ax (B cs 0 (by simp));refine⟨_,this,cs,?_,M⟩;rw[p];rfl
       | false =>
        simp only[AAB,AAN]at a;have az:B0 fs 0=0:=by cases fs<;>rfl
        obtain⟨h1,q⟩:=M.get a;rw[az]at q;obtain⟨F,J⟩:=ZK q C;have:=D9 w hT F (B _ 0 (by rw[q.length]));exact⟨_,this,J⟩
      · -- a field
       rename_i k;cases R with
       | false=>simp at a
       | true =>
        simp only[AAv]at a;obtain⟨h1,q⟩:=M.get a;obtain⟨F,J⟩:=ZK q C;have av:off=B0 fs k:=by
         simp only[Mk,a]at D;cases v<;>simp only[KM,AAY,List.isEmpty_nil,AAv]at D<;>cases D<;>rfl
        subst av;have:=D9 w hT F (B _ (B0 fs k) (by rw[q.length]));exact⟨_,this,J⟩
      ·rename_i k r W;cases R with
       | false=>simp at a
       | true =>
        simp only[AAv]at a;split at a
        ·rename_i t d hk;simp only[IN]at a;obtain⟨pv,aw,rfl⟩:=a;simp only[Mk,hk,IN]at D;obtain⟨bg,au,rfl⟩:=D;obtain⟨h1,q⟩:=M.get hk;have q:Be w (own O0 σ ρ) t _ d:=q;obtain⟨aa,G⟩:=RP aw au q;simp only[AV.cells]at h1 G;rw[cB _ _ _ _ _ aa]at G;simp only[CB,GO]at C;have S:=G.length;have:=D9 w hT (by rw[C];exact S) (B _ (B0 fs k+bg) (by rw[S]));rw[C]at this;exact⟨_,this,_,G,rfl⟩
        ·cases a
     ·cases h
 ·rename_i n e i Z off N O;cases N;cases O;obtain⟨ab,g,m,c,z,Q,rfl⟩:=X;cases hn:lk n σ.objs with
  | none=>rw[hn]at h;simp[D0]at h
  | some o =>
   rw[hn]at h;cases o with
   | box et R fs=>simp[D0]at h
   | mapo k v l=>simp[D0]at h
   | frame bh fs=>simp[D0]at h
   | loop L=>simp[D0]at h
   | itr bc bf bd be ba=>simp[D0]at h
   | dfr=>simp[D0]at h
   | nest et bb k A xs a =>
    cases a with
    | some j=>simp[D0]at h
    | none =>
     simp only[D0]at h;split at h
     ·rename_i am;subst am;obtain⟨o,ins,cells,s,U⟩:=V n _ hn;have z:plc (ρ n)=_:=z;have ar:plc (ρ n)=o:=s.plc;have E:=U.own;rw[←ar,z]at E;obtain⟨rfl,B⟩:=Tq E;have Y:xs[i]?=some (xs.getD i (k.dflt,[])):=by
       rw[AT Q,AS,AT Q];rfl
      have T:i<ins.length:=by rw[U.len];exact Q
      obtain⟨c1,v1,ae,ah,F⟩:=U.row i _ ins[i] Y (AT T);rcases F with ⟨F,_⟩|⟨_,ai,J⟩
      ·cases F
      ·have ag:c1.length=k.size:=ah.length;unfold L9 at h;split at h
       ·split at h
        ·rename_i K;obtain⟨p,rfl⟩:=K;cases h;have:=D9 (ad:=⟨g,i*(Ty.agg (.prod k (.slice A))).size+0,none⟩) w hT (by rw[p];exact ag) (fun j u f=>by
          rw[IV];refine B _ _ (ae j u ?_);rw[AA2 (No.1 f).1];exact f)
         rw[p]at this;exact⟨rfl,_,this,c1,ah,rfl⟩
        ·cases h
       ·split at h
        ·rename_i K;obtain⟨p,rfl⟩:=K;cases h;have:=D9 (ad:=⟨g,i*(Ty.agg (.prod k (.slice A))).size+k.size,none⟩) (cs:=[v1]) w hT (by rw[p];rfl) (fun j u f=>by
          have aq:j=0:=by have:=(No.1 f).1;simpa using this
          subst aq;rw[IV];refine B _ _ (ae k.size u ?_);rw[AA5 (by omega),ag,AB6];exact f)
         rw[p]at this;obtain⟨aj,ak,ay⟩:=n4 ai J;exact⟨rfl,_,this,ab,_,aj,ak,ins[i],s.resolve_right (fun h=>by rw[h.2.2]at T;simp at T),by simp[T],ai,ay⟩
        ·cases h
       ·cases h
     ·cases h
   | arr et A xs =>
    simp only[D0]at h;cases H:BG (.slice e) ⟨.slice A,xs⟩ with
    | none=>rw[H]at h;simp[Hg]at h
    | some ys =>
     obtain⟨rfl,q⟩:=BX H;cases q;rw[H]at h;simp only[Hg]at h;cases hp:QU Z A (xs.getD i A.dflt) with
     | none=>rw[hp]at h;simp[Hf]at h
     | some pv =>
      rw[hp]at h;simp only[Hf]at h;split at h
      ·rename_i K;obtain⟨p,D⟩:=K;cases h;obtain⟨bk,cells,E,an⟩:=V n _ hn;have z:plc (ρ n)=_:=z;have E:w.ownsRow 0 et A.size (ρ n) xs.length cells:=E;rw[GT E]at z;rw[z]at E;obtain⟨rfl,B⟩:=Tq E;have Y:xs[i]?=some (xs.getD i A.dflt):=by
        rw[AT Q,AS,AT Q];rfl
       obtain⟨I,af,al,ao⟩:=an i _ Y;obtain⟨aa,G⟩:=RP hp D ao;have S:=G.length;have:=D9 (ad:=⟨g,i*A.size+off,none⟩) w hT (by rw[p];exact S) (fun j u f=>by
        rw[IV,ABK];rw[iN,AAe]at f;split at f
        ·exact B _ _ (al _ _ f)
        ·cases f)
       rw[p]at this;exact⟨rfl,_,this,_,G,rfl⟩
      ·cases h
 ·rename_i u d N O;cases N;cases O;obtain⟨ad,cs,rfl,bi,H,W⟩:=X;split at h
  ·rename_i p;cases h;have:=D9 w hT (by rw[p];exact W.length) H;rw[p]at this;exact⟨rfl,_,this,cs,W,rfl⟩
  ·cases h
 ·cases h
end
end
section
open Go Go.RowKit
section
variable {P:Program} {tb:Tb} {id:TypeId} {ti:TI} {w:World} {V:Vw} {vc:Prop} {v:AV} {obs:List (Nat×Obj)}
theorem ZL {α:Type} {l:List α} {k:Nat} {x:α} (h:l[k]?=some x):x∈l:=AA9 h
theorem Wv (hT:Dd P tb id ti) {u:Ty} (p:ti.ty=.agg u) (d:ti.el=0) {f k s:Nat} (hf:ti.offs[f]?=some (k,s)) (ad:Addr) (w:World) :
  (Instr.fieldAt id (.pointer (some ad)) f).run P w=.ok (.pointer (some (ad.add k))) w:=by
 obtain⟨⟨⟨m,_⟩,_⟩,a⟩:=hT;rw[p]at a;simp only at a;rcases a with ⟨fs,_,q,o⟩|⟨n,e,i,l,_⟩
 ·have b:(ti.offs.map some)[f]?=some (some (k,s)):=by simp[hf]
  rw[o]at b;simp only[AAW,IN]at b;obtain⟨fl,h,g⟩:=b;obtain⟨i,hi,c⟩:=g;cases c;have j:fs[f]?=some fl:=by simpa using h
  have hs:i.size≠0:=m _ (ZL hf);simp[Instr.fieldAt,aS q,j,Instr.sureAddr,fieldPlace,sizeOf,KX w hi,hs]
 ·exact absurd d l
theorem Ww (hT:Dd P tb id ti) {u:Ty} (h:ti.ty=.agg u) (c:ti.el≠0) {k s:Nat} {z:Int} {kd:IntKind} (l:0≤z) (hf:ti.offs[z.toNat]?=some (k,s)) (ad:Addr) (w:World) :
  (Instr.indexAt id (.pointer (some ad)) (.int kd z)).run P w=.ok (.pointer (some (ad.add k))) w:=by
 obtain⟨_,a⟩:=hT;rw[h]at a;simp only at a;rcases a with ⟨fs,h0,_⟩|⟨n,e,i,_,j,hi,g⟩
 ·exact absurd h0 c
 ·rw[g]at hf;simp only[AAW,IN]at hf;obtain⟨m,d,b⟩:=hf;cases b;obtain⟨h1,a⟩:=No.1 d;simp only[List.length_range]at h1;simp only[ACe]at a;subst a;have f:z<(n:Int):=by omega
  simp[Instr.indexAt,asIntOf,aS j,Instr.sureAddr,sizeOf,KX w hi,l,f]
theorem oC {f:Nat} {o:Option (Nat×Nat)} {x:AV} {xv:Value} {run:Value→Result Value} (y:∀k s ad,o=some (k,s)→run (.pointer (some ad))=.ok (.pointer (some (ad.add k))) w)
  (h:Ml f o x=some (vc,v,obs)) (z:Bm V x xv):obs=[]∧∃u,run xv=.ok u w∧Bm V v u:=by
 unfold Ml at h;split at h
 ·rename_i n G off;obtain⟨q,b,A,rfl⟩:=z;cases o with
  | none=>simp[RK]at h
  | some p =>
   obtain⟨k,s⟩:=p;simp only[RK]at h;cases h;exact⟨rfl,_,y k s _ rfl,q,b,A,by rw[IV]⟩
 ·rename_i n e i G off;obtain⟨q,g,m,c,A,F,rfl⟩:=z;cases o with
  | none=>simp[RK]at h
  | some p =>
   obtain⟨k,s⟩:=p;simp only[RK]at h;cases h;exact⟨rfl,_,y k s _ rfl,q,g,m,c,A,F,by rw[IV,ABK]⟩
 ·rename_i u d;obtain⟨ad,cs,rfl,D,E,t⟩:=z;cases r:GF u f d with
  | none=>rw[r]at h;simp[Hh]at h
  | some pv =>
   rw[r]at h;simp only[Hh]at h;split at h
   ·rename_i l;cases h;have t:Be V.w V.O u cs d:=t;obtain⟨h1,I,B,H,C⟩:=Mt r t;rw[B]at l;cases o with
    | none=>simp at l
    | some p =>
     obtain⟨k,s⟩:=p;simp only[AAY,AAo]at l;subst l;refine⟨rfl,_,y k s _ rfl,ad.add k,_,rfl,by rw[B3];exact D,fun j u a=>?_,C⟩;rw[Ct];rw[iN,AAe]at a;split at a
     ·exact E _ _ a
     ·cases a
   ·cases h
 ·cases h
theorem uJ (hT:Dd P tb id ti) {f:Nat} {x:AV} {xv:Value} (w:World)
  (h:GG f (some ti) (some x)=some (vc,v,obs)) (e:Bm V x xv):obs=[]∧∃u,(Instr.fieldAt id xv f).run P w=.ok u w∧Bm V v u:=by
 unfold GG at h;split at h
 ·rename_i u offs b g a c;cases a;cases c;exact oC (run:=fun xv=>(Instr.fieldAt id xv f).run P w) (fun k s ad d=>Wv hT rfl rfl d ad w) h e
 ·cases h
theorem Pk {e:TypeId} (b:P.underlying id=some (.slice e)) {size:Nat} (hs:(sizeOf e).run P w=.ok size w) (a:Addr) (n c:Nat) (k:IntKind) (i:Int) (h0:0≤i) (h1:i<n) :
  (Instr.indexAt id (.slice (some a) n c) (.int k i)).run P w=.ok (.pointer (some (a.add (i.toNat*size)))) w:=by
 simp[Instr.indexAt,asIntOf,aS b,h0,h1,hs]
theorem A3E {e:Ty} {el:TypeId} (r:P.underlying id=some (.slice el)) (hs:(sizeOf el).run P V.w=.ok e.size V.w) {l:List e.den} {kd:IntKind} {k:Int} {xv:Value}
  (s:BM V.w V.O (.slice e) xv l) (o:0≤k) (p:k<(l.length:Int)) :
  ∃u,(Instr.indexAt id xv (.int kd k)).run P V.w=.ok u V.w∧Bm V (.ip e (l.getD k.toNat e.dflt)) u:=by
 obtain⟨cs,i,rfl⟩:=s;obtain⟨a,c,rfl,h1,v,b⟩:=i;have d:k.toNat<l.length:=by omega
 rcases b with b|⟨ad,rfl,g,m⟩
 ·subst b;simp at d
 ·refine⟨_,Pk r hs _ _ _ _ _ o p,?_⟩;have t:l[k.toNat]?=some (l.getD k.toNat e.dflt):=by
   rw[AT d,AS,AT d];rfl
  obtain⟨f,x,h,q⟩:=m _ _ t;exact⟨_,f,rfl,by rw[B3];exact g,fun j u n=>by rw[Ct];exact h j u n,q⟩
theorem A3F {e:Ty} {el:TypeId} (s:P.underlying id=some (.slice el)) (hs:(sizeOf el).run P V.w=.ok e.size V.w) {n lo hi:Nat} {kd:IntKind} {k:Int} {xv:Value}
  (t:Bm V (.sr n e lo hi) xv) (h:∀n,V.L n→∃o,Aw V o (V.ρ n)) (j:0≤k) (l:k<((hi-lo:Nat):Int)) :
  ∃u,(Instr.indexAt id xv (.int kd k)).run P V.w=.ok u V.w∧Bm V (.ep n e (lo+k.toNat) [] 0) u:=by
 obtain⟨d,a,m,c,f,B,A,v,x,rfl,z,h0,h1⟩:=t;have p:lo<hi:=by omega
 have i:=h1 p;obtain⟨o,q⟩:=h n d;obtain⟨g,rfl⟩:∃g,a=some ⟨g,0,none⟩:=by
  obtain⟨_,_,cells,r,_⟩:=Tp q f;rcases r.2 with ⟨b,hn⟩|⟨g,cap,y,b,_⟩
  ·injection b;omega
  ·injection b with b;exact⟨g,b⟩
 subst i;refine⟨_,Pk s hs _ _ _ _ _ j l,d,g,m,c,f,by omega,?_⟩;rw[Ct,Wp,ABF];rfl
theorem BI {O:Nat→Prop} {w:World} {kd:IntKind} {k:Int} {v:Value} (h:BM w O (.int kd) v k):v=.int kd k∧Jz kd k:=by
 obtain⟨cs,⟨rfl,h1⟩,rfl⟩:=h;exact⟨rfl,h1⟩
theorem BF {O:Nat→Prop} {w:World} {kd:IntKind} {k:Int} (h:Jz kd k):BM w O (.int kd) (.int kd k) k:=⟨_,⟨rfl,h⟩,rfl⟩
theorem Dk {O:Nat→Prop} {w:World} {b:Bool} {v:Value} (h:BM w O .bool v b):v=.bool b:=by
 obtain⟨cs,h1,rfl⟩:=h;have h1:cs=_:=h1;subst h1;rfl
theorem BT {O:Nat→Prop} {w:World} (b:Bool):BM w O .bool (.bool b) b:=⟨[.bool b],rfl,rfl⟩
theorem Fz {O:Nat→Prop} {w:World} {s:ByteArray} {v:Value} (h:BM w O .str v s):v=.string s∧s.size≤AO:=by
 obtain⟨cs,⟨rfl,h1⟩,rfl⟩:=h;exact⟨rfl,h1⟩
theorem RR {O:Nat→Prop} {w:World} {s:ByteArray} (h:s.size≤AO):BM w O .str (.string s) s:=⟨_,⟨rfl,h⟩,rfl⟩
theorem B1 {e:Ty} {offs:List (Nat×Nat)} {el:TypeId} {bytes:Nat} (hT:Dd P tb id ⟨.slice e,offs,el,bytes⟩) (b:Cg P tb) :
  P.underlying id=some (.slice el)∧(∀w,(sizeOf el).run P w=.ok e.size w)∧∃te,lk el tb.ty=some te∧te.ty=e:=by
 obtain⟨_,c,te,a,rfl⟩:=hT;exact⟨c,fun w=>Gp w (b _ _ a),te,a,rfl⟩
theorem uK (hT:Dd P tb id ti) (p:Cg P tb) {x y:AV} {xv q:Value}
  (h:E5 (some ti) (some x) (some y)=some (vc,v,obs)) (f:vc) (j:Bm V x xv) (m:Bm V y q) (t:∀n,V.L n→∃o,Aw V o (V.ρ n)) :
  obs=[]∧∃u,(Instr.indexAt id xv q).run P V.w=.ok u V.w∧Bm V v u:=by
 unfold E5 at h;split at h
 ·rename_i e offs el bytes r l kd k a c d;cases a;cases c;cases d;split at h
  ·rename_i g;subst g;cases h;obtain⟨i,hs,_⟩:=B1 hT p;obtain⟨rfl,_⟩:=BI m;exact⟨rfl,A3E i (hs _) j f.1 f.2⟩
  ·cases h
 ·rename_i e offs el bytes n r lo hi kd k a c d;cases a;cases c;cases d;split at h
  ·rename_i g;subst g;cases h;obtain⟨i,hs,_⟩:=B1 hT p;obtain⟨rfl,_⟩:=BI m;exact⟨rfl,A3F i (hs _) j t f.1 f.2⟩
  ·cases h
 ·rename_i u offs el b B C a c d;cases a;cases c;cases d;unfold JK at h;split at h
  ·rename_i kd k;split at h
   ·rename_i hk;obtain⟨rfl,_⟩:=BI m;exact oC (run:=fun xv=>(Instr.indexAt id xv (.int kd k)).run P V.w) (fun A s ad z=>Ww hT rfl (by simp) hk z ad V.w) h j
   ·cases h
  ·cases h
 ·cases h
theorem JV {k:IntKind} {n:Int} (h:Jz k n):k.wrap n=n:=by
 obtain⟨h1,a⟩:=h;cases k<;>simp[IntKind.min,IntKind.max,IntKind.signed,IntKind.bits]at h1 a<;>simp[IntKind.wrap,IntKind.signed,IntKind.bits]<;>omega
theorem LN (k:IntKind) (n:Int):Jz k (k.wrap n):=by
 cases k<;>simp only[Jz,IntKind.min,IntKind.max,IntKind.wrap,IntKind.signed,IntKind.bits]<;>simp<;>omega
theorem A0a {op:BinOp} {t:TypeId} {k e:IntKind} {a b:Int} (w:World) (c:(t7 op k a e b).1) (ha:Jz k a) :
  ∃u,(binOp op t (.int k a) (.int e b)).run P w=.ok u w∧Bm V (t7 op k a e b).2 u:=by
 unfold t7 at c ⊢;split at c
 ·have d:¬b<0:=by have h:0≤b:=c;omega
  exact⟨_,by simp[binOp,Op.shift,d];rfl,BF (LN _ _)⟩
 ·have d:¬b<0:=by have h:0≤b:=c.1;omega
  exact⟨_,by simp[binOp,Op.shift,d];rfl,BF c.2⟩
 ·split at c
  ·rename_i f g hk;subst hk;cases op<;>simp only[ZG]at c ⊢;case add=>exact⟨.int k (a+b),by simp[binOp,Op.intArith,JV c],BF c⟩
   case sub=>exact⟨.int k (a-b),by simp[binOp,Op.intArith,JV c],BF c⟩
   case mul=>exact⟨.int k (a*b),by simp[binOp,Op.intArith,JV c],BF c⟩
   case quo=>exact⟨.int k (a.tdiv b),by simp[binOp,Op.intDiv,c.1,JV c.2],BF c.2⟩
   case rem=>exact⟨.int k (a.tmod b),by simp[binOp,Op.intDiv,c.1],BF c.2⟩
   case and=>exact⟨.int k (Bu .and k a b),by simp only[binOp,ne_eq,ABQ,AAN,Op.intBits];rfl,BF (LN _ _)⟩
   case or=>exact⟨.int k (Bu .or k a b),by simp only[binOp,ne_eq,ABQ,AAN,Op.intBits];rfl,BF (LN _ _)⟩
   case xor=>exact⟨.int k (Bu .xor k a b),by simp only[binOp,ne_eq,ABQ,AAN,Op.intBits];rfl,BF (LN _ _)⟩
   case andNot=>exact⟨.int k (Bu .andNot k a b),by simp only[binOp,ne_eq,ABQ,AAN,Op.intBits];rfl,BF (LN _ _)⟩
   case eql=>exact⟨.bool (a==b),by simp[binOp,Op.intCmp],BT _⟩
   case neq=>exact⟨.bool (a != b),by simp[binOp,Op.intCmp],BT _⟩
   case lss=>exact⟨.bool (decide (a<b)),by simp[binOp,Op.intCmp],BT _⟩
   case leq=>exact⟨.bool (decide (a≤b)),by simp[binOp,Op.intCmp],BT _⟩
   case gtr=>exact⟨.bool (decide (b<a)),by simp[binOp,Op.intCmp],BT _⟩
   case geq=>exact⟨.bool (decide (b≤a)),by simp[binOp,Op.intCmp],BT _⟩
  ·exact c.elim
theorem uL {op:BinOp} {t:TypeId} {a b:ByteArray} (w:World) (c:(TX a b op).1) :
  ∃u,(binOp op t (.string a) (.string b)).run P w=.ok u w∧Bm V (TX a b op).2 u:=by
 cases op<;>simp only[TX]at c ⊢;case add =>
  have e:AO=140737488355328:=rfl;have d:¬(((a.size+b.size:Nat):Int) > IntKind.i64.max):=by
   have:IntKind.i64.max=9223372036854775807:=by decide
   omega
  exact⟨.string (a++b),by simp only[binOp,Op.stringOp,At d];rfl,RR (by simpa[ABi] using c)⟩
 case eql=>exact⟨.bool (AY a b),by simp only[binOp,Op.stringOp];rfl,BT _⟩
 case neq=>exact⟨.bool (!AY a b),by simp only[binOp,Op.stringOp];rfl,BT _⟩
 case lss=>exact⟨.bool (GN a b),by simp only[binOp,Op.stringOp];rfl,BT _⟩
 case leq=>exact⟨.bool (GN a b||AY a b),by simp only[binOp,Op.stringOp];rfl,BT _⟩
 case gtr=>exact⟨.bool (!(GN a b||AY a b)),by simp only[binOp,Op.stringOp];rfl,BT _⟩
 case geq=>exact⟨.bool (!GN a b),by simp only[binOp,Op.stringOp];rfl,BT _⟩
 all_goals exact c.elim
theorem A16 {op:BinOp} {t:TypeId} {ti:Option TI} (o:Pf ti=true→P.underlying t=some .bool) {x y:AV} {xv l:Value} (w:World)
  (h:OQ op ti (some x) (some y)=some (vc,v,obs)) (n:vc) (i:Bm V x xv) (j:Bm V y l) :
  obs=[]∧(∀e f,(eqGuard op t e f xv l).run P w=.ok () w)∧∃u,(binOp op t xv l).run P w=.ok u w∧Bm V v u:=by
 unfold OQ at h;split at h
 ·rename_i k a p b c d;cases c;cases d;cases h;obtain⟨rfl,ha⟩:=BI i;obtain⟨rfl,_⟩:=BI j;refine⟨rfl,fun e f=>?_,A0a w n ha⟩;cases op<;>simp[eqGuard]
 ·rename_i a b c d;cases c;cases d;cases h;obtain⟨rfl,ha⟩:=Fz i;obtain⟨rfl,_⟩:=Fz j;refine⟨rfl,fun e f=>?_,uL w n⟩;cases op<;>simp[eqGuard]
 ·rename_i a b c d;cases c;cases d;have ha:=Dk i;have g:=Dk j;subst ha g;split at h
  ·rename_i g;have m:=o g;cases op<;>simp only[ZJ]at h<;>cases h
   ·exact⟨rfl,fun e f=>by simp[eqGuard],.bool (a==b),by simp[binOp,run_equal_bool w t a b m],BT _⟩
   ·exact⟨rfl,fun e f=>by simp[eqGuard],.bool (a != b),by simp[binOp,run_equal_bool w t a b m,bne],BT _⟩
  ·cases h
 ·cases h
theorem A3G {op:UnOp} {x:AV} {xv:Value} (w:World) (h:nY op (some x)=some (vc,v,obs)) (c:vc) (e:Bm V x xv) :
  obs=[]∧∃u,(Op.unary op xv).run P w=.ok u w∧Bm V v u:=by
 unfold nY at h;split at h
 ·rename_i b d;cases d;cases h;have:=Dk e;subst this;exact⟨rfl,.bool (!b),by simp[Op.unary],BT _⟩
 ·rename_i k a d;cases d;cases h;obtain⟨rfl,ha⟩:=BI e;have c:Jz k (0-a):=c;exact⟨rfl,_,by simp only[Op.unary,Op.intArith,JV c];rfl,BF c⟩
 ·cases h
end
end
section
open Go Go.RowKit
section
variable {P:Program} {tb:Tb} {id:TypeId} {ti:TI} {w:World} {V:Vw} {vc:Prop} {v:AV} {obs:List (Nat×Obj)}
theorem ZM (l:List Int):(Pg l).size=l.length:=by
 show (Pg l).data.size=l.length;unfold Pg;simp
theorem A0b (K:Cg P tb) (L:V.w=w) {s t:TypeId} {F ti:TI} (hs:Dd P tb s F) (B:Dd P tb t ti) {x:AV} {xv:Value} (h:IZ (some F) (some ti) (some x)=some (vc,v,obs)) (i:vc) (D:Bm V x xv) :
  obs=[]∧∃u,(convert s t xv).run P w=.ok u w∧Bm V v u:=by
 unfold IZ at h;split at h
 ·rename_i W X m b1 k Y o b2 ae a q r y;cases q;cases r;cases y;cases h;obtain⟨rfl,ha⟩:=BI D;have i:Jz k a:=i;have f:P.underlying s=some (.int W):=hs.2;have g:P.underlying t=some (.int k):=B.2;refine⟨rfl,.int k a,?_,BF i⟩;simp[convert,aS f,aS g,Conv.intToInt,JV i]
 ·rename_i X m b1 Y o b2 l q r y;cases q;cases r;cases y;cases h;obtain⟨f,te,S,T⟩:=hs.2;have g:P.underlying t=some .string:=B.2;have C:P.underlying m=some (.int .u8):=by
   have:=(K _ _ S).2;rw[T]at this;exact this
  obtain⟨cs,⟨a,c,rfl,h1,H,b⟩,rfl⟩:=D;have R:(Pg l).size≤AO:=by rw[ZM];exact H
  refine⟨rfl,.string (Pg l),?_,⟨[.string (Pg l)],⟨rfl,R⟩,rfl⟩⟩;have O:a=none→l=[]:=fun e=>by
   rcases b with b|⟨ad,b,_⟩
   ·exact b
   ·rw[e]at b;cases b
  cases a with
  | none =>
   have:=O rfl;subst this;show (convert s t (.slice none 0 c)).run P w=_;have G:Pg []=ByteArray.empty:=rfl;rw[G];simp[convert,aS f,aS g,aS C,Conv.bytesToString]
  | some ad =>
   have A:=run_convert_bytes_back (P:=P) w s t m ad c (l.map fun x=>UInt8.ofNat x.toNat) f C g fun j z=>by
    have d:j<List.length l:=by rw[AA3]at z;exact z
    rcases b with b|⟨Z,b,ab,I⟩
    ·rw[b]at d;cases d
    ·cases b;obtain⟨aa,-,M,Q⟩:=I j l[j] (AT d);obtain⟨rfl,N⟩:=Q;have p:=M 0 (.int .u8 l[j]) rfl;rw[L]at p;obtain⟨E,U⟩:(0:Int)≤(l:List Int)[j]'d∧(l:List Int)[j]'d≤255:=by
      simpa[Jz,IntKind.min,IntKind.max,IntKind.signed,IntKind.bits] using N
     have e:(((List.map (fun x:Int=>UInt8.ofNat x.toNat) l)[j]'z).toNat:Int)=l[j]:=by
      rw[ACu,UInt8.toNat_ofNat'];have J:((l:List Int)[j]'d).toNat % 2 ^ 8=((l:List Int)[j]'d).toNat:=Nat.mod_eq_of_lt ((ACg E).2 (ACh U (by decide)));exact(AB5 (fun n:Nat=>(n:Int)) J).trans (AAQ E)
     rw[e];have o:j*(Ty.int .u8).size+0=j:=by simp[Ty.size]
     rw[o]at p;exact p
   rw[AA3]at A;exact A
 ·cases h
theorem A17 (y:∀n,V.L n→∃o,Aw V o (V.ρ n)) {x:AV} {xv:Value} {t ty:TypeId} (hT:Dd P tb t ti) (w:World) (h:QX (some ti) (some x)=some (vc,v,obs)) (j:Bm V x xv) :
  obs=[]∧∃u,(Builtin.len_ #[t] ty #[xv]).run P w=.ok u w∧Bm V v u:=by
 have k:∀n:Nat,n≤AO→Jz .i64 (n:Int):=fun n hn=>by
  simp[Jz,IntKind.min,IntKind.max,IntKind.signed,IntKind.bits];simp[AO]at hn;omega
 unfold QX at h;split at h
 ·rename_i e o el b r l d f;cases d;cases f;cases h;obtain⟨cs,⟨a,c,rfl,h1,z,_⟩,rfl⟩:=j;have g:=hT.2.1;exact⟨rfl,.int .i64 (List.length l:Int),by simp[Builtin.len_,aS g,goInt,Ty.wrap],BF (k _ z)⟩
 ·rename_i e o el b n r lo hi d f;cases d;cases f;cases h;obtain⟨p,a,m,c,D,J,I,F,G,rfl,H,h0,h1⟩:=j;have g:=hT.2.1;obtain⟨E,q⟩:=y n p;obtain⟨_,_,_,_,this⟩:=Tp q D;exact⟨rfl,.int .i64 ((hi-lo:Nat):Int),by simp[Builtin.len_,aS g,goInt],BF (k _ (by omega))⟩
 ·rename_i e o el b n r i len d f;cases d;cases f;cases h;obtain⟨p,M,a,c,K,C,B,A,rfl⟩:=j;have g:=hT.2.1;obtain⟨E,q⟩:=y n p;have:=uE q C B A rfl;exact⟨rfl,.int .i64 (len:Int),by simp[Builtin.len_,aS g,goInt],BF (k _ this)⟩
 ·rename_i e o el b d f;cases d;cases f;cases h;have j:xv=_:=j;subst j;have g:=hT.2.1;exact⟨rfl,.int .i64 0,by simp[Builtin.len_,aS g,goInt],BF (k 0 (by simp))⟩
 ·rename_i o el b s d f;cases d;cases f;cases h;obtain⟨rfl,h1⟩:=Fz j;have g:P.underlying t=some .string:=hT.2;exact⟨rfl,.int .i64 (s.size:Int),by simp[Builtin.len_,aS g,goInt],BF (k _ h1)⟩
 ·cases h
theorem kF {i:Nat} {x:AV} {xv:Value} (w:World) (h:D5 i (some x)=some (vc,v,obs)) (j:Bm V x xv) :
  obs=[]∧∃u,(Instr.extract xv i).run P w=.ok u w∧Bm V v u:=by
 have get:∀(l:List AV) (a:List Value) (i:Nat) (y:AV),Ib V l a→l[i]?=some y→∃u,a[i]?=some u∧Bm V y u:=by
  intro l;induction l with
  | nil=>intro a i y _ h;simp at h
  | cons z r k =>
   intro a i y c h;obtain⟨u,m,rfl,h1,d⟩:=c;cases i with
   | zero =>
    simp at h;subst h;exact⟨u,rfl,nZ h1⟩
   | succ i=>exact k m i y d (by simpa using h)
 unfold D5 at h;split at h
 ·rename_i l e;cases e;obtain⟨a,rfl,c⟩:=j;cases b:l[i]? with
  | none=>rw[b]at h;simp[Fy]at h
  | some y =>
   rw[b]at h;simp only[Fy]at h;cases h;obtain⟨u,g,f⟩:=get l a i _ c b;exact⟨rfl,u,by simp[Instr.extract,g],f⟩
 ·cases h
theorem A18 {x y:AV} {xv d:Value} {ts:Array TypeId} {ty:TypeId} (w:World) (h:OT (some x) (some y)=some (vc,v,obs)) (g:Bm V x xv) (i:Bm V y d) :
  obs=[]∧∃u,(Builtin.min_ ts ty #[xv,d]).run P w=.ok u w∧Bm V v u:=by
 unfold OT at h;split at h
 ·rename_i k a j b e f;cases e;cases f;split at h
  ·rename_i hk;subst hk;cases h;obtain⟨rfl,ha⟩:=BI g;obtain⟨rfl,c⟩:=BI i;have ha:Jz k a:=ha;have c:Jz k b:=c;refine⟨rfl,.int k (if (b:Int)<a then b else a),by simp[Builtin.min_,Builtin.min2],BF ?_⟩;split
   ·exact c
   ·exact ha
  ·cases h
 ·cases h
theorem A0c {x y z:AV} {xv i j:Value} {ts:Array TypeId} {ty:TypeId} (w:World) (h:Hj (some x) (some y) (some z)=some (vc,v,obs)) (q:Bm V x xv) (r:Bm V y i) (s:Bm V z j) :
  obs=[]∧∃u,(Builtin.min_ ts ty #[xv,i,j]).run P w=.ok u w∧Bm V v u:=by
 unfold Hj at h;split at h
 ·rename_i k a t b A c l m n;cases l;cases m;cases n;split at h
  ·rename_i hk;obtain⟨o,p⟩:=hk;subst o;subst p;cases h;obtain⟨rfl,ha⟩:=BI q;obtain⟨rfl,f⟩:=BI r;obtain⟨rfl,e⟩:=BI s;have ha:Jz k a:=ha;have f:Jz k b:=f;have e:Jz k c:=e;refine⟨rfl,.int k (if (c:Int)<(if (b:Int)<a then b else a) then c else (if (b:Int)<a then b else a)),by simp[Builtin.min_,Builtin.min2],BF ?_⟩;by_cases g:(b:Int)<a
   ·rw[BY g];by_cases d:(c:Int)<b
    ·rw[BY d];exact e
    ·rw[At d];exact f
   ·rw[At g];by_cases d:(c:Int)<a
    ·rw[BY d];exact e
    ·rw[At d];exact ha
  ·cases h
 ·cases h
theorem A19 {x y:AV} {xv d:Value} {ts:Array TypeId} {ty:TypeId} (w:World) (h:OU (some x) (some y)=some (vc,v,obs)) (g:Bm V x xv) (i:Bm V y d) :
  obs=[]∧∃u,(Builtin.max_ ts ty #[xv,d]).run P w=.ok u w∧Bm V v u:=by
 unfold OU at h;split at h
 ·rename_i k a j b e f;cases e;cases f;split at h
  ·rename_i hk;subst hk;cases h;obtain⟨rfl,ha⟩:=BI g;obtain⟨rfl,c⟩:=BI i;have ha:Jz k a:=ha;have c:Jz k b:=c;refine⟨rfl,.int k (if (a:Int)<b then b else a),by simp[Builtin.max_,Builtin.max2],BF ?_⟩;split
   ·exact c
   ·exact ha
  ·cases h
 ·cases h
theorem A0d {t:TypeId} (e:P.underlying t=some .string) (w:World) {s:ByteArray} {kd:IntKind} {k:Int} (h0:0≤k) (h1:k<(s.size:Int)) :
  (Instr.index t (.string s) (.int kd k)).run P w=.ok (.int .u8 ((s.data.getD k.toNat 0).toNat:Int)) w∧Jz .u8 ((s.data.getD k.toNat 0).toNat:Int):=by
 have a:k.toNat<s.size:=by omega
 have d:k.toNat<s.data.size:=a;have c:s[k.toNat]?=some (s.data.getD k.toNat 0):=by
  rw[getElem?_pos s k.toNat a];simp only[Array.getD,d,dite_true];rfl
 refine⟨by simp[Instr.index,asIntOf,aS e,h0,c],?_⟩;generalize s.data.getD k.toNat 0=b;have:=b.toNat_lt;simp[Jz,IntKind.min,IntKind.max,IntKind.signed,IntKind.bits];omega
theorem oD {t:TypeId} {x y:AV} {xv c:Value} (hT:Dd P tb t ti) (w:World) (h:Du (some ti) (some x) (some y)=some (vc,v,obs)) (a:vc) (j:Bm V x xv) (l:Bm V y c) :
  obs=[]∧∃u,(Instr.index t xv c).run P w=.ok u w∧Bm V v u:=by
 unfold Du at h;split at h
 ·rename_i o el b s kd k e f g;cases e;cases f;cases g;cases h;obtain⟨rfl,_⟩:=Fz j;obtain⟨rfl,_⟩:=BI l;have i:P.underlying t=some .string:=hT.2;obtain⟨h1,d⟩:=A0d (P:=P) i w (kd:=kd) a.1 a.2;exact⟨rfl,_,h1,BF d⟩
 ·cases h
theorem A1a {x:AV} {xv:Value} (h:RL (some x)=some (vc,v,obs)) (e:Bm V x xv):obs=[]∧(∃ad,xv=.pointer (some ad))∧Bm V v xv:=by
 unfold RL at h;split at h
 ·rename_i a;cases a;cases h;obtain⟨d,b,f,rfl⟩:=e;exact⟨rfl,⟨_,rfl⟩,d,b,f,rfl⟩
 ·rename_i a;cases a;cases h;obtain⟨ad,cs,rfl,r⟩:=e;exact⟨rfl,⟨_,rfl⟩,ad,cs,rfl,r⟩
 ·rename_i a;cases a;cases h;obtain⟨d,g,m,c,f,i,rfl⟩:=e;exact⟨rfl,⟨_,rfl⟩,d,g,m,c,f,i,rfl⟩
 ·cases h
end
end
section
open Go Go.RowKit
section
variable {P:Program} {tb:Tb} {id:TypeId} {ti:TI} {V:Vw} {vc:Prop} {v:AV} {obs:List (Nat×Obj)}
def Ee (a:Option Addr) (c l sz:Nat):Option Addr:=if c=l then a else a.map (·.add (l*sz))
inductive cC:Option Value→Nat→Nat→Prop
 | none (d:Nat):cC none d d
 | some (k:IntKind) (z:Int) (d:Nat) (h:0≤z):cC (some (.int k z)) d z.toNat
theorem oE {el:TypeId} (b:P.underlying id=some (.slice el)) {sz:Nat} (w:World) (hs:(sizeOf el).run P w=.ok sz w) {a:Option Addr} {n c l h:Nat} {lo hi:Option Value}
  (m:cC lo 0 l) (g:cC hi n h) (h1:l≤h) (p:h≤c) :
  (Instr.sliceAt id (.slice a n c) lo hi none).run P w=.ok (.slice (Ee a c l sz) (h-l) (c-l)) w:=by
 cases m with
 | none =>
  cases g with
  | none=>simp[Instr.sliceAt,aS b,Instr.slice,Instr.sliceBounds,hs,Ee]
  | some k z _ d =>
   have e:z≤(c:Int):=by omega
   simp[Instr.sliceAt,aS b,Instr.slice,Instr.sliceBounds,Instr.sliceBound,asIntOf,hs,Ee,d,e]
 | some k z _ d =>
  cases g with
  | none =>
   have e:z≤(n:Int):=by omega
   simp[Instr.sliceAt,aS b,Instr.slice,Instr.sliceBounds,Instr.sliceBound,asIntOf,hs,Ee,d,e]
  | some q f _ o =>
   have e:f≤(c:Int):=by omega
   have i:max f 0=f:=by omega
   have j:z≤f:=by omega
   simp[Instr.sliceAt,aS b,Instr.slice,Instr.sliceBounds,Instr.sliceBound,asIntOf,hs,Ee,d,o,e,i,j]
theorem A0e (a:P.underlying id=some .string) (w:World) {s:ByteArray} {l h:Nat} {lo hi:Option Value} (i:cC lo 0 l) (d:cC hi s.size h) (h1:l≤h) (m:h≤s.size) :
  (Instr.sliceAt id (.string s) lo hi none).run P w=.ok (.string (s.extract l h)) w:=by
 cases i with
 | none =>
  cases d with
  | none=>simp[Instr.sliceAt,aS a,Instr.slice,Instr.sliceBounds]
  | some k z _ b =>
   have e:z≤(s.size:Int):=by omega
   simp[Instr.sliceAt,aS a,Instr.slice,Instr.sliceBounds,Instr.sliceBound,asIntOf,b,e]
 | some k z _ b =>
  cases d with
  | none =>
   have e:z≤(s.size:Int):=by omega
   simp[Instr.sliceAt,aS a,Instr.slice,Instr.sliceBounds,Instr.sliceBound,asIntOf,b,e]
  | some n c _ j =>
   have e:c≤(s.size:Int):=by omega
   have f:max c 0=c:=by omega
   have g:z≤c:=by omega
   simp[Instr.sliceAt,aS a,Instr.slice,Instr.sliceBounds,Instr.sliceBound,asIntOf,b,j,e,f,g]
theorem uM {e:Ty} {xs:List e.den} {a:Option Addr} {n c l h:Nat} (f:Be V.w V.O (.slice e) [.slice a n c] xs) (h1:l≤h) (k:h≤xs.length) :
  BM V.w V.O (.slice e) (.slice (Ee a c l e.size) (h-l) (c-l)) (sub xs l h)∧n=xs.length∧h≤c:=by
 obtain⟨A,B,g,C,D,d⟩:=f;injection g with g
 injection g with m o p
 subst m;subst o;subst p;have b:=MC xs (lo:=l) k;refine⟨⟨_,⟨Ee a c l e.size,c-l,by rw[b],by rw[b];omega,by rw[b];omega,?_⟩,rfl⟩,rfl,by omega⟩;by_cases E:l<h
 ·right;rcases d with d|⟨ad,rfl,r,t⟩
  ·subst d;simp at k;omega
  ·refine⟨ad.add (l*e.size),?_,by rw[B3];exact r,fun i x hi=>?_⟩
   ·have:¬c=l:=by omega
    simp[Ee,this]
   ·obtain⟨z,_⟩:=Vc xs l h i hi;obtain⟨q,v,s,f⟩:=t (l+i) x z;refine⟨q,v,fun j u y=>?_,f⟩;have:=s j u y;rw[Ct]
    rwa [ABF,ABK]at this
 ·left;exact aT (by rw[b];omega)
theorem oG {loc:Value} {sz b c0 l h:Nat} {a:Option Addr} {n c:Nat} (r:Cf loc sz b c0 (.slice a n c)) (h1:l≤h) (w:h≤c0-b) :
  Cf loc sz (b+l) (b+h) (.slice (Ee a c l sz) (h-l) (c-l))∧n=c0-b∧h≤c:=by
 obtain⟨a0,m,d,p,x,z,u,v,s,y,i,j⟩:=r;injection s with e f g
 subst e;subst f;subst g;refine⟨⟨a0,m,d,p,by omega,by omega,Ee a c l sz,c-l,by rw[show b+h-(b+l)=h-l by omega],by omega,fun B=>?_,fun A=>?_⟩,rfl,by omega⟩
 ·have k:b=0:=by omega
  have o:l=0:=by omega
  subst k;subst o;obtain⟨t,C⟩:=i rfl;refine⟨?_,by omega⟩;rw[←t];unfold Ee;split
  ·rfl
  ·simp only[ABV];cases a<;>rfl
 ·have:=j (by omega);subst this;have q:¬c=l:=by omega
  simp only[Ee,At q,Option.map_map]
  congr 1
  funext ad;simp only[Function.comp];rw[Ct,ABF]
theorem QY (s:ByteArray) (l h:Nat):(s.extract l h).size≤s.size:=by
 simp only[ByteArray.size_extract];omega
theorem RS (hT:Dd P tb id ti) (j:Cg P tb) {e:Ty} (d:ti.ty=.slice e) {l:List e.den} {xv:Value} {lo hi:Option Value} {a h:Nat}
  (o:BM V.w V.O (.slice e) xv l) (m:cC lo 0 a) (k:cC hi l.length h) (h1:a≤h) (f:h≤l.length) :
  ∃u,(Instr.sliceAt id xv lo hi none).run P V.w=.ok u V.w∧Bm V (.p (.slice e) (sub l a h)) u:=by
 obtain⟨ty,offs,el,bytes⟩:=ti;simp only at d;subst d;obtain⟨n,hs,_⟩:=B1 hT j;obtain⟨cs,b,rfl⟩:=o;obtain⟨a0,c,rfl,r⟩:=b;have b:Be V.w V.O (.slice e) [.slice a0 l.length c] l:=⟨a0,c,rfl,r⟩;obtain⟨g,_,i⟩:=uM b h1 f;exact⟨_,oE n _ (hs _) m k h1 i,g⟩
theorem RT (hT:Dd P tb id ti) (k:Cg P tb) {n b c0:Nat} {e:Ty} (c:ti.ty=.slice e) {xv:Value} {lo hi:Option Value} {a h:Nat}
  (q:Bm V (.sr n e b c0) xv) (m:cC lo 0 a) (l:cC hi (c0-b) h) (h1:a≤h) (f:h≤c0-b) :
  ∃u,(Instr.sliceAt id xv lo hi none).run P V.w=.ok u V.w∧Bm V (.sr n e (b+a) (b+h)) u:=by
 obtain⟨ty,offs,el,bytes⟩:=ti;simp only at c;subst c;obtain⟨o,hs,_⟩:=B1 hT k;obtain⟨j,d⟩:=q;have p:=d;obtain⟨_,_,_,_,_,_,r,s,rfl,_⟩:=p;obtain⟨g,t,i⟩:=oG d h1 f;exact⟨_,oE o _ (hs _) m l h1 i,j,g⟩
theorem RU (hT:Dd P tb id ti) (d:ti.ty=.str) {s:ByteArray} {xv:Value} {lo hi:Option Value} {a h:Nat}
  (i:BM V.w V.O .str xv s) (f:cC lo 0 a) (e:cC hi s.size h) (h1:a≤h) (c:h≤s.size) :
  ∃u,(Instr.sliceAt id xv lo hi none).run P V.w=.ok u V.w∧Bm V (.p .str (s.extract a h)) u:=by
 obtain⟨rfl,g⟩:=Fz i;have b:=hT.2;rw[d]at b;exact⟨_,A0e b _ f e h1 c,RR (f4 (QY s a h) g)⟩
theorem IC {z:Int} {n:Nat} (_h:0≤z) (a:z≤(n:Int)):z.toNat≤n:=by omega
theorem Vh {a b:Int} (h:a≤b):a.toNat≤b.toNat:=by omega
def Wx:Option AV→Option Value→Prop
 | none,none=>True
 | some x,some v=>Bm V x v
 | _,_=>False
theorem oH (hT:Dd P tb id ti) (k:Cg P tb) {x ha g:AV} {xv d f:Value} (h:DR (some ti) (some x) (some ha) (some g)=some (vc,v,obs)) (C:vc) (D:Bm V x xv) (s:Bm V ha d) (y:Bm V g f) :
  obs=[]∧∃u,(Instr.sliceAt id xv none (some d) (some f)).run P V.w=.ok u V.w∧Bm V v u:=by
 unfold DR at h;split at h
 ·rename_i e offs el bytes G l E a F b m n o p;cases m;cases n;cases o;cases p;split at h
  ·rename_i q;subst q;cases h;obtain⟨B,hs,_⟩:=B1 hT k;obtain⟨rfl,rfl⟩:=C;obtain⟨rfl,_⟩:=BI (s:BM V.w V.O (.int E) d _);obtain⟨rfl,_⟩:=BI (y:BM V.w V.O (.int F) f _);obtain⟨cs,A,rfl⟩:=(D:BM V.w V.O (.slice e) xv l);obtain⟨a0,c,rfl,t,z,r⟩:=A;refine⟨rfl,.slice a0 (List.length l) (List.length l),?_,⟨_,⟨a0,_,rfl,If _,z,r⟩,rfl⟩,a0,rfl⟩;have i:((List.length l:Nat):Int)≤(c:Int):=by omega
   have j:(0:Int)≤((List.length l:Nat):Int):=by omega
   simp[Ty.wrap,Instr.sliceAt,aS B,Instr.slice,Instr.sliceBounds,Instr.sliceBound,asIntOf,hs V.w,i,j,Addr.add];intro H;exact absurd t (by omega)
  ·cases h
 ·cases h
theorem uN (hT:Dd P tb id ti) (j:Cg P tb) {x:AV} {xv:Value} {lo hi:Option AV} {C B:Option Value}
  (h:Eh (some ti) (some x) (some lo) (some hi)=some (vc,v,obs)) (a:vc) (c:Bm V x xv) (g:Wx (V:=V) lo C) (f:Wx (V:=V) hi B) :
  obs=[]∧∃u,(Instr.sliceAt id xv C B none).run P V.w=.ok u V.w∧Bm V v u:=by
 have i:∀ {o:Option Value} (d:Nat),Wx (V:=V) none o→cC o d d:=fun {o} d h=>by
  cases o with
  | none=>exact .none d
  | some v=>exact h.elim
 have b1:∀ {o:Option Value} {k:IntKind} {z:Int} (d:Nat),Wx (V:=V) (some (.p (.int k) z)) o→0≤z→cC o d z.toNat:=fun {o k z} d h E=>by
  cases o with
  | none=>exact h.elim
  | some v =>
   obtain⟨rfl,_⟩:=BI (h:BM V.w V.O (.int k) v z);exact .some k z d E
 unfold Eh at h;split at h
 ·rename_i e offs el bytes D l a0 h0 q r t y;cases q;cases r;cases t;cases y;split at h
  ·rename_i A;subst A;have c:BM V.w V.O (.slice e) xv l:=c;unfold Gj at h;split at h<;>first|(cases h;done)|(rename_i m;cases m<;>cases h)
   ·exact⟨rfl,RS hT j rfl c (i 0 g) (b1 _ f a.1) (IS _) (IC a.1 a.2)⟩
   ·exact⟨rfl,RS hT j rfl c (b1 0 g a.1) (i _ f) (IC a.1 a.2) (If _)⟩
   ·exact⟨rfl,RS hT j rfl c (b1 0 g a.1) (b1 _ f (AB0 a.1 a.2.1)) (Vh a.2.1) (IC (AB0 a.1 a.2.1) a.2.2)⟩
  ·cases h
 ·rename_i e offs el bytes n D b c0 a0 h0 q r t y;cases q;cases r;cases t;cases y;split at h
  ·rename_i A;subst A;unfold Gj at h;split at h<;>first|(cases h;done)|(rename_i m;cases m<;>cases h)
   ·refine⟨rfl,?_⟩;have:=RT (P:=P) hT j rfl c (i 0 g) (b1 _ f a.1) (IS _) (IC a.1 a.2);simpa using this
   ·refine⟨rfl,?_⟩;have:=RT (P:=P) hT j rfl c (b1 0 g a.1) (i _ f) (IC a.1 a.2) (If _);have G:=IC a.1 a.2;obtain⟨_,_,_,_,_,F,_⟩:=c;rw[show b+(c0-b)=c0 by omega]at this;exact this
   ·exact⟨rfl,RT hT j rfl c (b1 0 g a.1) (b1 _ f (AB0 a.1 a.2.1)) (Vh a.2.1) (IC (AB0 a.1 a.2.1) a.2.2)⟩
  ·cases h
 ·rename_i offs el bytes s a0 h0 q r t y;cases q;cases r;cases t;cases y;have c:BM V.w V.O .str xv s:=c;unfold Gj at h;split at h<;>first|(cases h;done)|(rename_i m;cases m<;>cases h)
  ·exact⟨rfl,RU hT rfl c (i 0 g) (b1 _ f a.1) (IS _) (IC a.1 a.2)⟩
  ·exact⟨rfl,RU hT rfl c (b1 0 g a.1) (i _ f) (IC a.1 a.2) (If _)⟩
  ·exact⟨rfl,RU hT rfl c (b1 0 g a.1) (b1 _ f (AB0 a.1 a.2.1)) (Vh a.2.1) (IC (AB0 a.1 a.2.1) a.2.2)⟩
 ·cases h
end
end
end Go.Proofs.YtdapahgnpbehbaaGreat.Fw
