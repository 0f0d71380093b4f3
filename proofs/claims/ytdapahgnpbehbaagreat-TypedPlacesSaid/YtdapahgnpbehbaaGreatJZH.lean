/- Regions in which operations on memory float among quiet ones. -/
import Derived.Test.YtdapahgnpbehbaaGreatJZG
set_option linter.unusedVariables false
set_option linter.unusedSimpArgs false
namespace Go.Proofs.YtdapahgnpbehbaaGreat.Fw
section
open Go Go.RowKit
abbrev EN:=List (Nat×AV×List (Nat×Obj))
def bZ (x:Option Oper) (f:Oper->Option (Prop×EN)):Option (Prop×EN) :=
 match x with
 | some o=>f o
 | none=>none
def ZI (d:Option Nat) (r:BZ) (f:Nat->Prop->AV->List (Nat×Obj)->Option (Prop×EN)):Option (Prop×EN) :=
 match d,r with
 | some d,some (vc,v,obs)=>f d vc v obs
 | _,_=>none
def b4 (d:Nat) (vc:Prop) (v:AV) (obs:List (Nat×Obj)) (r:Option (Prop×EN)):Option (Prop×EN) :=
 match r with
 | some (a,l)=>some (vc/\a,(d,v,obs) :: l)
 | none=>none
def iW (tb:Tb) (ops:List Oper) (base:List (Nat×Obj)):List Nat->List (Nat×List (Nat×Obj))->List (Nat×AV)->Option (Prop×EN)
 | [],_,_=>some (True,[])
 | i :: Q,E,env=>bZ (ops[i]?) λo=>ZI o.dst (aq tb ⟨env,MD false o.op base E⟩ (o.dst.getD 0) o.op) λd vc v obs=>b4 d vc v obs (iW tb ops base Q (J8 d obs E) ((d,v) :: env))
def MJ:EN->St->St
 | [],σ=>σ
 | (d,v,obs) :: r,σ=>MJ r ⟨(d,v) :: σ.env,obs++σ.objs⟩
def Q9:EN->List (Nat×Obj)->Bool
 | [],_=>true
 | (_,_,obs) :: r,objs=>(obs.all λp=>(lk p.1 objs).isNone)&&Q9 r (obs++objs)
def A71 (tb:Tb) (ops:List Oper) (Q:List Nat) (ens:EN) (τ:St):Prop:=∃vc:Prop,iW tb ops τ.objs Q [] τ.env=some (vc,ens)/\vc/\Q9 ens τ.objs=true
def qs (a:List (List Nat×Nat)) (D:List Nat):List Nat:=(a.flatMap (·.1))++D
def qB1 (ops:List Oper) (anc:List (List Nat)) (L Q:List Nat):List Nat->List Nat->Bool
 | [],_=>true
 | i :: r,pre=>(match ops[i]? with
   | some o=>o.dst.isSome&&o.guard.isNone&&((EJ o).all λe=>AY e L||AY e pre)&&((Ga o.op).all λt=>Q.all λj=>Am ops j != some t||(AY j (anc.getD i [])&&AY j pre))&&(pre.all λj=>Am ops j != o.dst)&&!AY i L&&!AY i pre
   | none=>false)&&qB1 ops anc L Q r (i :: pre)
def S3 (ops:List Oper) (anc:List (List Nat)) (p0:Nat):List Nat->List (List Nat×Nat)->List Nat->Bool
 | L,[],D=>qB1 ops anc L D D []&&((List.range p0).all λi=>AY i L||AY i D)&&decide (L.length+D.length=p0)&&decide (p0<=ops.length)&&(L.all λi=>decide (i<p0))&&(D.all λi=>decide (i<p0))&&((List.range ops.length).all λi=>decide (i<p0)||(List.range i).all λj=>AY j (anc.getD i []))
 | L,(A,l) :: a,D=>qB1 ops anc L (A++qs a D) (A++qs a D) []&&(match ops[l]? with
   | some o=>o.guard.isNone&&((EJ o).all λe=>AY e L||AY e A)&&(A.all λj=>AY j (anc.getD l []))&&!AY l L&&!AY l (A++qs a D)
   | none=>false)&&(a.all λp=>AY l (anc.getD p.2 []))&&S3 ops anc p0 (l :: (A++L)) a D
def A72 (ops:List Oper) (anc:List (List Nat)):Bool :=
 (List.range ops.length).all λi=>match ops[i]? with|some o=>((EJ o).all λe=>decide (e<i))&&((anc.getD i []).all λj=>AY j (EJ o)||(EJ o).any λe=>AY j (anc.getD e []))|none=>false
structure NX (σ σ' X:St):Prop where
 env:∀s,lk s σ'.env=(lk s X.env).or (lk s σ.env)
 objs:∀n,lk n σ'.objs=(lk n X.objs).or (lk n σ.objs)
structure XIn (ens:EN) (X:St):Prop where
 env:∀s v,lk s X.env=some v->∃obs,(s,v,obs)∈ens
 objs:∀n o,lk n X.objs=some o->∃e∈ens,(n,o)∈e.2.2
def UY (c:Cx) (o:Oper) (σ:St) (ens:EN) (N:St->Prop):Prop :=
 ∀(X σ':St),NX σ σ' X->XIn ens X->∀(a:Act) (w:World) (next:Act->World->Prop) (Q:Exit->Act->World->Prop),c.sat σ' a w ->
  (∀τ,N τ->∀(b:Act) (w':World) (d:St),NX τ d X->c.sat d b w'->next b w')->o.wpIn (FR c.r) 0 c.P a w next Q
def Mix (c:Cx) (ops:List Oper) (Kf:St->Prop):List (List Nat×Nat)->List Nat->EN->St->Prop
 | [],D,ens,τ=>A71 c.tb ops D ens τ/\Kf (MJ ens τ)
 | (A,l) :: a,D,ens,τ=>A71 c.tb ops (A++qs a D) ens τ/\∃o,ops[l]?=some o/\UY c o (MJ (ens.take A.length) τ) (ens.drop A.length) (λb=>Mix c ops Kf a D (ens.drop A.length) b)
def OL (Q:List Nat) (ens:EN) (i:Nat):En :=
 match lk i (Q.zip ens) with
 | some (_,v,obs)=>⟨true,v,obs⟩
 | none=>⟨true,.top,[]⟩
section
variable {ops:List Oper} {en:Nat->En} {τ:St}
theorem RA:∀(l:List Nat),(Ar ops en τ l).env=(Ar ops en ⟨[],[]⟩ l).env++τ.env
 | []=>rfl
 | i :: r=>by
  simp only[Ar];cases Am ops i with
  | none=>simp only[St.add];exact RA r
  | some d=>simp only[St.add,AC0];rw[RA r]
theorem iX (l:List Nat):(Ar ops en τ l).objs=(Ar ops en ⟨[],[]⟩ l).objs++τ.objs:=by
 rw[Fg,Fg];simp
theorem A04 (l:List Nat):NX τ (Ar ops en τ l) (Ar ops en ⟨[],[]⟩ l) :=
 ⟨λs=>by rw[RA,A2],λn=>by rw[iX,A2]⟩
structure Own (ops:List Oper) (en:Nat->En) (τ:St) (Q:List Nat):Prop where
 slot:∀i∈Q,∀j∈Q,∀s,Am ops i=some s->Am ops j=some s->i=j
 new:∀i∈Q,∀n o,lk n (en i).obs=some o->lk n τ.objs=none
 name:∀i∈Q,∀j∈Q,∀n o o',lk n (en i).obs=some o->lk n (en j).obs=some o'->i=j
theorem lkE {Q l:List Nat} (h:Own ops en τ Q) (c:∀i∈l,i∈Q) (s:Nat) (v:AV):lk s (Ar ops en τ l).env=some v↔(∃i∈l,Am ops i=some s/\(en i).v=v)\/((∀i∈l,Am ops i≠some s)/\lk s τ.env=some v):=by
 rw[Fh];cases hf:l.find? (λj=>Am ops j==some s) with
 | none =>
  have hn:∀i∈l,Am ops i≠some s:=λi hi=>by simpa using AD1.1 hf i hi
  constructor
  ·grind
  ·grind
 | some j =>
  have b:=ACn hf;have a:Am ops j=some s:=by simpa using ADj hf
  constructor
  ·grind
  ·rintro (⟨i,hi,d,rfl⟩|⟨hn,_⟩)
   ·rw[h.slot i (c i hi) j (c j b) s d a]
   ·exact absurd a (hn j b)
theorem lkO {Q l:List Nat} (h:Own ops en τ Q) (d:∀i∈l,i∈Q) (n:Nat) (o:Obj):lk n (Ar ops en τ l).objs=some o↔(∃i∈l,lk n (en i).obs=some o)\/((∀i∈l,lk n (en i).obs=none)/\lk n τ.objs=some o):=by
 rw[Fg,A2];cases hf:lk n (l.flatMap λj=>(en j).obs) with
 | some e =>
  obtain⟨j,c,a⟩:=m8 hf;simp only[AD3];constructor
  ·grind
  ·rintro (⟨i,hi,b⟩|⟨hn,_⟩)
   ·have:=h.name i (d i hi) j (d j c) n o e b a;subst this;rw[<-a,b]
   ·rw[hn j c]at a;cases a
 | none =>
  have hn:=K3 hf;simp only[Option.none_or];constructor
  ·grind
  ·grind
theorem vD {Q l A:List Nat} (h:Own ops en τ Q) (k:∀i∈l,i∈Q) (m:∀i∈A,i∈l):NX (Ar ops en τ A) (Ar ops en τ l) (Ar ops en ⟨[],[]⟩ (l.filter λi=>!AY i A)):=by
 have h0:Own ops en ⟨[],[]⟩ Q:=⟨h.slot,λ_ _ _ _ _=>rfl,h.name⟩;have hf:∀i∈l.filter (λi=>!AY i A),i∈Q:=λi hi=>k i (AAC.1 hi).1;have p:∀i∈A,i∈Q:=λi hi=>k i (m i hi);have g:∀i,i∈l.filter (λi=>!AY i A)↔i∈l/\i∉A:=λi=>by grind [Aa,AY]
 refine⟨λs=>AD6 λv=>?_,λn=>AD6 λo=>?_⟩
 ·rw[lkE h k,Option.or_eq_some_iff,lkE h0 hf,lkE h p];constructor
  ·rintro (⟨i,hi,d,a⟩|⟨hn,a⟩)
   ·by_cases c:i∈A
    ·refine .inr ⟨?_,.inl ⟨i,c,d,a⟩⟩;cases b:lk s (Ar ops en ⟨[],[]⟩ (l.filter λi=>!AY i A)).env with
     | none=>rfl
     | some u =>
      rcases (lkE h0 hf s u).1 b with ⟨j,e,f,_⟩|⟨_,b⟩
      ·have:=h.slot i (k i hi) j (hf j e) s d f;subst this;exact absurd c ((g i).1 e).2
      ·cases b
    ·exact .inl (.inl ⟨i,(g i).2 ⟨hi,c⟩,d,a⟩)
   ·refine .inr ⟨?_,.inr ⟨λi hi=>hn i (m i hi),a⟩⟩;cases b:lk s (Ar ops en ⟨[],[]⟩ (l.filter λi=>!AY i A)).env with
    | none=>rfl
    | some u =>
     rcases (lkE h0 hf s u).1 b with ⟨j,e,f,_⟩|⟨_,b⟩
     ·exact absurd f (hn j ((g j).1 e).1)
     ·cases b
  ·rintro ((⟨i,hi,d,a⟩|⟨_,a⟩)|⟨b,⟨i,hi,d,a⟩|⟨hn,a⟩⟩)
   ·grind
   ·cases a
   ·grind
   ·refine .inr ⟨λi hi d=>?_,a⟩;by_cases c:i∈A
    ·exact hn i c d
    ·have:=(lkE h0 hf s (en i).v).2 (.inl ⟨i,(g i).2 ⟨hi,c⟩,d,rfl⟩);rw[b]at this;cases this
 ·rw[lkO h k,Option.or_eq_some_iff,lkO h0 hf,lkO h p];constructor
  ·rintro (⟨i,hi,a⟩|⟨hn,a⟩)
   ·by_cases c:i∈A
    ·refine .inr ⟨?_,.inl ⟨i,c,a⟩⟩;cases b:lk n (Ar ops en ⟨[],[]⟩ (l.filter λi=>!AY i A)).objs with
     | none=>rfl
     | some u =>
      rcases (lkO h0 hf n u).1 b with ⟨j,e,f⟩|⟨_,b⟩
      ·have:=h.name i (k i hi) j (hf j e) n _ _ a f;subst this;exact absurd c ((g i).1 e).2
      ·cases b
    ·exact .inl (.inl ⟨i,(g i).2 ⟨hi,c⟩,a⟩)
   ·refine .inr ⟨?_,.inr ⟨λi hi=>hn i (m i hi),a⟩⟩;cases b:lk n (Ar ops en ⟨[],[]⟩ (l.filter λi=>!AY i A)).objs with
    | none=>rfl
    | some u =>
     rcases (lkO h0 hf n u).1 b with ⟨j,e,f⟩|⟨_,b⟩
     ·rw[hn j ((g j).1 e).1]at f;cases f
     ·cases b
  ·rintro ((⟨i,hi,a⟩|⟨_,a⟩)|⟨b,⟨i,hi,a⟩|⟨hn,a⟩⟩)
   ·grind
   ·cases a
   ·grind
   ·refine .inr ⟨λi hi=>?_,a⟩;by_cases c:i∈A
    ·exact hn i c
    ·cases d:lk n (en i).obs with
     | none=>rfl
     | some u =>
      have:=(lkO h0 hf n u).2 (.inl ⟨i,(g i).2 ⟨hi,c⟩,d⟩);rw[b]at this;cases this
end
def A07 (tb:Tb) (ops:List Oper) (τ:St) (en:Nat->En) (pre:List Nat) (i:Nat) (o:Oper):Prop :=
 ∃vc:Prop,aq tb ⟨(Ar ops en τ pre).env,B3 false (Ga o.op) τ.objs (ES ops en pre)⟩ (o.dst.getD 0) o.op=some (vc,(en i).v,(en i).obs)/\vc
theorem b5 {ts:List Nat} {base:List (Nat×Obj)} {d:Nat} {obs:List (Nat×Obj)} {E:List (Nat×List (Nat×Obj))}:B3 false ts base (J8 d obs E)=B3 false ts base ((d,obs) :: E):=by
 cases obs with
 | nil=>simp only[J8,B3,ABN];split<;>rfl
 | cons x r=>rfl
theorem A08 {o:Op} {base:List (Nat×Obj)} {E:List (Nat×List (Nat×Obj))}:MD false o base E=B3 false (Ga o) base E:=by
 cases E<;>rfl
theorem Xb {tb:Tb} {ops:List Oper} {τ:St} {en:Nat->En}:∀ {Q:List Nat} {ens:EN} {pre:List Nat} {E:List (Nat×List (Nat×Obj))} {vc:Prop},iW tb ops τ.objs Q E (Ar ops en τ pre).env=some (vc,ens)->vc ->
  (∀ts,B3 false ts τ.objs E=B3 false ts τ.objs (ES ops en pre))->(∀(j i:Nat) (e:Nat×AV×List (Nat×Obj)),Q[j]?=some i->ens[j]?=some e->en i=⟨true,e.2.1,e.2.2⟩) ->
  ens.length=Q.length/\∀(j i:Nat),Q[j]?=some i->∃(o:Oper) (e:Nat×AV×List (Nat×Obj)),ops[i]?=some o/\ens[j]?=some e/\Am ops i=some e.1/\A07 tb ops τ en ((Q.take j).reverse++pre) i o
 | [],ens,pre,E,vc,h,q,g,m=>by grind [iW]
 | i :: Q,ens,pre,E,vc,h,q,g,m=>by
  simp only[iW]at h;cases b:ops[i]? with
  | none=>rw[b]at h;simp[bZ]at h
  | some o =>
   rw[b]at h;simp only[bZ]at h;cases a:o.dst with
   | none=>rw[a]at h;simp[ZI]at h
   | some d =>
    cases c:aq tb ⟨(Ar ops en τ pre).env,MD false o.op τ.objs E⟩ (o.dst.getD 0) o.op with
    | none=>rw[c,a]at h;simp[ZI]at h
    | some r =>
     obtain⟨y,v,obs⟩:=r;rw[c,a]at h;simp only[ZI]at h;cases n:iW tb ops τ.objs Q (J8 d obs E) ((d,v) :: (Ar ops en τ pre).env) with
     | none=>rw[n]at h;simp[b4]at h
     | some p =>
      obtain⟨A,z⟩:=p;rw[n]at h;simp only[b4]at h;cases h;have hi:=m 0 i (d,v,obs) rfl rfl;have l:Am ops i=some d:=by simp[Am,b,a]
      have w:(Ar ops en τ (i :: pre)).env=(d,v) :: (Ar ops en τ pre).env:=by simp[Ar,l,St.add,hi]
      have s:=Xb (pre:=i :: pre) (by rw[w];exact n) q.2 (λts=>by
       rw[b5];simp only[ES,AAn,l,ABx,hi,B3];rw[g ts];rfl) (λj k e h1 f=>m (j+1) k e (by simpa using h1) (by simpa using f))
      refine⟨by simp[s.1],λj k hk=>?_⟩;cases j with
      | zero =>
       simp only[ABG,ABA]at hk;subst hk;refine⟨o,(d,v,obs),b,rfl,l,y,?_,q.1⟩;rw[A08,g]at c;simp only[ABo,List.reverse_nil,ABN];rw[hi];exact c
      | succ j =>
       obtain⟨x,e,h1,f,t,u⟩:=s.2 j k (by simpa using hk);refine⟨x,e,h1,by simpa using f,t,?_⟩;simpa[ABl] using u
theorem RB:∀ {ens:EN} {objs:List (Nat×Obj)},Q9 ens objs=true->∀(j:Nat) (e:Nat×AV×List (Nat×Obj)),ens[j]?=some e->∀n o,lk n e.2.2=some o->lk n objs=none/\∀(b:Nat) (a:Nat×AV×List (Nat×Obj)) (c:Obj),ens[b]?=some a->lk n a.2.2=some c->j=b
 | [],objs,_,j,e,h=>by simp at h
 | (d,v,obs) :: r,objs,h,j,e,f=>by
  simp only[Q9,As,IN,ABa]at h;have h0:∀n o,lk n obs=some o->lk n objs=none:=λn o hn=>h.1 _ (F3 hn);have g:=RB h.2;grind [lk,A2]
end
section
open Go Go.RowKit
structure Xc (ops:Array Oper) (anc:List (List Nat)):Prop where
 lt:∀i o,ops[i]?=some o->∀e∈EJ o,e<i
 cl:∀i o,ops[i]?=some o->∀j∈anc.getD i [],j∈EJ o\/∃e∈EJ o,j∈anc.getD e []
theorem A88 {ops:Array Oper} {anc:List (List Nat)} (h:A72 ops.toList anc=true):Xc ops anc:=by
 simp only[A72,IN,oR]at h;have hi:∀i o,ops[i]?=some o->((EJ o).all λe=>decide (e<i))=true/\((anc.getD i []).all λj=>AY j (EJ o)||(EJ o).any λe=>AY j (anc.getD e []))=true:=by grind
 refine⟨λi o a e b=>?_,λi o a j c=>?_⟩
 ·grind
 ·grind [Aa]
section
variable {ops:Array Oper} {k:Nat} {anc:List (List Nat)} {Q:Exit->Act->World->Prop}
theorem SR (a:Xc ops anc) {listed:Array Bool} (g:∀i o,ops[i]?=some o->listed.getD i true=true->∀e∈EJ o,listed.getD e false=true) :
  ∀i o,ops[i]?=some o->(∀e∈EJ o,listed.getD e false=true)->∀j∈anc.getD i [],listed.getD j false=true:=by
 intro i;induction i using Nat.strongRecOn with
 | _ i l =>
  intro o b c j f;rcases a.cl i o b j f with h1|⟨e,d,h⟩
  ·exact c j h1
  ·have k:=a.lt i o b e d;grind
theorem RD {F:Fence} {P:Program} (g:Xc ops anc) (q:∀i o,ops[i]?=some o->k<=i->∀j,j<i->j∈anc.getD i []):∀ {rest:List Oper} {p:Nat} {listed:Array Bool} {a:Act} {w:World},ops.toList.drop p=rest->k<=p->p<=ops.size->listed.size=ops.size ->
  (∀i,i<ops.size->(listed.getD i true=true↔i<p))->wpListIn F 0 P ops Q rest a w->wpAnyIn F 0 P .any ops Q rest.length listed a w
 | [],p,listed,a,w,l,C,D,m,f,c=>by
  have hp:p=ops.size:=by
   have:=ABr List.length l;simp at this;omega
  refine⟨?_,c⟩;apply ACJ.2;grind [Dn]
 | o :: r,p,listed,a,w,l,C,D,m,f,c=>by
  obtain⟨d,v⟩:=XW l;have d:ops[p]?=some o:=by simpa using d
  have E:p<ops.size:=(AAA.1 d).1;have x:∀e b,e<ops.size->listed.getD e b=listed.getD e true:=λe b h=>by grind
  have L:∀i o,ops[i]?=some o->listed.getD i true=true->∀e∈EJ o,listed.getD e false=true:=by
   intro i o u h1 e h;have H:i<ops.size:=(AAA.1 u).1;have J:=(f i H).1 h1;have K:=g.lt i o u e h;grind
  have G:∀i,i∈Region.ready .any ops listed->i=p:=by grind [Dn,SR]
  refine⟨λM=>?_,λi hi=>?_⟩
  ·exfalso;have:p∈Region.ready .any ops listed:=by
    rw[Dn];refine⟨?_,o,d,λe h=>?_⟩
    ·cases hh:listed.getD p true with
     | false=>rfl
     | true=>have:=(f p E).1 hh;omega
    ·have:=g.lt p o d e h;rw[x e false (by omega)];exact(f e (by omega)).2 this
   grind
  ·have z:=G i hi;subst z;have t:∀(j:Nat),j<ops.size->((listed.setIfInBounds i true).getD j true=true↔j<i+1):=by
    intro j A;have B:j<listed.size:=by omega
    by_cases s:j=i
    ·subst s;simp[Array.getD,B]
    ·have h1:(listed.setIfInBounds i true).getD j true=listed.getD j true:=getD_set_ne true (λe=>s e.symm);rw[h1,f j A];omega
   unfold wpOpIn;rw[d];simp only;unfold wpListIn at c;split
   ·rename_i n;rw[BY n]at c;exact Oper.wpIn_mono (λI w' y=>RD g q v.symm (by omega) (by omega) (by simpa using m) t y) c
   ·rename_i n;rw[At n]at c;exact⟨c.1,RD g q v.symm (by omega) (by omega) (by simpa using m) t c.2⟩
end
structure QOk (ops:List Oper) (anc:List (List Nat)) (L Q:List Nat):Prop where
 nodup:Q.Nodup
 pos:∀(j i:Nat),Q[j]?=some i->i∉L/\∃o,ops[i]?=some o/\o.guard=none/\(∀e∈EJ o,e∈L\/e∈Q.take j)/\(∀t∈Ga o.op,∀k∈Q,Am ops k=some t->k∈anc.getD i []/\k∈Q.take j)
 slot:∀i∈Q,∀j∈Q,∀s,Am ops i=some s->Am ops j=some s->i=j
theorem b6 {ops:List Oper} {anc:List (List Nat)} {L Q:List Nat}:∀ {r pre:List Nat},qB1 ops anc L Q r pre=true ->
  (∀(j i:Nat),r[j]?=some i->i∉L/\i∉pre/\i∉r.take j/\∃o,ops[i]?=some o/\o.guard=none/\(∀e∈EJ o,e∈L\/e∈pre\/e∈r.take j)/\(∀t∈Ga o.op,∀k∈Q,Am ops k=some t->k∈anc.getD i []/\(k∈pre\/k∈r.take j)) /\
   ∀k,k∈pre\/k∈r.take j->Am ops k≠Am ops i)
 | [],pre,h,j,i,a=>by simp at a
 | x :: r,pre,h,j,i,a=>by
  simp only[qB1,As]at h;obtain⟨h1,s⟩:=h;cases j with
  | zero =>
   simp only[ABG,ABA]at a;subst a;cases f:ops[x]? with
   | none=>rw[f]at h1;cases h1
   | some o =>
    rw[f]at h1;simp only[As,IN,AAz,Aa,ACS,dO,ABa]at h1;obtain⟨⟨⟨⟨⟨⟨A,q⟩,B⟩,C⟩,D⟩,c⟩,d⟩:=h1;refine⟨λh=>(by rw[(Aa _ _).2 h]at c;cases c),λh=>(by rw[(Aa _ _).2 h]at d;cases d),by simp,o,rfl,q,λe v=>?_,λt w k hk u=>?_,λk hk=>?_⟩
    ·grind
    ·grind
    ·grind [Am]
  | succ j =>
   obtain⟨g,b,l,o,m,n,y,z,p⟩:=b6 s j i (by simpa using a);simp only[By,not_or]at b;refine⟨g,b.2,by simp[ABl,b.1,l],o,m,n,λe v=>?_,λt w k hk u=>?_,λk hk=>p k ?_⟩
   ·grind
   ·grind
   ·grind
theorem b7 {α:Type} {l:List α} {i j:Nat} {x:α} (h:l[i]?=some x) (a:i<j):x∈l.take j:=by
 rw[AAW];exact⟨i,by rw[AAy,BY a];exact h⟩
theorem qOk {ops:List Oper} {anc:List (List Nat)} {L Q:List Nat} (h:qB1 ops anc L Q Q []=true):QOk ops anc L Q:=by
 have hs:=b6 h;have m:∀ {i j x y:Nat},Q[i]?=some x->Q[j]?=some y->i<j->x≠y/\Am ops x≠Am ops y:=by grind [b7]
 refine⟨?_,λj i c=>?_,λi hi j c s h1 q=>?_⟩
 ·rw[List.nodup_iff_pairwise_ne,tO];intro i j hi c l e;exact(m (AT hi) (AT c) l).1 e
 ·obtain⟨d,_,_,o,f,g,n,p,_⟩:=hs j i c;refine⟨d,o,f,g,λe v=>?_,λt w k hk u=>?_⟩
  ·grind
  ·grind
 ·obtain⟨a,ha⟩:=AAW.1 hi;obtain⟨b,r⟩:=AAW.1 c;grind
theorem iY:∀ {Q:List Nat} {ens:EN},Q.Nodup->∀(j i:Nat) (e:Nat×AV×List (Nat×Obj)),Q[j]?=some i->ens[j]?=some e->OL Q ens i=⟨true,e.2.1,e.2.2⟩
 | [],ens,_,j,i,e,h,_=>by simp at h
 | x :: Q,[],_,j,i,e,_,h=>by simp at h
 | x :: Q,f :: ens,hn,j,i,e,h1,a=>by
  cases j with
  | zero =>
   simp only[ABG,ABA]at h1 a;subst h1;subst a;simp[OL,ACZ,lk]
  | succ j =>
   have h1:Q[j]?=some i:=by simpa using h1
   have b:i≠x:=λe=>by grind
   have:=iY (AAS.1 hn).2 j i e h1 (by simpa using a);simp only[OL,ACZ,lk,At b]at this ⊢;exact this
structure Fr (tb:Tb) (ops:List Oper) (anc:List (List Nat)) (L Q:List Nat) (ens:EN) (τ:St):Prop where
 q:QOk ops anc L Q
 len:ens.length=Q.length
 own:Own ops (OL Q ens) τ Q
 at_:∀(j i:Nat),Q[j]?=some i->∃(o:Oper) (e:Nat×AV×List (Nat×Obj)),ops[i]?=some o/\ens[j]?=some e/\Am ops i=some e.1/\OL Q ens i=⟨true,e.2.1,e.2.2⟩/\A07 tb ops τ (OL Q ens) (Q.take j).reverse i o
theorem A09 {tb:Tb} {ops:List Oper} {anc:List (List Nat)} {L Q:List Nat} {ens:EN} {τ:St} (d:QOk ops anc L Q) (h:A71 tb ops Q ens τ):Fr tb ops anc L Q ens τ:=by
 obtain⟨vc,h1,p,q⟩:=h;have u:=λ(j i:Nat) (e:Nat×AV×List (Nat×Obj))=>iY (ens:=ens) d.nodup j i e;obtain⟨t,hf⟩:=Xb (en:=OL Q ens) (pre:=[]) h1 p (λts=>rfl) u;have k:∀i∈Q,∃(j:Nat) (e:Nat×AV×List (Nat×Obj)),Q[j]?=some i/\ens[j]?=some e/\OL Q ens i=⟨true,e.2.1,e.2.2⟩:=by
  intro i hi;obtain⟨j,c⟩:=AAW.1 hi;grind
 refine⟨d,t,⟨d.slot,λi hi n o hn=>?_,λi hi j c n o x f g=>?_⟩,λj i c=>?_⟩
 ·grind [RB]
 ·obtain⟨a,e,ha,r,v⟩:=k i hi;obtain⟨b,m,l,s,w⟩:=k j c;rw[v]at f;rw[w]at g;have:=(RB q a e r n o f).2 b m x s g;subst this;rw[ha]at l;injection l
 ·grind
theorem vE {ops:List Oper} {en:Nat->En} {τ:St} {Q:List Nat} (h:Own ops en τ Q) {ts pre ex:List Nat} (hp:∀j∈pre,j∈Q) (e:∀j∈ex,j∈Q) (d:∀j∈pre,AY ((Am ops j).getD 0) ts=true->j∈ex) {n:Nat} {o:Obj} :
  lk n (B3 false ts τ.objs (ES ops en pre))=some o->lk n (Ar ops en τ ex).objs=some o:=by
 rw[lkO h e];induction pre with
 | nil =>
  simp only[ES,ACq,B3];intro hn;refine .inr ⟨λj b=>?_,hn⟩;cases a:lk n (en j).obs with
  | none=>rfl
  | some f=>have:=h.new j (e j b) n f a;rw[this]at hn;cases hn
 | cons i r c =>
  simp only[ES,AAn,B3];have c:=c (λj b=>hp j (by simp[b])) (λj b=>d j (by simp[b]));split
  ·rename_i g;intro hn;rw[A2]at hn;cases a:lk n (en i).obs with
   | some f =>
    rw[a]at hn;simp only[AD3]at hn;cases hn;exact .inl ⟨i,d i (by simp) (by simpa using g),a⟩
   | none =>
    rw[a]at hn;exact c (by simpa[ES] using hn)
  ·exact c
theorem M8 {p:Nat×Obj}:∀ {l:List (Nat×Obj)},p∈l->∃b,lk p.1 l=some b
 | (c,d) :: r,h=>by
  simp only[lk];by_cases a:p.1=c
  ·simp_all
  ·rw[At a];rcases By.1 h with rfl|h
   ·exact absurd rfl a
   ·exact M8 h
theorem iZ {c:Cx} (y:c.Ok) {ops:List Oper} {anc:List (List Nat)} {L Q:List Nat} {ens:EN} {τ:St} (hF:Fr c.tb ops anc L Q ens τ) {ex:List Nat} (h:∀i∈ex,i∈Q) {j i:Nat} {o:Oper} (m:Q[j]?=some i) (s:ops[i]?=some o) (ai:i∉ex)
  (ab:∀k∈anc.getD i [],k∈Q->k∈ex) (I:∀d,o.dst=some d->d<c.nt) {a:Act} {w:World} {next:Act->World->Prop} {Qe:Exit->Act->World->Prop} (hs:c.sat (Ar ops (OL Q ens) τ ex) a w)
  (hn:∀A w',c.sat (Ar ops (OL Q ens) τ (i :: ex)) A w'->next A w'):o.wpIn (FR c.r) 0 c.P a w next Qe:=by
 obtain⟨l,e,D,ae,aa,am,vc,T,W⟩:=hF.at_ j i m;rw[s]at D;cases D;obtain⟨_,an,E,_,_,al⟩:=hF.q.pos j i m;rw[s]at E;cases E;have z:∀k∈(Q.take j).reverse,k∈Q:=λk hk=>AAT (by simpa using hk);have S:Ops ⟨(Ar ops (OL Q ens) τ (Q.take j).reverse).env,B3 false (Ga o.op) τ.objs (ES ops (OL Q ens) (Q.take j).reverse)⟩ (Ar ops (OL Q ens) τ ex) o.op.operands.toList:=by
  intro x X v b;cases x with
  | tmp t =>
   simp only[Ah]at b ⊢;have ak:t∈Ga o.op:=AC2.2 ⟨_,X,rfl⟩;rw[lkE hF.own z]at b;rw[lkE hF.own h];rcases b with ⟨k,hk,af,ag⟩|⟨aj,b⟩
   ·grind
   ·grind
  | const ao=>exact b
  | global g=>exact b
  | func f=>exact b
 have R:ZC ⟨(Ar ops (OL Q ens) τ (Q.take j).reverse).env,B3 false (Ga o.op) τ.objs (ES ops (OL Q ens) (Q.take j).reverse)⟩ (Ar ops (OL Q ens) τ ex):=by
  intro n l hn;refine vE hF.own z h (λk hk ah=>?_) hn;obtain⟨Y,J⟩:=AAW.1 (z k hk);obtain⟨_,Z,_,_,ad,_⟩:=hF.at_ Y k J;grind [Aa]
 have U:=TJ R S T;have C:=AB2 m;have B:Be (OL Q ens i).obs (Ar ops (OL Q ens) τ ex)=true:=by
  simp only[Be,IN,ABa];intro p hp;obtain⟨l,F⟩:=M8 hp;cases N:lk p.1 (Ar ops (OL Q ens) τ ex).objs with
  | none=>rfl
  | some u =>
   rcases (lkO hF.own h p.1 u).1 N with ⟨k,hk,M⟩|⟨_,hu⟩
   ·have:=hF.own.name i C k (h k hk) p.1 l u F M;grind
   ·rw[hF.own.new i C p.1 l F]at hu;cases hu
 obtain⟨ρ,G⟩:=hs;refine mU (A3u y G) U W B λu ρ' w' V=>hn _ _ ?_;have H:Am ops i=o.dst:=by simp[Am,s]
 simp only[Ar,H];exact⟨ρ',G.add y.K y.O I B V⟩
end
section
open Go Go.RowKit
theorem MK:∀ {l l':List Nat},l.Nodup->(∀x∈l,x∈l')->l.length<=l'.length
 | [],_,_,_=>by simp
 | x :: l,l',hn,h=>by
  have b:=h x (by simp);have:=MK (l:=l) (l':=l'.erase x) (AAS.1 hn).2 (λy a=>by
   have:y≠x:=λe=>(AAS.1 hn).1 (e▸a);exact(ACP this).2 (h y (by simp[a])))
  grind
theorem JL (A:List Nat) (l:Nat) (a:List (List Nat×Nat)) (D:List Nat):qs ((A,l) :: a) D=A++qs a D:=by simp[qs]
structure A89 (ops:List Oper) (anc:List (List Nat)) (p0:Nat) (L:List Nat) (ps:List (List Nat×Nat)) (D:List Nat):Prop where
 all:∀i,i<p0->i∈L\/i∈qs ps D\/i∈ps.map (·.2)
 back:∀i,p0<=i->i<ops.length->∀j,j<i->j∈anc.getD i []
 L:∀i∈L,i<p0
 Q:∀i∈qs ps D,i<p0
 lo:∀p∈ps,p.2<p0
 p0:p0<=ops.length
theorem UZ {ops:List Oper} {anc:List (List Nat)} {p0:Nat} {L D:List Nat} (h:S3 ops anc p0 L [] D=true):QOk ops anc L D/\(∀i,i<p0->i∈L\/i∈D)/\L.length+D.length=p0/\p0<=ops.length/\(∀i∈L,i<p0)/\(∀i∈D,i<p0)/\(∀i,p0<=i->i<ops.length->∀j,j<i->j∈anc.getD i []):=by
 simp only[S3,As,IN,oR,AAz,IS,Aa]at h;grind [qOk]
theorem KD {ops:List Oper} {anc:List (List Nat)} {p0:Nat} {L D A:List Nat} {l:Nat} {b:List (List Nat×Nat)} (h:S3 ops anc p0 L ((A,l) :: b) D=true):QOk ops anc L (A++qs b D)/\(∃o,ops[l]?=some o/\o.guard=none/\(∀e∈EJ o,e∈L\/e∈A))/\(∀j∈A,j∈anc.getD l [])/\l∉L/\l∉A++qs b D/\(∀p∈b,l∈anc.getD p.2 [])/\S3 ops anc p0 (l :: (A++L)) b D=true:=by
 simp only[S3,As,IN,Aa]at h;obtain⟨⟨⟨h1,a⟩,m⟩,n⟩:=h;cases f:ops[l]? with
 | none=>rw[f]at a;cases a
 | some o =>
  rw[f]at a;simp only[As,IN,AAz,Aa,dO,ABa]at a;obtain⟨⟨⟨⟨g,i⟩,k⟩,c⟩,d⟩:=a;exact⟨qOk h1,⟨o,rfl,g,i⟩,k,λh=>(by rw[(Aa _ _).2 h]at c;cases c),λh=>(by rw[(Aa _ _).2 h]at d;cases d),m,n⟩
theorem Ua {ops:List Oper} {anc:List (List Nat)} {p0:Nat}:∀ {b:List (List Nat×Nat)} {L D:List Nat},S3 ops anc p0 L b D=true->A89 ops anc p0 L b D
 | [],L,D,h=>by
  obtain⟨_,h1,g,c,d,e,f⟩:=UZ h;refine⟨λi hi=>?_,f,d,by simpa[qs] using e,by simp,c⟩;grind [qs]
 | (A,l) :: b,L,D,h=>by
  obtain⟨_,_,_,_,_,_,h1⟩:=KD h;have a:=Ua h1;refine⟨λi hi=>?_,a.back,λi hi=>a.L i (by simp[hi]),λi hi=>?_,λp hp=>?_,a.p0⟩
  ·rcases a.all i hi with h|h|h
   ·grind [JL]
   ·grind [JL]
   ·grind
  ·rw[JL,OF]at hi;rcases hi with hi|hi
   ·exact a.L i (by simp[hi])
   ·exact a.Q i hi
  ·rcases By.1 hp with rfl|hp
   ·exact a.L l (by simp)
   ·exact a.lo p hp
theorem ZJ {ops:List Oper} {en:Nat->En} {τ:St}:∀ {Q:List Nat} {ens:EN} {pre:List Nat},ens.length=Q.length->(∀(j i:Nat) (e:Nat×AV×List (Nat×Obj)),Q[j]?=some i->ens[j]?=some e->Am ops i=some e.1/\en i=⟨true,e.2.1,e.2.2⟩) ->
  MJ ens (Ar ops en τ pre)=Ar ops en τ (Q.reverse++pre)
 | [],[],pre,_,_=>rfl
 | [],_ :: _,_,h,_=>by simp at h
 | _ :: _,[],_,h,_=>by simp at h
 | i :: Q,(d,v,obs) :: ens,pre,f,h=>by
  obtain⟨h1,a⟩:=h 0 i (d,v,obs) rfl rfl;have:(⟨(d,v) :: (Ar ops en τ pre).env,obs++(Ar ops en τ pre).objs⟩:St)=Ar ops en τ (i :: pre):=by simp[Ar,h1,a,St.add]
  simp only[MJ];rw[this,ZJ (by simpa using f) (λj k e b c=>h (j+1) k e (by simpa using b) (by simpa using c))];simp
section
variable {c:Cx} {ops:Array Oper} {anc:List (List Nat)} {p0:Nat} {Kf:St->Prop} {Qe:Exit->Act->World->Prop}
theorem A0a {a:List (List Nat×Nat)} {L D:List Nat} {ens:EN} {τ:St} (b:S3 ops.toList anc p0 L a D=true) (d:Mix c ops.toList Kf a D ens τ):Fr c.tb ops.toList anc L (qs a D) ens τ:=by
 cases a with
 | nil =>
  have:qs [] D=D:=rfl;rw[this];exact A09 (UZ b).1 d.1
 | cons p a =>
  obtain⟨A,l⟩:=p;rw[JL];exact A09 (KD b).1 d.1
theorem Xd (x:Xc ops anc) {a:List (List Nat×Nat)} {L D:List Nat} {ex:List Nat} {listed:Array Bool} (w:S3 ops.toList anc p0 L a D=true) (v:QOk ops.toList anc L (qs a D)) (u:∀i∈ex,i∈qs a D) (I:listed.size=ops.size)
  (H:∀i,i<ops.size->(listed.getD i true=true↔i∈L\/i∈ex)) (hf:¬(a=[]/\∀i∈qs a D,i∈ex)):∃i,i∈Region.ready .any ops listed:=by
 have C:∀e b,e<ops.size->listed.getD e b=listed.getD e true:=λe b c=>by grind
 have mk:∀i o,ops[i]?=some o->i∉L->i∉ex->(∀e∈EJ o,e∈L\/e∈ex)->i∈Region.ready .any ops listed:=by
  intro i o f h1 k E;have J:i<ops.size:=(AAA.1 f).1;rw[Dn];refine⟨?_,o,f,λe c=>?_⟩
  ·grind
  ·have F:=x.lt i o f e c;grind
 by_cases t:∀i∈qs a D,i∈ex
 ·cases a with
  | nil=>exact absurd ⟨rfl,t⟩ hf
  | cons p a =>
   obtain⟨A,l⟩:=p;rw[JL]at t u;obtain⟨_,⟨o,f,_,y⟩,_,h1,k,_,_⟩:=KD w;refine⟨l,mk l o (by simpa using f) h1 (λh=>k (u l h)) λe c=>?_⟩;rcases y e c with h|h
   ·exact .inl h
   ·grind
 ·have key:∀(n j:Nat),j<=n->(∃i,(qs a D)[j]?=some i/\i∉ex)->∃i,i∈Region.ready .any ops listed:=by
   intro n;induction n with
   | zero =>
    rintro j s ⟨i,hi,d⟩;have:j=0:=by omega
    subst this;obtain⟨m,o,q,_,r,_⟩:=v.pos 0 i hi;refine⟨i,mk i o (by simpa using q) m d λe c=>?_⟩;rcases r e c with h|h
    ·exact .inl h
    ·simp at h
   | succ n B =>
    rintro j s ⟨i,hi,d⟩;by_cases z:∃g,g<j/\∃i',(qs a D)[g]?=some i'/\i'∉ex
    ·obtain⟨g,h1,k⟩:=z;exact B g (by omega) k
    ·obtain⟨m,o,q,_,r,_⟩:=v.pos j i hi;refine⟨i,mk i o (by simpa using q) m d λe c=>?_⟩;rcases r e c with h|h
     ·exact .inl h
     ·right;obtain⟨g,G⟩:=AAW.1 h;grind
  have:∃i,i∈qs a D/\i∉ex:=by grind
  obtain⟨i,hi,d⟩:=this;obtain⟨j,s⟩:=AAW.1 hi;exact key j j (NO _) ⟨i,s,d⟩
theorem Xe (G:Xc ops anc) (hT:∀τ,Kf τ->∀a w,c.sat τ a w->wpListIn (FR c.r) 0 c.P ops Qe (ops.toList.drop p0) a w) {m:Nat} {L D:List Nat} {ens:EN} {τ:St} {ex:List Nat} {listed:Array Bool} {a:Act} {w:World}
  (C:S3 ops.toList anc p0 L [] D=true) (g:Mix c ops.toList Kf [] D ens τ) (M:(L++ex).Nodup) (b:∀i∈ex,i∈D) (W:m+L.length+ex.length=ops.size) (J:listed.size=ops.size) (I:∀i,i<ops.size->(listed.getD i true=true↔i∈L\/i∈ex))
  (hs:c.sat (Ar ops.toList (OL D ens) τ ex) a w) (d:∀i∈D,i∈ex):wpAnyIn (FR c.r) 0 c.P .any ops Qe m listed a w:=by
 obtain⟨q,h1,S,y,T,U,z⟩:=UZ C;have hF:=A09 q g.1;have V:ex.length=D.length:=ACr (MK (ABd.1 M).2.1 b) (MK q.nodup d);have K:m=(ops.toList.drop p0).length:=by grind
 have E:MJ ens τ=Ar ops.toList (OL D ens) τ D.reverse:=by
  have:=ZJ (ops:=ops.toList) (en:=OL D ens) (τ:=τ) (pre:=[]) hF.len (λj i e A B=>by
   obtain⟨o,R,_,f,u,x,_⟩:=hF.at_ j i A;rw[B]at f;cases f;exact⟨u,x⟩)
  simpa[Ar] using this
 have O:c.sat (MJ ens τ) a w:=by
  rw[E];have t:∀i∈D.reverse,i∈D:=λi hi=>by simpa using hi
  have l:∀i,i∈ex↔i∈D.reverse:=λi=>⟨λh=>by simpa using b i h,λh=>d i (by simpa using h)⟩;refine UR (λs=>AD6 λv=>?_) (λn=>AD6 λo=>?_) hs
  ·rw[lkE hF.own t,lkE hF.own b];simp only[l]
  ·rw[lkO hF.own t,lkO hF.own b];simp only[l]
 have:=RD (Q:=Qe) (F:=FR c.r) (P:=c.P) G (k:=p0) (λi o N hi j H=>z i hi (by have:=(AAA.1 N).1;simpa using this) j H) (rest:=ops.toList.drop p0) (p:=p0) (listed:=listed) (a:=a) (w:=w) rfl (NO _) (by simpa using y) J
  (λi hi=>by
   rw[I i hi];constructor
   ·grind
   ·intro h;rcases h1 i h with h|h
    ·exact .inl h
    ·exact .inr (d i h)) (hT _ g.2 a w O)
 rw[K];exact this
theorem A3B (ch:c.Ok) (bx:∀o∈ops.toList,HY c.nt o=true) (ab:Xc ops anc) (hT:∀τ,Kf τ->∀a w,c.sat τ a w->wpListIn (FR c.r) 0 c.P ops Qe (ops.toList.drop p0) a w) :
  ∀(m:Nat) (f:List (List Nat×Nat)) (L D:List Nat) (ens:EN) (τ:St) (ex:List Nat) (listed:Array Bool) (a:Act) (w:World),S3 ops.toList anc p0 L f D=true->Mix c ops.toList Kf f D ens τ->(L++ex).Nodup->(∀i∈ex,i∈qs f D) ->
   m+L.length+ex.length=ops.size->listed.size=ops.size->(∀i,i<ops.size->(listed.getD i true=true↔i∈L\/i∈ex))->(∀i o,ops[i]?=some o->(i∈L\/i∈ex)->∀e∈EJ o,e∈L\/e∈ex) ->
   c.sat (Ar ops.toList (OL (qs f D) ens) τ ex) a w->wpAnyIn (FR c.r) 0 c.P .any ops Qe m listed a w:=by
 intro m;induction m with
 | zero =>
  intro f L D ens τ ex listed a w C T H B ax U O ae hs;have hF:=A0a C T;by_cases hf:f=[]/\∀i∈qs f D,i∈ex
  ·obtain⟨rfl,aq⟩:=hf;exact Xe ab hT C T H B ax U O hs aq
  ·exfalso;obtain⟨i,hi⟩:=Xd ab C hF.q B U O hf;rw[Dn]at hi;obtain⟨h1,o,E,_⟩:=hi;have X:i<ops.size:=(AAA.1 E).1;have I:i∉L++ex:=λh=>by grind
   have N:=Ua C;have:=EW ops.size (i :: (L++ex)) (AAS.2 ⟨I,H⟩) (λj d=>by
    have hp:=N.p0;simp only[ACd]at hp;rcases By.1 d with rfl|d
    ·exact X
    ·rcases OF.1 d with d|d
     ·have:=N.L j d;omega
     ·have:=N.Q j (B j d);omega)
   grind
 | succ m bj =>
  intro f L D ens τ ex listed a w C T H B ax U O ae hs;have hF:=A0a C T;have N:=Ua C;have bn:∀e b,e<ops.size->listed.getD e b=listed.getD e true:=λe b F=>by grind
  by_cases hf:f=[]/\∀i∈qs f D,i∈ex
  ·obtain⟨rfl,aq⟩:=hf;exact Xe ab hT C T H B ax U O hs aq
  ·refine⟨λcv=>?_,λi hi=>?_⟩
   ·obtain⟨i,hi⟩:=Xd ab C hF.q B U O hf;grind
   ·rw[Dn]at hi;obtain⟨h1,o,E,cq⟩:=hi;have X:i<ops.size:=(AAA.1 E).1;have I:¬(i∈L\/i∈ex):=λh=>by rw[(O i X).2 h]at h1;cases h1
    have az:∀e∈EJ o,e∈L\/e∈ex:=λe F=>by grind
    have ad:∀j∈anc.getD i [],j∈L\/j∈ex:=by
     have ct:∀i o,ops[i]?=some o->listed.getD i true=true->∀e∈EJ o,listed.getD e false=true:=by
      intro i o E h1 e F;have X:i<ops.size:=(AAA.1 E).1;have Y:=ab.lt i o E e F;rw[bn e false (by omega)];exact(O e (by omega)).2 (ae i o E ((O i X).1 h1) e F)
     grind [SR]
    have ag:ops.toList[i]?=some o:=by simpa using E
    have cf:o∈ops.toList:=AB2 ag;have bw:=Bb (bx o cf);have bd:∀(S:List Nat),(∀j,j∈S↔j=i\/j∈L\/j∈ex)->∀j,j<ops.size->((listed.setIfInBounds i true).getD j true=true↔j∈S):=by
     intro S bu j d;have cd:j<listed.size:=by omega
     rw[bu];by_cases aw:j=i
     ·subst aw;simp[Array.getD,cd]
     ·have Y:(listed.setIfInBounds i true).getD j true=listed.getD j true:=getD_set_ne true (λe=>aw e.symm);rw[Y,O j d];simp[aw]
    have bi:∀ {g:Option (Nat×Bool)},g=none->o.guard=g->Region.wanted o (yielded ops a.tmps)=true:=by
     intro g au e;simp[Region.wanted,e,au]
    by_cases af:i∈qs f D
    ·obtain⟨j,d⟩:=AAW.1 af;obtain⟨_,cy,be,au,_,_⟩:=hF.q.pos j i d;rw[ag]at be;cases be;unfold wpOpIn;rw[E];simp only;rw[BY (bi rfl au)];refine iZ ch hF B d ag (λh=>I (.inr h)) (λk hk ce=>?_) bw hs λak w' ci=>?_
     ·rcases ad k hk with h|h
      ·obtain⟨u,R⟩:=AAW.1 ce;exact absurd h (hF.q.pos u k R).1
      ·exact h
     ·refine bj f L D ens τ (i :: ex) _ ak w' C T ?_ (λk hk=>?_) (by simp only[OS];omega) (by simpa using U) (λk hk=>?_) (λi' W G av e F=>?_) ci
      ·rw[ABd]at H ⊢;refine⟨H.1,AAS.2 ⟨λh=>I (.inr h),H.2.1⟩,λx t y V=>?_⟩;rcases By.1 V with rfl|V
       ·exact λe=>I (.inl (e▸t))
       ·exact H.2.2 x t y V
      ·rcases By.1 hk with rfl|hk
       ·exact af
       ·exact B k hk
      ·rw[bd (i :: (L++ex)) (λj=>by simp) k hk];simp only[By,OF];constructor
       ·rintro (h|h|h)
        ·exact .inr (.inl h)
        ·exact .inl h
        ·exact .inr (.inr h)
       ·rintro (h|h|h)
        ·exact .inr (.inl h)
        ·exact .inl h
        ·exact .inr (.inr h)
      ·have:e∈L\/e∈ex:=by
        rcases av with h|h
        ·exact ae i' W G (.inl h) e F
        ·rcases By.1 h with rfl|h
         ·rw[E]at G;cases G;exact az e F
         ·exact ae i' W G (.inr h) e F
       rcases this with h|h
       ·exact .inl h
       ·exact .inr (by simp[h])
    · -- no operation of the front
     have cw:¬p0<=i:=by
      intro ca;have ay:=N.back i ca (by simpa using X);cases f with
      | nil =>
       refine hf ⟨rfl,λj d=>?_⟩;have Y:=N.Q j d;rcases ad j (ay j (by omega)) with h|h
       ·obtain⟨u,R⟩:=AAW.1 d;exact absurd h (hF.q.pos u j R).1
       ·exact h
      | cons p f =>
       obtain⟨A,l⟩:=p;obtain⟨_,_,_,am,an,_,_⟩:=KD C;have Y:=N.lo (A,l) (by simp);simp only at Y;rcases ad l (ay l (by omega)) with h|h
       ·exact am h
       ·exact an (by rw[<-JL A l];exact B l h)
     cases f with
     | nil =>
      rcases N.all i (by omega) with h|h|h
      ·exact absurd (.inl h) I
      ·exact absurd h af
      ·cases h
     | cons p f =>
      obtain⟨A,l⟩:=p;obtain⟨_,⟨ol,bf,cb,cu⟩,bq,am,an,bo,br⟩:=KD C;have cc:i=l:=by
       rcases N.all i (by omega) with h|h|h
       ·exact absurd (.inl h) I
       ·exact absurd h af
       ·simp only[AAn,By,Do]at h;rcases h with h|⟨p,hp,rfl⟩
        ·exact h
        ·rcases ad l (bo p hp) with h|h
         ·exact absurd h am
         ·exact absurd (B l h) (by rw[JL];exact an)
      subst cc;rw[ag]at bf;cases bf;rw[JL]at hF B hs af;obtain⟨cs,W,G,bs⟩:=T;rw[ag]at G;cases G;have Z:∀j∈A,j∈ex:=λj d=>by
       rcases ad j (bq j d) with h|h
       ·obtain⟨u,R⟩:=AAW.1 (show j∈A++qs f D by simp[d]);exact absurd h (hF.q.pos u j R).1
       ·exact h
      have ao:A.Nodup/\(qs f D).Nodup/\∀x∈A,∀y∈qs f D,x≠y:=ABd.1 hF.q.nodup;have bv:MJ (ens.take A.length) τ=Ar ops.toList (OL (A++qs f D) ens) τ A.reverse:=by
       have:=ZJ (ops:=ops.toList) (en:=OL (A++qs f D) ens) (τ:=τ) (pre:=[]) (Q:=A) (ens:=ens.take A.length) (by have:=hF.len;simp only[GO]at this;simp only[ON];omega) (λj i e M z=>by
        have bc:j<A.length:=(bY.1 M).1;obtain⟨o,cp,_,J,K,al,_⟩:=hF.at_ j i (by rw[AAo bc];exact M);rw[AAy,BY bc,J]at z;cases z;exact⟨K,al⟩)
       simpa[Ar] using this
      have bh:=vD (A:=A.reverse) hF.own B (λj d=>Z j (by simpa using d));rw[<-bv]at bh;have aj:∀j,j∈ex.filter (λj=>!AY j A.reverse)↔j∈ex/\j∉A:=λj=>by
       rw[AAC];have:=Aa j A.reverse;constructor
       ·rintro⟨M,z⟩;exact⟨M,λJ=>by rw[this.2 (by simpa using J)]at z;cases z⟩
       ·rintro⟨M,z⟩;refine⟨M,?_⟩;cases cg:AY j A.reverse with
        | false=>rfl
        | true=>exact absurd (by simpa using this.1 cg) z
      have aa:∀j∈ex.filter (λj=>!AY j A.reverse),j∈qs f D:=λj d=>by
       have:=B j ((aj j).1 d).1;rcases OF.1 this with h|h
       ·exact absurd h ((aj j).1 d).2
       ·exact h
      have ar:∀j∈qs f D,∃(u:Nat) (e:Nat×AV×List (Nat×Obj)),(qs f D)[u]?=some j/\(ens.drop A.length)[u]?=some e/\Am ops.toList j=some e.1/\OL (A++qs f D) ens j=⟨true,e.2.1,e.2.2⟩:=by
       intro j d;obtain⟨u,R⟩:=AAW.1 d;obtain⟨o,e,_,J,K,al,_⟩:=hF.at_ (A.length+u) j (by rw[AAl (by omega),ACs];exact R);exact⟨u,e,R,by rw[AAZ];exact J,K,al⟩
      have bg:Own ops.toList (OL (A++qs f D) ens) ⟨[],[]⟩ (A++qs f D):=⟨hF.own.slot,λ_ _ _ _ _=>rfl,hF.own.name⟩;have ba:∀j∈ex.filter (λj=>!AY j A.reverse),j∈A++qs f D:=λj d=>by simp[aa j d]
      unfold wpOpIn;rw[E];simp only;rw[BY (bi rfl cb)];refine bs _ _ bh ⟨λs v ah=>?_,λn W hn=>?_⟩ a w _ _ hs λbm bt ak w' cz bb cj=>?_
      ·rcases (lkE bg ba s v).1 ah with ⟨j,d,ai,rfl⟩|⟨_,ah⟩
       ·obtain⟨u,e,_,z,J,K⟩:=ar j (aa j d);rw[ai]at J;cases J;rw[K];exact⟨e.2.2,AB2 z⟩
       ·cases ah
      ·rcases (lkO bg ba n W).1 hn with ⟨j,d,ai⟩|⟨_,ah⟩
       ·obtain⟨u,e,_,z,J,K⟩:=ar j (aa j d);rw[K]at ai;exact⟨e,AB2 z,F3 ai⟩
       ·cases ah
      ·have cr:ex.length=A.length+(ex.filter (λj=>!AY j A.reverse)).length:=by
        have ck:∀l:List Nat,l.length=(l.filter (λj=>AY j A.reverse)).length+(l.filter (λj=>!AY j A.reverse)).length:=by
         intro l;induction l with
         | nil=>rfl
         | cons x r cx =>
          simp only[AAE,OS];cases AY x A.reverse<;>simp<;>omega
        rw[ck ex];have bz:=(ABd.1 H).2.1;have M:(ex.filter (λj=>AY j A.reverse)).length<=A.length:=MK (bz.filter _) λx t=>by
         have:=(Aa _ _).1 (AAC.1 t).2;simpa using this
        have z:A.length<=(ex.filter (λj=>AY j A.reverse)).length:=MK ao.1 λx t=>AAC.2 ⟨Z x t,(Aa _ _).2 (by simpa using t)⟩;omega
       have ap:∀x,(x∈i :: (A++L)\/x∈ex.filter (λj=>!AY j A.reverse))↔x=i\/x∈L\/x∈ex:=by
        intro x;rw[aj];simp only[By,OF];constructor
        ·rintro ((h|h|h)|h)
         ·exact .inl h
         ·exact .inr (.inr (Z x h))
         ·exact .inr (.inl h)
         ·exact .inr (.inr h.1)
        ·rintro (h|h|h)
         ·exact .inl (.inl h)
         ·exact .inl (.inr (.inr h))
         ·by_cases t:x∈A
          ·exact .inl (.inr (.inl t))
          ·exact .inr ⟨h,t⟩
       refine bj f (i :: (A++L)) D (ens.drop A.length) bm (ex.filter λj=>!AY j A.reverse) _ ak w' br bt ?_ aa (by simp only[OS,GO];omega) (by simpa using U) (λk hk=>?_) (λi' W G av e F=>?_) ?_
       ·obtain⟨n1,cn,bk⟩:=ABd.1 H;have bp:∀x∈A,x∉L:=λx t cl=>bk x cl x (Z x t) rfl;rw[ABd];refine⟨AAS.2 ⟨λh=>?_,ABd.2 ⟨ao.1,n1,λx t y V e=>bp x t (e▸V)⟩⟩,cn.filter _,λx t y V e=>?_⟩
        ·rcases OF.1 h with h|h
         ·exact I (.inr (Z i h))
         ·exact I (.inl h)
        ·subst e;obtain⟨bl,co⟩:=(aj x).1 V;rcases By.1 t with rfl|t
         ·exact I (.inr bl)
         ·rcases OF.1 t with t|t
          ·exact co t
          ·exact bk x t x bl rfl
       ·rw[ap k,bd (i :: (L++ex)) (λj=>by simp) k hk];simp
       ·rw[ap];have:e∈L\/e∈ex:=by
         rcases (ap i').1 av with rfl|h
         ·rw[E]at G;cases G;exact az e F
         ·exact ae i' W G h e F
        exact .inr this
       ·have cm:∀j∈ex.filter (λj=>!AY j A.reverse),OL (qs f D) (ens.drop A.length) j=OL (A++qs f D) ens j:=λj d=>by
         obtain⟨u,e,M,z,_,K⟩:=ar j (aa j d);rw[K];exact iY ao.2.1 u j e M z
        have t:=A04 (ops:=ops.toList) (en:=OL (qs f D) (ens.drop A.length)) (τ:=bm) (ex.filter λj=>!AY j A.reverse);rw[K2 (en:=OL (A++qs f D) ens) (σ0:=⟨[],[]⟩) cm]at t;exact UR (λs=>by rw[t.env,bb.env]) (λn=>by rw[t.objs,bb.objs]) cj
end
section
variable {c:Cx} {R:Exit->Act->World->Prop} {k:List Dl} {σ:St}
theorem B4 (j:c.P.follows .mixedOrders=true) (g:c.Ok) {id:Nat} {l:List Oper} (p0:Nat) (d:List (List Nat×Nat)) (D:List Nat) (b:(A72 l (z2 l)&&S3 l (z2 l) p0 [] d D)=true) {ens:EN}
  (h:Mix c l (fun τ=>HZ c R k l.toArray (l.drop p0) τ) d D ens σ):Ev c R (.run (.region id l.toArray true)) k σ:=by
 intro h1 e a w hs;simp only[JE,Bx,IN]at h1;simp only[As]at b;refine wpIn_region_any j ?_;have hk:∀τ,HZ c R k l.toArray (l.drop p0) τ->∀a w,c.sat τ a w->wpListIn (FR c.r) 0 c.P l.toArray (UJ c R k) (l.toArray.toList.drop p0) a w:=fun τ f a w hs=>f (λo m=>h1 o (by simpa using ABS m)) e a w hs;exact A3B (ops:=l.toArray) (anc:=z2 l) g (by simpa using h1) (A88 (by simpa using b.1)) hk l.toArray.size d [] D ens σ [] (Array.replicate l.toArray.size false) a { w with drawn:=w.drawn+1 } (by simpa using b.2) (by simpa using h) (by simp) (by simp) (by simp) (by simp) (λi hi=>by simp at hi;simp[Array.getD,hi]) (λi o _ hi=>by simp at hi) (bQ hs)
end
end
section
open Go Go.RowKit
section
variable {n:Nat} {ns:List Nat}
theorem Gb {m:Nat} (hn:n∈ns) (h:¬AY m ns=true):¬m=n:=λe=>h ((Aa _ _).2 (e▸hn))
mutual
theorem Ub (hn:n∈ns) {e:Ty} {xs:List e.den}:∀(x:AV),x.fgt ns=x->x.frz n e xs=x
 | .sr m e' lo hi,h=>by grind [AV.fgt,AV.frz,Gb]
 | .ep m e' i path off,h=>by grind [AV.fgt,AV.frz,Gb]
 | .nin m e' i len,h=>by grind [AV.fgt,AV.frz,Gb]
 | .ag l,h=>by
  simp only[AV.fgt,AV.ag.injEq]at h
  simp only[AV.frz,frzs_of_fgt hn l h]
 | .tup l,h=>by
  simp only[AV.fgt,AV.tup.injEq]at h
  simp only[AV.frz,frzs_of_fgt hn l h]
 | .p _ _,_=>rfl
 | .pc _ _,_=>rfl
 | .raw _,_=>rfl
 | .ip _ _,_=>rfl
 | .bp _ _ _,_=>rfl
 | .fn _,_=>rfl
 | .clo _ _,_=>rfl
 | .mp _,_=>rfl
 | .yl _,_=>rfl
 | .top,_=>rfl
theorem frzs_of_fgt (hn:n∈ns) {e:Ty} {xs:List e.den}:∀(l:List AV),AV.fgts ns l=l->AV.frzs n e xs l=l
 | [],_=>rfl
 | x :: r,h=>by
  simp only[AV.fgts,ABW]at h
  simp only[AV.frzs,Ub hn x h.1,frzs_of_fgt hn r h.2]
end
mutual
theorem Uc (hn:n∈ns):∀(x:AV),x.fgt ns=x->x.drp n=x
 | .sr m e' lo hi,h=>by grind [AV.fgt,AV.drp,Gb]
 | .ep m e' i path off,h=>by grind [AV.fgt,AV.drp,Gb]
 | .nin m e' i len,h=>by grind [AV.fgt,AV.drp,Gb]
 | .ag l,h=>by
  simp only[AV.fgt,AV.ag.injEq]at h
  simp only[AV.drp,drps_of_fgt hn l h]
 | .tup l,h=>by
  simp only[AV.fgt,AV.tup.injEq]at h
  simp only[AV.drp,drps_of_fgt hn l h]
 | .p _ _,_=>rfl
 | .pc _ _,_=>rfl
 | .raw _,_=>rfl
 | .ip _ _,_=>rfl
 | .bp _ _ _,_=>rfl
 | .fn _,_=>rfl
 | .clo _ _,_=>rfl
 | .mp _,_=>rfl
 | .yl _,_=>rfl
 | .top,_=>rfl
theorem drps_of_fgt (hn:n∈ns):∀(l:List AV),AV.fgts ns l=l->AV.drps n l=l
 | [],_=>rfl
 | x :: r,h=>by
  simp only[AV.fgts,ABW]at h
  simp only[AV.drps,Uc hn x h.1,drps_of_fgt hn r h.2]
end
end
section
variable {n:Nat} {ns tl:List Nat}
theorem EK (a:∀n,n∈tl->n∈ns) {m:Nat} (h:¬AY m ns=true):¬AY m tl=true:=λh1=>h ((Aa _ _).2 (a _ ((Aa _ _).1 h1)))
theorem nG (a:∀n,n∈tl->n∈ns) {l:List Nat} (h:¬(l.any λm=>AY m ns)=true):¬(l.any λm=>AY m tl)=true:=λh1=>by grind [Aa]
mutual
theorem Ud (htl:∀n,n∈tl->n∈ns):∀(x:AV),x.fgt ns=x->x.fgt tl=x
 | .sr m e' lo hi,h=>by grind [AV.fgt,EK]
 | .ep m e' i path off,h=>by grind [AV.fgt,EK]
 | .nin m e' i len,h=>by grind [AV.fgt,EK]
 | .bp m path off,h=>by grind [AV.fgt,EK]
 | .mp m,h=>by grind [AV.fgt,EK]
 | .yl m,h=>by grind [AV.fgt,EK]
 | .clo f cs,h=>by
  simp only[AV.fgt]at h
  split at h
  ·cases h
  ·rename_i hm;simp only[AV.fgt,At (nG htl hm)]
 | .ag l,h=>by
  simp only[AV.fgt,AV.ag.injEq]at h
  simp only[AV.fgt,fgts_of_fgt htl l h]
 | .tup l,h=>by
  simp only[AV.fgt,AV.tup.injEq]at h
  simp only[AV.fgt,fgts_of_fgt htl l h]
 | .p _ _,_=>rfl
 | .pc _ _,_=>rfl
 | .raw _,_=>rfl
 | .ip _ _,_=>rfl
 | .fn _,_=>rfl
 | .top,_=>rfl
theorem fgts_of_fgt (htl:∀n,n∈tl->n∈ns):∀(l:List AV),AV.fgts ns l=l->AV.fgts tl l=l
 | [],_=>rfl
 | x :: r,h=>by
  simp only[AV.fgts,ABW]at h
  simp only[AV.fgts,Ud htl x h.1,fgts_of_fgt htl r h.2]
end
mutual
theorem Ue (hn:n∈ns) (htl:∀n,n∈tl->n∈ns):∀(x:AV),x.fgt ns=x->x.trn n tl=x
 | .sr m e' lo hi,h=>by grind [AV.fgt,AV.trn,EK]
 | .ep m e' i path off,h=>by grind [AV.fgt,AV.trn,EK]
 | .nin m e' i len,h=>by grind [AV.fgt,AV.trn,Gb,EK]
 | .bp m path off,h=>by grind [AV.fgt,AV.trn,EK]
 | .mp m,h=>by grind [AV.fgt,AV.trn,EK]
 | .yl m,h=>by grind [AV.fgt,AV.trn,EK]
 | .clo f cs,h=>by
  simp only[AV.fgt]at h
  split at h
  ·cases h
  ·rename_i hm;simp only[AV.trn,At (nG htl hm)]
 | .ag l,h=>by
  simp only[AV.fgt,AV.ag.injEq]at h
  simp only[AV.trn,trns_of_fgt hn htl l h]
 | .tup l,h=>by
  simp only[AV.fgt,AV.tup.injEq]at h
  simp only[AV.trn,trns_of_fgt hn htl l h]
 | .p _ _,_=>rfl
 | .pc _ _,_=>rfl
 | .raw _,_=>rfl
 | .ip _ _,_=>rfl
 | .fn _,_=>rfl
 | .top,_=>rfl
theorem trns_of_fgt (hn:n∈ns) (htl:∀n,n∈tl->n∈ns):∀(l:List AV),AV.fgts ns l=l->AV.trns n tl l=l
 | [],_=>rfl
 | x :: r,h=>by
  simp only[AV.fgts,ABW]at h
  simp only[AV.trns,Ue hn htl x h.1,trns_of_fgt hn htl r h.2]
end
end
def K5:AV->Bool
 | .raw _=>true
 | .p _ _=>true
 | _=>false
def K6:Obj->Bool
 | .arr _ _ _=>true
 | .box _ _ fs=>fs.all K5
 | _=>false
theorem Uf {n:Nat} {e:Ty} {xs:List e.den}:∀fs:List AV,fs.all K5=true->AV.frzs n e xs fs=fs
 | [],_=>rfl
 | x :: r,h=>by
  rw[ABH,As]at h;simp only[AV.frzs,Uf r h.2];cases x<;>first|rfl|(have:=h.1;simp[K5]at this)
theorem Ug {n:Nat}:∀fs:List AV,fs.all K5=true->AV.drps n fs=fs
 | [],_=>rfl
 | x :: r,h=>by
  rw[ABH,As]at h;simp only[AV.drps,Ug r h.2];cases x<;>first|rfl|(have:=h.1;simp[K5]at this)
theorem vF {n:Nat} {e:Ty} {xs:List e.den} {o:Obj} (h:K6 o=true):Obj.frz n e xs o=o:=by
 cases o with
 | box et st fs=>simp only[Obj.frz,Uf fs h]
 | arr et a ys=>rfl
 | _=>cases h
theorem vG {n:Nat} {o:Obj} (h:K6 o=true):Obj.drp n o=o:=by
 cases o with
 | box et st fs=>simp only[Obj.drp,Ug fs h]
 | arr et a ys=>rfl
 | _=>cases h
theorem Uh {hs:List Nat}:∀fs:List AV,fs.all K5=true->AV.fgts hs fs=fs
 | [],_=>rfl
 | x :: r,h=>by
  rw[ABH,As]at h;simp only[AV.fgts,Uh r h.2];cases x<;>first|rfl|(have:=h.1;simp[K5]at this)
theorem RE {hs:List Nat} {o:Obj} (h:K6 o=true):Obj.fgt hs o=o:=by
 cases o with
 | box et st fs=>simp only[Obj.fgt,Uh fs h]
 | arr et a ys=>rfl
 | _=>cases h
theorem Ui {n:Nat} {hs:List Nat}:∀fs:List AV,fs.all K5=true->AV.trns n hs fs=fs
 | [],_=>rfl
 | x :: r,h=>by
  rw[ABH,As]at h;simp only[AV.trns,Ui r h.2];cases x<;>first|rfl|(have:=h.1;simp[K5]at this)
theorem Xf {n:Nat} {hs:List Nat} {o:Obj} (h:K6 o=true):Obj.trn n hs o=o:=by
 cases o with
 | box et st fs=>simp only[Obj.trn,Ui fs h]
 | arr et a ys=>rfl
 | _=>cases h
structure ID (X σ:St) (ns:List Nat):Prop where
 env:∀s v,lk s X.env=some v->v.fgt ns=v
 arr:∀n o,lk n X.objs=some o->K6 o=true
 new:∀n o,lk n X.objs=some o->lk n σ.objs=none
 nm:∀n o,lk n X.objs=some o->n∉ns
section
variable {σ σ' X:St} {ns:List Nat}
theorem NX.lkn (b:NX σ σ' X) (ha:ID X σ ns) {n:Nat} (hn:n∈ns):lk n σ'.objs=lk n σ.objs:=by
 rw[b.objs];cases a:lk n X.objs with
 | none=>rfl
 | some o=>exact absurd hn (ha.nm n o a)
theorem NX.obs (b:NX σ σ' X) (ha:ID X σ ns):ZC σ σ':=by
 intro n o hn;rw[b.objs];cases a:lk n X.objs with
 | none=>exact hn
 | some c=>rw[ha.new n c a]at hn;cases hn
theorem A3C {n:Nat} (c:NX σ σ' X) (ha:ID X σ ns) (hn:n∈ns):NX (frz n σ) (frz n σ') X/\ID X (frz n σ) ns:=by
 unfold frz;split
 ·exact⟨c,ha⟩
 have core:∀(e:Ty) (xs:List e.den),NX ⟨DX n e xs σ.env,BB n e xs (del n σ.objs)⟩ ⟨DX n e xs σ'.env,BB n e xs (del n σ'.objs)⟩ X/\ID X ⟨DX n e xs σ.env,BB n e xs (del n σ.objs)⟩ ns:=by
  intro e xs;refine⟨⟨λs=>?_,λm=>?_⟩,ha.env,ha.arr,λm o b=>?_,ha.nm⟩
  ·simp only[Mx,c.env];cases a:lk s X.env with
   | none=>rfl
   | some v=>simp[Ub hn v (ha.env s v a)]
  ·simp only[Ca,Qw];by_cases b:m=n
   ·subst b;cases a:lk m X.objs with
    | none=>simp
    | some o=>exact absurd hn (ha.nm m o a)
   ·simp only[At b,c.objs];cases a:lk m X.objs with
    | none=>rfl
    | some o=>exact ABr some (vF (ha.arr m o a))
  ·simp only[Ca,Qw];split
   ·rfl
   ·rw[ha.new m o b];rfl
 rw[c.lkn ha hn];unfold gX;grind
theorem Uj:∀ {l:List Nat} {σ σ':St},NX σ σ' X->ID X σ ns->(∀n∈l,n∈ns)->NX (Cr l σ) (Cr l σ') X/\ID X (Cr l σ) ns
 | [],_,_,a,ha,_=>⟨a,ha⟩
 | n :: l,σ,σ',a,ha,h=>by
  obtain⟨h1,b⟩:=A3C a ha (h n (by simp));have:=Uj (l:=l) h1 b λm c=>h m (by simp[c]);exact this
def i3 (σ σ':St) (xs:List Operand):Prop:=∀x∈xs,Ah σ' x=Ah σ x
theorem Pj (b:NX σ σ' X) {xs:List Operand} (h:∀t∈xs.filterMap Ni,lk t X.env=none):i3 σ σ' xs:=by
 intro x a;cases x with
 | tmp t =>
  simp only[Ah,b.env];rw[h t (AC2.2 ⟨_,a,rfl⟩)];rfl
 | const v=>rfl
 | global g=>rfl
 | func f=>rfl
theorem ML:∀ {l:List (Nat×Operand)},i3 σ σ' (l.map (·.2))->DY σ' l=DY σ l
 | [],_=>rfl
 | (i,x) :: r,h=>by
  simp only[DY];rw[h x (by simp),ML (λy a=>h y (by simp only[AAn,By];exact .inr a))]
theorem Pk:∀ {l:List (Nat×Operand)},i3 σ σ' (l.map (·.2))->FF σ' l=FF σ l
 | [],_=>rfl
 | (i,x) :: r,h=>by
  simp only[FF];rw[h x (by simp),Pk (λy a=>h y (by simp only[AAn,By];exact .inr a))]
theorem i4 (b:NX σ σ' X) (ha:ID X σ ns) (n:Nat):Cq (lk n σ'.objs)=Cq (lk n σ.objs):=by
 rw[b.objs];cases a:lk n X.objs with
 | none=>rfl
 | some o =>
  rw[ha.new n o a];have:=ha.arr n o a;cases o<;>first|rfl|cases this
theorem b8 (a:NX σ σ' X) (ha:ID X σ ns) {op:Op} (h:i3 σ σ' op.operands.toList):CO σ' op=CO σ op:=by
 cases op<;>simp only[CO];case buildSlice t n parts =>
  exact ML (λx a=>h x (by simpa[Op.operands] using a))
 case build t parts =>
  exact Pk (λx a=>h x (by simpa[Op.operands] using a))
 case store t x y =>
  rw[h x (by simp[Op.operands]),h y (by simp[Op.operands])];unfold CZ;split
  ·rw[i4 a ha]
  ·rfl
 case mapUpdate t m x y =>
  rw[h m (by simp[Op.operands]),h x (by simp[Op.operands]),h y (by simp[Op.operands])]
def KE (σ:St):Option AV->Option AV->List Nat
 | some (.sr n _ _ _),some (.sr m _ _ _)=>if Cq (lk n σ.objs)=true then [n,m] else [n]
 | some (.sr n _ _ _),_=>[n]
 | some (.nin n _ _ _),_=>[n]
 | some (.raw _),some (.sr m _ _ _)=>if Cq (lk m σ.objs)=true then [m] else []
 | _,_=>[]
def b9 (σ:St):Option AV->Option AV->List Nat
 | some (.ep n _ _ _ _),some (.sr m _ _ _)=>if Cq (lk n σ.objs)=true then [n,m] else []
 | _,_=>[]
def ZK (σ:St):Op->List Nat
 | .call c=>match c.callee,c.args.toList with
  | .builtin .append,[x,y]=>KE σ (Ah σ x) (Ah σ y)
  | _,_=>[]
 | .store _ x y=>b9 σ (Ah σ x) (Ah σ y)
 | _=>[]
theorem A0b {n:Nat} {e:Ty} {lo hi:Nat} {v:AV}:n∈KE σ (some (.sr n e lo hi)) (some v):=by
 cases v<;>first|(simp[KE];done)|(simp only[KE];split<;>simp)
theorem nH (f:NX σ σ' X) (ha:ID X σ ns) {tl:List Nat} (e:∀n,n∈tl->n∈ns) {d b:Nat} {v:AV} {g:Obj} (i:lk d X.env=none) (j:lk b X.objs=none) :
  NX ⟨(d,v) :: Ba tl σ.env,(b,g) :: Al tl tl σ.objs⟩ ⟨(d,v) :: Ba tl σ'.env,(b,g) :: Al tl tl σ'.objs⟩ X:=by
 refine⟨λs=>?_,λm=>?_⟩
 ·simp only[lk];by_cases hs:s=d
  ·grind
  ·rw[At hs,At hs,DK,DK,f.env];cases a:lk s X.env with
   | none=>rfl
   | some w=>simp[Ud e w (ha.env s w a)]
 ·simp only[lk];by_cases c:m=b
  ·grind
  ·rw[At c,At c,BS,BS,f.objs];cases a:lk m X.objs with
   | none=>rfl
   | some w =>
    rw[At λh=>ha.nm m w a (e _ ((Aa _ _).1 h))];exact ABr some (RE (ha.arr m w a))
theorem nI (c:NX σ σ' X) (ha:ID X σ ns) {n:Nat} {tl:List Nat} (hn:n∈ns) (b:∀n,n∈tl->n∈ns) {en:List (Nat×AV)} {new:List (Nat×Obj)} (d:∀s v,lk s en=some v->lk s X.env=none) (f:∀m o,lk m new=some o->lk m X.objs=none) :
  NX ⟨en++EY n tl σ.env,new++Cj n tl σ.objs⟩ ⟨en++EY n tl σ'.env,new++Cj n tl σ'.objs⟩ X:=by
 refine⟨λs=>?_,λm=>?_⟩
 ·simp only[A2];cases hs:lk s en with
  | some v=>rw[d s v hs];rfl
  | none =>
   rw[Ff,Ff,c.env];cases a:lk s X.env with
   | none=>rfl
   | some w=>simp[Ue hn b w (ha.env s w a)]
 ·simp only[A2];cases e:lk m new with
  | some o=>rw[f m o e];rfl
  | none =>
   rw[Da,Da,c.objs];cases a:lk m X.objs with
   | none=>rfl
   | some w =>
    rw[At λh=>ha.nm m w a (by
     rcases By.1 ((Aa _ _).1 h) with rfl|h
     ·exact hn
     ·exact b _ h)]
    exact ABr some (Xf (ha.arr m w a))
theorem ZL {n:Nat} {o d:Obj} (c:NX σ σ' X) (ha:ID X σ ns) (hn:lk n σ.objs=some o) {env b:List (Nat×AV)} (f:∀s,lk s b=(lk s X.env).or (lk s env)):NX ⟨env,upd n d σ.objs⟩ ⟨b,upd n d σ'.objs⟩ X:=by
 refine⟨f,λm=>?_⟩;simp only[GV];have e:lk n X.objs=none:=by
  cases h:lk n X.objs with
  | none=>rfl
  | some u=>rw[ha.new n u h]at hn;cases hn
 by_cases a:m=n
 ·subst a;rw[BY rfl,BY rfl,c.objs,e];rfl
 ·rw[At a,At a,c.objs]
theorem NX.some_lk (a:NX σ σ' X) (ha:ID X σ ns) {n:Nat} {o:Obj} (h:lk n σ.objs=some o):lk n σ'.objs=some o:=a.obs ha n o h
theorem vH {tb:Tb} {op:Op} {d:Option Nat} {vc:Prop} {τ:St} (a:NX σ σ' X) (ha:ID X σ ns) (K:i3 σ σ' op.operands.toList) (A:∀n∈ZK σ op,n∈ns) (U:∀t,d=some t->lk t X.env=none) (T:∀n,(∃u,lk n τ.objs=some u)->lk n X.objs=none) (h:Fa tb σ d op=some (vc,τ)) :
  (∃ak,Fa tb σ' d op=some (vc,ak)/\NX τ ak X)/\∀k,aq tb σ' k op=none:=by
 have R:=a.obs ha;cases op<;>simp only[Fa]at h<;>try(cases h;done)
 case store t x y =>
  refine⟨?_,λ_=>rfl⟩;simp only[Fa];have A:∀n∈b9 σ (Ah σ x) (Ah σ y),n∈ns:=A;rw[K x (by simp[Op.operands]),K y (by simp[Op.operands])];cases d with
  | some d=>simp[D0]at h
  | none =>
   simp only[D0]at h ⊢;generalize Ah σ x=al at h A ⊢;generalize Ah σ y=am at h A ⊢;unfold Hw at h ⊢;split at h
   ·rename_i ti n aw off v Z;try simp only
    unfold Dh at h ⊢;split at h
    ·rename_i et st fs f;rw[a.some_lk ha f];try simp only
     unfold FD at h ⊢;split at h
     ·rename_i u az h1 G;try rw[h1,G]
      try simp only
      split at h
      ·rename_i B;rw[BY B];cases h;exact⟨_,rfl,ZL a ha f a.env⟩
      ·cases h
     ·cases h
    ·cases h
   ·rename_i ti n e i aw off v Z;try simp only
    unfold Di at h ⊢;split at h
    ·rename_i et ae xs f;rw[a.some_lk ha f];try simp only
     cases aa:LX false σ ti.ty v with
     | none=>rw[aa]at h;unfold Ep at h;split at h<;>first|(cases h;done)|(rename_i G;cases G)
     | some w =>
      rw[FJ R aa];rw[aa]at h;unfold Ep at h ⊢;split at h
      ·rename_i ys w' h1 G;cases G;try rw[h1]
       try simp only
       unfold F1 at h ⊢;split at h
       ·rename_i z P;try rw[P]
        try simp only
        split at h
        ·rename_i B;rw[BY B];cases h;exact⟨_,rfl,ZL a ha f a.env⟩
        ·cases h
       ·cases h
      ·cases h
    ·rename_i et ad k F xs j f;rw[a.some_lk ha f];try simp only
     split at h
     ·rename_i m E hi;try simp only
      split at h
      ·rename_i B;rw[BY B];unfold L3 at h ⊢;split at h
       ·rename_i J;rw[BY J];unfold L1 at h ⊢;split at h
        ·rename_i bb af ys D;rw[a.some_lk ha D];try simp only
         split at h
         ·rename_i ap;rw[BY ap];unfold Km at h ⊢;split at h
          ·rename_i aj ab;try rw[ab]
           try simp only
           cases h;have ai:∀q,q∈[n,m]->q∈ns:=λq c=>A q (by simp only[b9,f,Cq,ABi];exact c);refine⟨_,rfl,nI (en:=[]) (new:=[(n,_)]) a ha (ai n (by simp)) (λq c=>ai q (by simp at c;simp[c])) (λs v h=>by cases h) (λq o c=>T q ⟨o,?_⟩)⟩;simp only[lk]at c ⊢;split at c
           ·rename_i F;cases c;rw[BY F]
           ·cases c
          ·cases h
         ·cases h
        ·cases h
       ·cases h
      ·cases h
     ·cases h
    ·cases h
   ·cases h
 case mapUpdate t m x y =>
  refine⟨?_,λ_=>rfl⟩;simp only[Fa];rw[K m (by simp[Op.operands]),K x (by simp[Op.operands]),K y (by simp[Op.operands])];cases d with
  | some d=>simp[D0]at h
  | none =>
   simp only[D0]at h ⊢;generalize Ah σ m=ax at h ⊢;generalize Ah σ x=al at h ⊢;generalize Ah σ y=am at h ⊢;unfold Ko at h ⊢;split at h
   ·try simp only
    unfold F2 at h ⊢;split at h
    ·rename_i bf bh l f;rw[a.some_lk ha f];try simp only
     split at h
     ·rename_i B;rw[BY B];unfold Gn at h ⊢;split at h
      ·rename_i bd v1 h1 G;rw[FJ R h1,FJ R G];try simp only
       split at h
       ·rename_i J;rw[BY J];cases h;exact⟨_,rfl,ZL a ha f a.env⟩
       ·cases h
      ·cases h
     ·cases h
    ·cases h
   ·cases h
 case call cl =>
  obtain⟨callee,⟨args⟩,⟨argTypes⟩⟩:=cl;cases callee with
  | value g=>simp[DN]at h
  | invoke r m=>simp[DN]at h
  | builtin b =>
   simp only[DN]at h;unfold Dk at h;split at h
   ·rename_i x y t u;have O:Ah σ' x=Ah σ x:=K x (by simp[Op.operands,Call.operands]);have S:Ah σ' y=Ah σ y:=K y (by simp[Op.operands,Call.operands]);have A:∀n∈KE σ (Ah σ x) (Ah σ y),n∈ns:=λn hn=>A n (by simpa[ZK] using hn);unfold DM at h;split at h
    ·rename_i n e hi v C I;rw[C,I]at A;refine⟨?_,λk=>by simp[aq,DA,DL,Ck,O,C]⟩;simp only[Fa,DN,Dk,DM,O,C,S,I];split at h
     ·rename_i p ;have L:=U p rfl;have M:n∈ns:=A n A0b;try simp only
      split at h
      ·rename_i N;rw[BY N];unfold Eq at h ⊢;split at h
       ·rename_i af av el b2 Y;try rw[Y]
        try simp only
        split at h
        ·rename_i W;rw[BY W];unfold Cc at h ⊢;split at h
         ·rename_i ti et ae xs h1 f;try rw[h1]
          try rw[a.some_lk ha f]
          try simp only
          split at h
          ·rename_i ar;rw[BY ar];unfold FE at h ⊢;split at h
           ·rename_i aj ys G P;try rw[G]
            rw[MC R P];try simp only
            cases h;refine⟨_,rfl,⟨λs=>?_,λm=>?_⟩⟩
            ·simp only[lk];by_cases hs:s=p
             ·subst hs;rw[BY rfl,BY rfl,L];rfl
             ·rw[At hs,At hs,J6,J6,a.env];cases H:lk s X.env with
              | none=>rfl
              | some w=>simp[Uc M w (ha.env s w H)]
            ·simp only[GV,Bp];have ao:lk n X.objs=none:=by
              cases H:lk n X.objs with
              | none=>rfl
              | some w=>exact absurd M (ha.nm n w H)
             by_cases D:m=n
             ·subst D;rw[BY rfl,BY rfl,a.objs,ao];rfl
             ·rw[At D,At D,a.objs];cases H:lk m X.objs with
              | none=>rfl
              | some w=>exact ABr some (vG (ha.arr m w H))
           ·cases h
          ·cases h
         ·rename_i ti et ad k ae xs h1 f;try rw[h1]
          try rw[a.some_lk ha f]
          try simp only
          split at h
          ·rename_i B;rw[BY B];unfold R6 at h ⊢;split at h
           ·rename_i m E au;try simp only
            unfold L2 at h ⊢;split at h
            ·rename_i an ba be ay ys D;rw[a.some_lk ha D];try simp only
             split at h
             ·rename_i J;rw[BY J];unfold Kn at h ⊢;split at h
              ·rename_i aj ab;try rw[ab]
               try simp only
               cases h;refine⟨_,rfl,nH a ha (λq c=>A q (by simp only[KE,f,Cq,ABi];exact c)) L ?_⟩;cases H:lk n X.objs with
               | none=>rfl
               | some w=>exact absurd M (ha.nm n w H)
              ·cases h
             ·cases h
            ·cases h
           ·cases h
          ·cases h
         ·cases h
        ·cases h
       ·cases h
      ·cases h
     ·cases h
    ·rename_i n e i len v C I;rw[C,I]at A;refine⟨?_,λk=>by simp[aq,DA,DL,Ck,O,C]⟩;simp only[Fa,DN,Dk,DM,O,C,S,I];split at h
     ·rename_i p ;have L:=U p rfl;have M:n∈ns:=A n (by simp[KE]);try simp only
      split at h
      ·rename_i N;rw[BY N];unfold Nc at h ⊢;split at h
       ·rename_i af av el b2 Y;try rw[Y]
        try simp only
        split at h
        ·rename_i W;rw[BY W];unfold O4 at h ⊢;split at h
         ·rename_i ti et ad k F xs h1 f;try rw[h1]
          try rw[a.some_lk ha f]
          try simp only
          split at h
          ·rename_i B;rw[BY B];unfold Lz at h ⊢;split at h
           ·rename_i ys P;rw[MC R P];try simp only
            split at h
            ·rename_i ag;have Q:lk p X.objs=none:=by
              refine T p ?_;cases h;exact⟨_,by simp only[lk,ABi];rfl⟩
             have V:(lk p σ'.objs).isNone=true/\ys.isEmpty=false:=⟨by rw[a.objs,Q];exact ag.1,ag.2⟩;rw[BY V];cases h;refine⟨_,rfl,nI (en:=[(p,_)]) (new:=[(p,_),(n,_)]) a ha M (λq c=>by cases c) (λs v h=>?_) (λq o c=>?_)⟩
             ·simp only[lk]at h;split at h
              ·rename_i F;rw[F];exact L
              ·cases h
             ·simp only[lk]at c;split at c
              ·rename_i F;rw[F];exact Q
              ·split at c
               ·rename_i F;rw[F];cases H:lk n X.objs with
                | none=>rfl
                | some w=>exact absurd M (ha.nm n w H)
               ·cases c
            ·cases h
           ·cases h
          ·cases h
         ·cases h
        ·cases h
       ·cases h
      ·cases h
     ·cases h
    ·rename_i v C I;rw[C,I]at A;split at h
     ·rename_i p ;have L:=U p rfl;split at h
      ·rename_i N;unfold Yv at h;split at h
       ·rename_i m E au bg offs el b Z;unfold O6 at h;split at h
        ·rename_i ti an ad k e ys h1 D;split at h
         ·rename_i B;unfold O5 at h;split at h
          ·rename_i J;have Q:lk p X.objs=none:=by
            refine T p ?_;cases h;exact⟨_,by simp only[lk,ABi];rfl⟩
           have V:(lk p σ'.objs).isNone=true:=by rw[a.objs,Q];exact J.1
           have ah:=a.some_lk ha D;refine⟨?_,λbc=>by simp[aq,DA,DL,Ck,O,C,S,I,N,Eo,Ox,ah,Cq];split<;>simp[FC]⟩;cases h;simp only[Fa,DN,Dk,DM,O,C,S,I,Yv,O6,O5];rw[BY N,Z];simp only;rw[ah,h1];simp only;rw[BY B,BY ⟨V,J.2⟩];exact⟨_,rfl,nH a ha (λq c=>A q (by simp only[KE,D,Cq,ABi];exact c)) L Q⟩
          ·cases h
         ·cases h
        ·cases h
       ·cases h
      ·cases h
     ·cases h
    ·cases h
   ·cases h
end
end
section
open Go Go.RowKit
def A0c (o:Obj):Bool:=K6 o
def IE (o:Oper):EN->Bool
 | []=>true
 | (d,_,_) :: r=>!AY d (Ga o.op)&&!AY d o.dst.toList&&IE o r
def TP (ns:List Nat) (σ:List (Nat×Obj)):List (Nat×Obj)->Bool
 | []=>true
 | (n,o) :: r=>(lk n σ).isNone&&!AY n ns&&A0c o&&TP ns σ r
def HK (ns:List Nat) (σ:List (Nat×Obj)):EN->Bool
 | []=>true
 | (_,_,obs) :: r=>TP ns σ obs&&HK ns σ r
def ZM (τ:List (Nat×Obj)):List (Nat×Obj)->Bool
 | []=>true
 | (n,_) :: r=>(lk n τ).isNone&&ZM τ r
def MM (τ:List (Nat×Obj)):EN->Bool
 | []=>true
 | (_,_,obs) :: r=>ZM τ obs&&MM τ r
def IG (ns:List Nat):EN->EN
 | []=>[]
 | (d,v,obs) :: r=>(d,v.fgt ns,obs) :: IG ns r
def tn (σ:St) (o:Op):List Nat:=CO σ o++ZK (Cr (CO σ o) σ) o
theorem DR {o:Oper}:∀ {ens:EN},IE o ens=true->∀e∈ens,e.1∉Ga o.op/\o.dst≠some e.1
 | [],_,e,a=>by cases a
 | (d,v,obs) :: r,h,e,a=>by
  simp only[IE,As,dO]at h;rcases By.1 a with rfl|a
  ·grind [Aa,AY]
  ·exact DR h.2 e a
theorem Pl {ns:List Nat} {σ:List (Nat×Obj)}:∀ {l:List (Nat×Obj)},TP ns σ l=true->∀p∈l,lk p.1 σ=none/\p.1∉ns/\A0c p.2=true
 | [],_,e,a=>by cases a
 | (n,o) :: r,h,p,hp=>by
  simp only[TP,As,dO,ABa]at h;rcases By.1 hp with rfl|hp
  ·grind [Aa]
  ·exact Pl h.2 p hp
theorem DS {ns:List Nat} {σ:List (Nat×Obj)}:∀ {ens:EN},HK ns σ ens=true->∀e∈ens,∀p∈e.2.2,lk p.1 σ=none/\p.1∉ns/\A0c p.2=true
 | [],_,e,a=>by cases a
 | (d,v,obs) :: r,h,e,a=>by
  simp only[HK,As]at h;rcases By.1 a with rfl|a
  ·exact Pl h.1
  ·exact DS h.2 e a
theorem SS {τ:List (Nat×Obj)}:∀ {l:List (Nat×Obj)},ZM τ l=true->∀p∈l,lk p.1 τ=none
 | [],_,e,a=>by cases a
 | (n,o) :: r,h,p,hp=>by
  simp only[ZM,As,ABa]at h;rcases By.1 hp with rfl|hp
  ·exact h.1
  ·exact SS h.2 p hp
theorem II {τ:List (Nat×Obj)}:∀ {ens:EN},MM τ ens=true->∀e∈ens,∀p∈e.2.2,lk p.1 τ=none
 | [],_,e,a=>by cases a
 | (d,v,obs) :: r,h,e,a=>by
  simp only[MM,As]at h;rcases By.1 a with rfl|a
  ·exact SS h.1
  ·exact II h.2 e a
theorem K7 {ns:List Nat}:∀ {ens:EN},IG ns ens=ens->∀e∈ens,e.2.1.fgt ns=e.2.1
 | [],_,e,a=>by cases a
 | (d,v,obs) :: r,h,e,a=>by
  simp only[IG,ABW,AD8,and_true,true_and]at h;rcases By.1 a with rfl|a
  ·exact h.1
  ·exact K7 h.2 e a
section
variable {c:Cx} {o:Oper} {σ:St} {ens:EN} {N:St->Prop}
theorem A0d {X:St} {ns:List Nat} (b:XIn ens X) (hn:HK ns σ.objs ens=true) (hf:IG ns ens=ens):ID X σ ns:=by
 refine⟨λs v hs=>?_,λn o a=>?_,λn o a=>?_,λn o a=>?_⟩
 ·obtain⟨obs,d⟩:=b.env s v hs;exact K7 hf _ d
 all_goals
  obtain⟨e,c,hp⟩:=b.objs n o a;have:=DS hn e c _ hp
 ·exact this.2.2
 ·exact this.1
 ·exact this.2.1
theorem vI (ab:c.Ok) {τ:St} {vc:Prop} (ns:List Nat) (h:GK c.tb o σ=some (vc,τ)) (U:tn σ o.op=ns) (L:IE o ens=true) (hn:HK ns σ.objs ens=true) (S:MM τ.objs ens=true) (hf:IG ns ens=ens) (ad:HY c.nt o=true) (ae:vc) (aa:N τ):UY c o σ ens N:=by
 subst U;intro X σ' j k a w next Q hs hk
 have ha:=A0d k hn hf;have F:∀t∈Ga o.op,lk t X.env=none:=λt A=>by
  cases g:lk t X.env with
  | none=>rfl
  | some v=>obtain⟨obs,f⟩:=k.env t v g;exact absurd A (DR L _ f).1
 have D:∀t,o.dst=some t->lk t X.env=none:=λt A=>by
  cases g:lk t X.env with
  | none=>rfl
  | some v=>obtain⟨obs,f⟩:=k.env t v g;exact absurd A (DR L _ f).2
 have G:∀n,(∃u,lk n τ.objs=some u)->lk n X.objs=none:=λn hu=>by
  cases g:lk n X.objs with
  | none=>rfl
  | some v =>
   obtain⟨e,R,hp⟩:=k.objs n v g;obtain⟨u,hu⟩:=hu;rw[II S e R _ hp]at hu;cases hu
 have Y:=b8 j ha (op:=o.op) (Pj j F);obtain⟨b,y⟩:=Uj (l:=CO σ o.op) j ha (λm f=>by simp[tn,f]);have key:∃q,GK c.tb o σ'=some (vc,q)/\NX τ q X:=by
  have H:∀n∈ZK (Cr (CO σ o.op) σ) o.op,n∈tn σ o.op:=λm f=>by simp[tn,f]
  unfold GK O7 at h ⊢;rw[Y];generalize Cr (CO σ o.op) σ=B at h b y H;generalize Cr (CO σ o.op) σ'=C at b;have K:=Pj b F;cases z:aq c.tb B (o.dst.getD 0) o.op with
  | some r =>
   obtain⟨af,v,obs⟩:=r;rw[z]at h;have W:=TJ (b.obs y) (λx j v Z=>by rw[K x j];exact Z) z;rw[W];simp only[LZ]at h ⊢;split at h
   ·rename_i I;cases h;have J:∀n,lk n (B.add v obs o.dst).objs=(lk n obs).or (lk n B.objs):=λn=>by cases o.dst<;>simp only[St.add,A2]
    have V:∀n,lk n (C.add v obs o.dst).objs=(lk n obs).or (lk n C.objs):=λn=>by cases o.dst<;>simp only[St.add,A2]
    have E:∀n u,lk n obs=some u->lk n X.objs=none:=λn u hu=>G n ⟨u,by rw[J,hu];rfl⟩;have T:Be obs C=true:=by
     simp only[Be,IN,ABa]at I ⊢;intro p hp;obtain⟨u,hu⟩:=M8 hp;rw[b.objs,E _ u hu,I p hp];rfl
    rw[BY T];refine⟨_,rfl,λs=>?_,λn=>?_⟩
    ·cases P:o.dst with
     | none=>simp only[St.add];exact b.env s
     | some d =>
      simp only[St.add,lk];by_cases i:s=d
      ·rw[BY i,BY i,i,D d P];rfl
      ·rw[At i,At i];exact b.env s
    ·rw[J,V,b.objs];cases hu:lk n obs with
     | none=>rfl
     | some u=>rw[E n u hu];rfl
   ·cases h
  | none =>
   rw[z]at h;simp only[LZ]at h;obtain⟨⟨q,h1,M⟩,O⟩:=vH b y K H D G h;rw[O];simp only[LZ];exact⟨q,h1,M⟩
 grind [PW,Bb]
theorem cA {σ σ':St}:∀ {xs:List Operand},i3 σ σ' xs->Iz σ' xs=Iz σ xs
 | [],_=>rfl
 | x :: r,h=>by
  simp only[Iz];rw[h x (by simp),cA (λy a=>h y (by simp[a]))]
theorem ZN {σ σ':St} (h:ZC σ σ') {ren:List (Nat×Bz)} {x y:AV} (a:G0 σ ren x y):G0 σ' ren x y:=by
 cases y<;>first|exact a|exact FJ h a
theorem Nk {σ σ':St} (h:ZC σ σ') {ren:List (Nat×Bz)}:∀ {l r:List AV},BM σ ren l r->BM σ' ren l r
 | [],[],_=>trivial
 | [],_ :: _,a=>a.elim
 | _ :: _,[],a=>a.elim
 | _ :: _,_ :: _,a=>⟨ZN h a.1,Nk h a.2⟩
theorem Nl {l l':List (Nat×Obj)} (h:∀n o,lk n l=some o->lk n l'=some o) {ren:List (Nat×Bz)}:∀ {r:List (Nat×Obj)},Ab l ren r->Ab l' ren r
 | [],_=>trivial
 | (m,o) :: r,a=>by
  refine⟨?_,Nl h a.2⟩;have h1:=a.1;cases hf:lk m ren with
  | none=>rw[hf]at h1;exact h1.elim
  | some f =>
   rw[hf]at h1;cases f with
   | nil=>exact h1
   | nm n =>
    simp only[GZ]at h1 ⊢;cases hn:lk n l with
    | none=>rw[hn]at h1;simp only[H6]at h1
    | some x=>rw[h n x hn,<-hn];exact h1
theorem vJ (af:c.Ok) {dst:Option Nat} {g:Operand} {xs:List Operand} {ts:Array TypeId} {ty:TypeId} {pos:String} {after:Array Edge}
  {f:FuncId} {D:List Nat} (aj:DQ (Ah σ g)=some (f,D)) {as:List AV} (ae:Iz σ xs=some as)
  {A:List AV} {objs:List (Nat×Obj)} {stay:List Nat} {post:AV->List (Nat×Obj)->Prop} (aa:BA c.P f A objs stay post)
  (ren:List (Nat×Bz)) (hs:List Nat) (h1:CB ren=true) (V:CT objs ren=true) (am:(c.ds.pin.all λp=>!AY p.1 hs)=true)
  (I:IE ⟨dst,.call ⟨.value g,xs.toArray,ts⟩,ty,pos,after,none⟩ ens=true) (hn:HK (Ak ren) σ.objs ens=true) (hf:IG hs ens=ens) (ag:HY c.nt ⟨dst,.call ⟨.value g,xs.toArray,ts⟩,ty,pos,after,none⟩=true)
  (Z:BM σ ren (as++D.map λn=>AV.bp n [] 0) A) (ab:Ab σ.objs ren objs)
  (hk:∀res r,post res r->∃(l:List (Nat×Bz)) (x:AV) (i:List (Nat×Obj)),CB l=true/\CT i l=true/\Ab r l i/\Bm l res x /\
   JK ren l stay hs=true/\FT (Ak ren) i σ.objs=true/\MM i ens=true/\N (CU σ (Ak ren) hs dst x i)) :
  UY c ⟨dst,.call ⟨.value g,xs.toArray,ts⟩,ty,pos,after,none⟩ σ ens N:=by
 intro X σ' q k a w next Q ao al
 have ah:∀s v,lk s X.env=some v->v.fgt hs=v:=λs v hs=>by
  obtain⟨obs,m⟩:=k.env s v hs;exact K7 hf _ m
 have G:ZC σ σ':=by
  intro n o z;rw[q.objs];cases b:lk n X.objs with
  | none=>exact z
  | some aq =>
   obtain⟨e,j,hp⟩:=k.objs n aq b;rw[(DS hn e j _ hp).1]at z;cases z
 have ak:∀n o,lk n X.objs=some o->n∉Ak ren:=λn o B=>by
  obtain⟨e,j,hp⟩:=k.objs n o B;exact(DS hn e j _ hp).2.1
 have ad:∀t∈(g :: xs).filterMap Ni,lk t X.env=none:=λt C=>by
  cases b:lk t X.env with
  | none=>rfl
  | some v =>
   obtain⟨obs,m⟩:=k.env t v b;refine absurd ?_ (DR I _ m).1;simpa[Ga,Op.operands,Call.operands] using C
 have ar:∀t,dst=some t->lk t X.env=none:=λt C=>by
  cases b:lk t X.env with
  | none=>rfl
  | some v=>obtain⟨obs,m⟩:=k.env t v b;exact absurd C (DR I _ m).2
 have H:=Pj q ad;refine ZG af (xs:=xs) (ts:=ts) rfl rfl (by rw[H g (by simp)];exact aj) (by rw[cA (λy ap=>H y (by simp[ap]))];exact ae) aa ren h1 V (Nk G Z) (Nl G ab) hs am ao (Bb ag) λres r hp=>?_;obtain⟨l,x,i,L,M,O,R,S,E,T,U⟩:=hk res r hp;have F:∀n o,lk n X.objs=some o->lk n i=none:=λn o B=>by
  obtain⟨e,j,hp⟩:=k.objs n o B;exact II T e j _ hp
 refine⟨l,x,i,L,M,O,R,S,?_,λK w' an=>al _ U K w' _ ⟨λs=>?_,λn=>?_⟩ an⟩
 ·simp only[FT,IN,AAz,ABa]at E ⊢;intro p hp;rcases E p hp with h|h
  ·exact .inl h
  ·right;rw[q.objs,h];cases b:lk p.1 X.objs with
   | none=>rfl
   | some u =>
    obtain⟨av,J⟩:=M8 hp;rw[F _ u b]at J;cases J
 ·have ai:lk s (Ba hs σ'.env)=(lk s X.env).or (lk s (Ba hs σ.env)):=by
   rw[DK,DK,q.env];cases b:lk s X.env with
   | none=>rfl
   | some v=>simp[ah s v b]
  simp only[CU];cases dst with
  | none=>exact ai
  | some d =>
   simp only[K4,lk];by_cases au:s=d
   ·grind
   ·grind
 ·simp only[CU,A2,BS,q.objs];cases b:lk n X.objs with
  | none=>simp
  | some u =>
   have Y:K6 u=true:=by
    obtain⟨e,j,hp⟩:=k.objs n u b;exact(DS hn e j _ hp).2.2
   have W:¬AY n (Ak ren)=true:=λh=>ak n _ b ((Aa _ _).1 h);rw[F n _ b,At W];exact ABr some (RE Y)
end
section
variable {c:Cx} {ops:List Oper} {Kf:St->Prop} {τ:St} {ens:EN} {vc:Prop}
theorem A0e {D:List Nat} (h:iW c.tb ops τ.objs D [] τ.env=some (vc,ens)) (b:vc) (a:Q9 ens τ.objs=true) (hk:Kf (MJ ens τ)):Mix c ops Kf [] D ens τ:=⟨⟨vc,h,b,a⟩,hk⟩
theorem A0f {A D:List Nat} {l:Nat} {b:List (List Nat×Nat)} {o:Oper} {d:St} {a:EN} (h:iW c.tb ops τ.objs (A++qs b D) [] τ.env=some (vc,ens)) (j:vc) (g:Q9 ens τ.objs=true) (i:ops[l]?=some o) (k:MJ (ens.take A.length) τ=d) (f:ens.drop A.length=a)
  (e:UY c o d a (λm=>Mix c ops Kf b D a m)):Mix c ops Kf ((A,l) :: b) D ens τ:=by
 subst k f;exact⟨⟨vc,h,j,g⟩,o,i,e⟩
end
end
section
open Go
attribute [local go_sem] bL AM List.toList_toArray B0 evG evK Wp E2 Kp Gz F5 GK O7 LZ CO DY Mr CZ Cr frz gX Gv DX BB Fx Bc AV.frz AV.frzs AV.drp AV.drps AV.names AV.namess aq Gx LY Ke Sy JY Bd Bk Jy Ek I3 El I5 I4 I6 Tt Oz HJ Kh Fz Ec Tu Qr y3 Jz I7 Lw K1 Dz Jb Ki Em Sz Ck Eo FC Qs I8 Qt Lx Jc Kj DL DA Fa D0 Hw Dh FD Di Ep F1 CZ Cq Ox Qq Nx Gm Ja JZ Kg Nc O4 Lz L3 L1 Km R6 L2 Kn Yv O6 O5 AV.trn AV.trns EY Cj Obj.trn KE b9 DN Dk DM Eq Cc FE Ah lk Hb Gw Ht bin gW Ws gZ R4 uM uN pfs AV.cells CJ Jw Oy Kl O3 CX Na Ty.cell1 I2 E8 Dy GJ LX Eh Kd Lv Qp FZ HI NV Sw Ts Lu Ka Yt aN R3 Nb DE Jx RV.flat Ty.flat Ty.size St.add upd del Be Value.oneCell' Lr Ty.dflt I1 PZ H7 Pg List.take_succ_cons List.take_zero List.length_cons bT bU Pf KB MG Ho KC zY F6 M2 M3 M4 M5 Q3 Q4 Ky JG UL Option.map_some Option.map_none Option.bind_some Option.getD_some Option.getD_none Option.isNone_none Option.isNone_some Bool.and_true Bool.true_and Bool.and_false Bool.false_and Bool.not_true Bool.not_false if_true if_false List.length_cons List.length_nil and_true true_and and_self List.all_cons List.all_nil List.append_nil List.nil_append List.cons_append List.getElem?_cons_zero List.getElem?_cons_succ List.getElem?_nil List.map_cons List.map_nil List.set_cons_zero List.set_cons_succ List.isEmpty_nil List.isEmpty_cons decide_true decide_false beq_self_eq_true bne_self_eq_false Nat.zero_add Nat.add_zero Nat.sub_zero Int.toNat_natCast Int.toNat_zero Int.toNat_one List.take_length List.length_append List.length_singleton true_or or_true or_self false_or or_false Ty.agg.injEq Ty.slice.injEq Ty.prod.injEq Ty.int.injEq Option.some.injEq beq_iff_eq Ls evMG evMQ z3 H9 MD B3 KA Ga Ni J8 H8 JH Kz Le OH Nj OI S2 ME Pb Pc J9 AY Am Op.operands Call.operands List.filterMap_cons List.filterMap_nil List.append_eq Bool.cond_false_right Bool.cond_true_left cond_true cond_false implies_true decide_eq_true_eq beq_true beq_false Bool.or_true Bool.or_false Bool.true_or Bool.false_or Option.isSome_some Array.empty_append List.append_toArray Fy Ms FF Hu Yu O2 F0 GU GT I9 Hv Kk Ly Wt gY Jt inB Ko F2 Gn J0 Aj bV List.drop_zero Dp IA ZH CU K4 Ba AV.fgt AV.fgts Obj.fgt Al Ak AY DQ Iz BM G0 List.any_cons List.any_nil iW bZ ZI b4 MJ Q9 qs List.flatMap_cons List.flatMap_nil List.cons_append tn ZK IG List.take_succ_cons List.drop_succ_cons CB CT Ab FI Kx Bm FH D7 H5 JF GZ H6
end
end Go.Proofs.YtdapahgnpbehbaaGreat.Fw
