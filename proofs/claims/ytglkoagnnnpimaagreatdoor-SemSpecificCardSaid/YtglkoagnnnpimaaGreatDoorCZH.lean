/- Regions in which operations on memory float among quiet ones. -/
import Derived.Test.YtglkoagnnnpimaaGreatDoorCZG
set_option linter.unusedVariables false
set_option linter.unusedSimpArgs false
namespace Go.Proofs.YtglkoagnnnpimaaGreatDoor.Fw
variable {Z:List (List Nat)} {L Q A:List Nat} {Y:List Oper} {n j:Nat} {E:List (Nat×List (Nat×Obj))} {o:Obj} {X:List (Nat×Obj)} {W:Op} {V:St}
section
open Go Go.RowKit
abbrev EN:=List (Nat×AV×List (Nat×Obj))
def jZ (x:Option Oper) (f:Oper->Option (Prop×EN)):Option (Prop×EN) :=
 match x with
 | some o=>f o
 | none=>none
def dA (d:Option Nat) (r:BV) (f:Nat->Prop->AV->List (Nat×Obj)->Option (Prop×EN)):Option (Prop×EN) :=
 match d,r with
 | some d,some (vc,v,obs)=>f d vc v obs
 | _,_=>none
def j5 (d:Nat) (vc:Prop) (v:AV) (obs:List (Nat×Obj)) (r:Option (Prop×EN)):Option (Prop×EN) :=
 match r with
 | some (a,l)=>some (vc/\a,(d,v,obs) :: l)
 | none=>none
def oD (tb:Tb) (ops:List Oper) (base:List (Nat×Obj)):List Nat->List (Nat×List (Nat×Obj))->List (Nat×AV)->Option (Prop×EN)
 | [],_,_=>some (True,[])
 | i :: Q,E,env=>jZ (ops[i]?) λo=>dA o.dst (aq tb ⟨env,NI false o.op base E⟩ (o.dst.getD 0) o.op) λd vc v obs=>j5 d vc v obs (oD tb ops base Q (Kd d obs E) ((d,v) :: env))
def M0:EN->St->St
 | [],σ=>σ
 | (d,v,obs) :: r,σ=>M0 r ⟨(d,v) :: σ.env,obs++σ.objs⟩
def Sd:EN->List (Nat×Obj)->Bool
 | [],_=>true
 | (_,_,obs) :: r,objs=>(obs.all λp=>(lk p.1 objs).isNone)&&Sd r (obs++objs)
def A6C (tb:Tb) (ops:List Oper) (Q:List Nat) (ens:EN) (τ:St):Prop:=∃vc:Prop,oD tb ops τ.objs Q [] τ.env=some (vc,ens)/\vc/\Sd ens τ.objs=true
def qs (a:List (List Nat×Nat)) (D:List Nat):List Nat:=(a.flatMap (·.1))++D
def qB1 (ops:List Oper) (anc:List (List Nat)) (L Q:List Nat):List Nat->List Nat->Bool
 | [],_=>true
 | i :: r,pre=>(match ops[i]? with
   | some o=>o.dst.isSome&&o.guard.isNone&&((Dt o).all λe=>Ab e L||Ab e pre)&&((G7 o.op).all λt=>Q.all λj=>Aj ops j != some t||(Ab j (anc.getD i [])&&Ab j pre))&&(pre.all λj=>Aj ops j != o.dst)&&!Ab i L&&!Ab i pre
   | none=>false)&&qB1 ops anc L Q r (i :: pre)
def Se (ops:List Oper) (anc:List (List Nat)) (p0:Nat):List Nat->List (List Nat×Nat)->List Nat->Bool
 | L,[],D=>qB1 ops anc L D D []&&((List.range p0).all λi=>Ab i L||Ab i D)&&decide (L.length+D.length=p0)&&decide (p0<=ops.length)&&(L.all λi=>decide (i<p0))&&(D.all λi=>decide (i<p0))&&((List.range ops.length).all λi=>decide (i<p0)||(List.range i).all λj=>Ab j (anc.getD i []))
 | L,(A,l) :: a,D=>qB1 ops anc L (A++qs a D) (A++qs a D) []&&(match ops[l]? with
   | some o=>o.guard.isNone&&((Dt o).all λe=>Ab e L||Ab e A)&&(A.all λj=>Ab j (anc.getD l []))&&!Ab l L&&!Ab l (A++qs a D)
   | none=>false)&&(a.all λp=>Ab l (anc.getD p.2 []))&&Se ops anc p0 (l :: (A++L)) a D
def A6D (ops:List Oper) (anc:List (List Nat)):Bool :=
 (List.range ops.length).all λi=>match ops[i]? with|some o=>((Dt o).all λe=>decide (e<i))&&((anc.getD i []).all λj=>Ab j (Dt o)||(Dt o).any λe=>Ab j (anc.getD e []))|none=>false
structure M2 (σ σ' X:St):Prop where
 env:∀s,lk s σ'.env=(lk s X.env).or (lk s σ.env)
 objs:∀n,lk n σ'.objs=(lk n X.objs).or (lk n σ.objs)
structure XIn (ens:EN) (X:St):Prop where
 env:∀s v,lk s X.env=some v->∃obs,(s,v,obs)∈ens
 objs:∀n o,lk n X.objs=some o->∃e∈ens,(n,o)∈e.2.2
def j6 (c:Cx) (o:Oper) (σ:St) (ens:EN) (N:St->Prop):Prop :=
 ∀(X σ':St),M2 σ σ' X->XIn ens X->∀(a:Act) (w:World) (next:Act->World->Prop) (Q:Exit->Act->World->Prop),c.sat σ' a w ->
  (∀τ,N τ->∀(b:Act) (w':World) (d:St),M2 τ d X->c.sat d b w'->next b w')->o.wpIn (FR c.r) 0 c.P a w next Q
def x6 (c:Cx) (ops:List Oper) (Kf:St->Prop):List (List Nat×Nat)->List Nat->EN->St->Prop
 | [],D,ens,τ=>A6C c.tb ops D ens τ/\Kf (M0 ens τ)
 | (A,l) :: a,D,ens,τ=>A6C c.tb ops (A++qs a D) ens τ/\∃o,ops[l]?=some o/\j6 c o (M0 (ens.take A.length) τ) (ens.drop A.length) (λb=>x6 c ops Kf a D (ens.drop A.length) b)
def Ny (Q:List Nat) (ens:EN) (i:Nat):En :=
 match lk i (Q.zip ens) with
 | some (_,v,obs)=>⟨true,v,obs⟩
 | none=>⟨true,.top,[]⟩
section
variable {ops:List Oper} {en:Nat->En} {τ:St}
theorem Qk:∀(l:List Nat),(Au ops en τ l).env=(Au ops en ⟨[],[]⟩ l).env++τ.env
 | []=>rfl
 | i :: r=>by
  simp only[Au];cases Aj ops i with
  | none=>simp only[St.add];exact Qk r
  | some d=>simp only[St.add,bY];rw[Qk r]
theorem j7 (l:List Nat):(Au ops en τ l).objs=(Au ops en ⟨[],[]⟩ l).objs++τ.objs:=by
 rw[FC,FC];simp
theorem x7 (l:List Nat):M2 τ (Au ops en τ l) (Au ops en ⟨[],[]⟩ l) :=
 ⟨λs=>by rw[Qk,A9],λn=>by rw[j7,A9]⟩
structure Own (ops:List Oper) (en:Nat->En) (τ:St) (Q:List Nat):Prop where
 slot:∀i∈Q,∀j∈Q,∀s,Aj ops i=some s->Aj ops j=some s->i=j
 new:∀i∈Q,∀n o,lk n (en i).obs=some o->lk n τ.objs=none
 name:∀i∈Q,∀j∈Q,∀n o o',lk n (en i).obs=some o->lk n (en j).obs=some o'->i=j
theorem x8 {Q l:List Nat} (h:Own ops en τ Q) (c:∀i∈l,i∈Q) (s:Nat) (v:AV):lk s (Au ops en τ l).env=some v↔(∃i∈l,Aj ops i=some s/\(en i).v=v)\/((∀i∈l,Aj ops i≠some s)/\lk s τ.env=some v):=by
 rw[FD];cases hf:l.find? (λj=>Aj ops j==some s) with
 | none =>
  have hn:∀i∈l,Aj ops i≠some s:=λi hi=>by simpa using ACC.1 hf i hi
  constructor
  .grind
  grind
 | some j =>
  have b:=ABY hf;have a:Aj ops j=some s:=by simpa using ACV hf
  constructor
  .grind
  rintro (⟨i,hi,d,rfl⟩|⟨hn,_⟩)
  .rw[h.slot i (c i hi) j (c j b) s d a]
  exact absurd a (hn j b)
theorem x9 {Q l:List Nat} (h:Own ops en τ Q) (d:∀i∈l,i∈Q) (n:Nat) (o:Obj):lk n (Au ops en τ l).objs=some o↔(∃i∈l,lk n (en i).obs=some o)\/((∀i∈l,lk n (en i).obs=none)/\lk n τ.objs=some o):=by
 rw[FC,A9];cases hf:lk n (l.flatMap λj=>(en j).obs) with
 | some e =>
  obtain⟨j,c,a⟩:=nZ hf;simp only[ACH];constructor
  .grind
  rintro (⟨i,hi,b⟩|⟨hn,_⟩)
  .have:=h.name i (d i hi) j (d j c) n o e b a;subst this;rw[<-a,b]
  rw[hn j c]at a;cases a
 | none =>
  have hn:=J4 hf;simp only[Option.none_or];constructor
  .grind
  grind
theorem s7 {Q l A:List Nat} (h:Own ops en τ Q) (k:∀i∈l,i∈Q) (m:∀i∈A,i∈l):M2 (Au ops en τ A) (Au ops en τ l) (Au ops en ⟨[],[]⟩ (l.filter λi=>!Ab i A)):=by
 have h0:Own ops en ⟨[],[]⟩ Q:=⟨h.slot,λ_ _ _ _ _=>rfl,h.name⟩;have hf:∀i∈l.filter (λi=>!Ab i A),i∈Q:=λi hi=>k i (AB6.1 hi).1;have p:∀i∈A,i∈Q:=λi hi=>k i (m i hi);have g:∀i,i∈l.filter (λi=>!Ab i A)↔i∈l/\i∉A:=λi=>by grind [Ai,Ab]
 refine⟨λs=>ACK λv=>?_,λn=>ACK λo=>?_⟩
 .rw[x8 h k,Option.or_eq_some_iff,x8 h0 hf,x8 h p];constructor
  .rintro (⟨i,hi,d,a⟩|⟨hn,a⟩)
   .by_cases c:i∈A
    .refine .inr ⟨?_,.inl ⟨i,c,d,a⟩⟩;cases b:lk s (Au ops en ⟨[],[]⟩ (l.filter λi=>!Ab i A)).env with
     | none=>rfl
     | some u =>
      rcases (x8 h0 hf s u).1 b with ⟨j,e,f,_⟩|⟨_,b⟩
      .have:=h.slot i (k i hi) j (hf j e) s d f;subst this;exact absurd c ((g i).1 e).2
      cases b
    exact .inl (.inl ⟨i,(g i).2 ⟨hi,c⟩,d,a⟩)
   refine .inr ⟨?_,.inr ⟨λi hi=>hn i (m i hi),a⟩⟩;cases b:lk s (Au ops en ⟨[],[]⟩ (l.filter λi=>!Ab i A)).env with
   | none=>rfl
   | some u =>
    rcases (x8 h0 hf s u).1 b with ⟨j,e,f,_⟩|⟨_,b⟩
    .exact absurd f (hn j ((g j).1 e).1)
    cases b
  rintro ((⟨i,hi,d,a⟩|⟨_,a⟩)|⟨b,⟨i,hi,d,a⟩|⟨hn,a⟩⟩)
  .grind
  .cases a
  .grind
  refine .inr ⟨λi hi d=>?_,a⟩;by_cases c:i∈A
  .exact hn i c d
  have:=(x8 h0 hf s (en i).v).2 (.inl ⟨i,(g i).2 ⟨hi,c⟩,d,rfl⟩);rw[b]at this;cases this
 rw[x9 h k,Option.or_eq_some_iff,x9 h0 hf,x9 h p];constructor
 .rintro (⟨i,hi,a⟩|⟨hn,a⟩)
  .by_cases c:i∈A
   .refine .inr ⟨?_,.inl ⟨i,c,a⟩⟩;cases b:lk n (Au ops en ⟨[],[]⟩ (l.filter λi=>!Ab i A)).objs with
    | none=>rfl
    | some u =>
     rcases (x9 h0 hf n u).1 b with ⟨j,e,f⟩|⟨_,b⟩
     .have:=h.name i (k i hi) j (hf j e) n _ _ a f;subst this;exact absurd c ((g i).1 e).2
     cases b
   exact .inl (.inl ⟨i,(g i).2 ⟨hi,c⟩,a⟩)
  refine .inr ⟨?_,.inr ⟨λi hi=>hn i (m i hi),a⟩⟩;cases b:lk n (Au ops en ⟨[],[]⟩ (l.filter λi=>!Ab i A)).objs with
  | none=>rfl
  | some u =>
   rcases (x9 h0 hf n u).1 b with ⟨j,e,f⟩|⟨_,b⟩
   .rw[hn j ((g j).1 e).1]at f;cases f
   cases b
 rintro ((⟨i,hi,a⟩|⟨_,a⟩)|⟨b,⟨i,hi,a⟩|⟨hn,a⟩⟩)
 .grind
 .cases a
 .grind
 refine .inr ⟨λi hi=>?_,a⟩;by_cases c:i∈A
 .exact hn i c
 cases d:lk n (en i).obs with
 | none=>rfl
 | some u =>
  have:=(x9 h0 hf n u).2 (.inl ⟨i,(g i).2 ⟨hi,c⟩,d⟩);rw[b]at this;cases this
end
def yA (tb:Tb) (ops:List Oper) (τ:St) (en:Nat->En) (pre:List Nat) (i:Nat) (o:Oper):Prop :=
 ∃vc:Prop,aq tb ⟨(Au ops en τ pre).env,CA false (G7 o.op) τ.objs (ES ops en pre)⟩ (o.dst.getD 0) o.op=some (vc,(en i).v,(en i).obs)/\vc
theorem dB {ts:List Nat} {d:Nat} {obs:List (Nat×Obj)}:CA false ts X (Kd d obs E)=CA false ts X ((d,obs) :: E):=by
 cases obs with
 | nil=>simp only[Kd,CA,iN];split<;>rfl
 | cons x r=>rfl
theorem yB {o:Op}:NI false o X E=CA false (G7 o) X E:=by
 cases E<;>rfl
theorem XV {tb:Tb} {ops:List Oper} {τ:St} {en:Nat->En}:∀ {Q:List Nat} {ens:EN} {pre:List Nat} {E:List (Nat×List (Nat×Obj))} {vc:Prop},oD tb ops τ.objs Q E (Au ops en τ pre).env=some (vc,ens)->vc ->
  (∀ts,CA false ts τ.objs E=CA false ts τ.objs (ES ops en pre))->(∀(j i:Nat) (e:Nat×AV×List (Nat×Obj)),Q[j]?=some i->ens[j]?=some e->en i=⟨true,e.2.1,e.2.2⟩) ->
  ens.length=Q.length/\∀(j i:Nat),Q[j]?=some i->∃(o:Oper) (e:Nat×AV×List (Nat×Obj)),ops[i]?=some o/\ens[j]?=some e/\Aj ops i=some e.1/\yA tb ops τ en ((Q.take j).reverse++pre) i o
 | [],ens,pre,E,vc,h,q,g,m=>by grind [oD]
 | i :: Q,ens,pre,E,vc,h,q,g,m=>by
  simp only[oD]at h;cases b:ops[i]? with
  | none=>rw[b]at h;simp[jZ]at h
  | some o =>
   rw[b]at h;simp only[jZ]at h;cases a:o.dst with
   | none=>rw[a]at h;simp[dA]at h
   | some d =>
    cases c:aq tb ⟨(Au ops en τ pre).env,NI false o.op τ.objs E⟩ (o.dst.getD 0) o.op with
    | none=>rw[c,a]at h;simp[dA]at h
    | some r =>
     obtain⟨y,v,obs⟩:=r;rw[c,a]at h;simp only[dA]at h;cases n:oD tb ops τ.objs Q (Kd d obs E) ((d,v) :: (Au ops en τ pre).env) with
     | none=>rw[n]at h;simp[j5]at h
     | some p =>
      obtain⟨A,z⟩:=p;rw[n]at h;simp only[j5]at h;cases h;have hi:=m 0 i (d,v,obs) rfl rfl;have l:Aj ops i=some d:=by simp[Aj,b,a]
      have w:(Au ops en τ (i :: pre)).env=(d,v) :: (Au ops en τ pre).env:=by simp[Au,l,St.add,hi]
      have s:=XV (pre:=i :: pre) (by rw[w];exact n) q.2 (λts=>by
       rw[dB];simp only[ES,nO,l,ABP,hi,CA];rw[g ts];rfl) (λj k e h1 f=>m (j+1) k e (by simpa using h1) (by simpa using f))
      refine⟨by simp[s.1],λj k hk=>?_⟩;cases j with
      | zero =>
       simp only[ABO,AB1]at hk;subst hk;refine⟨o,(d,v,obs),b,rfl,l,y,?_,q.1⟩;rw[yB,g]at c;simp only[AB0,ACQ,iN];rw[hi];exact c
      | succ j =>
       obtain⟨x,e,h1,f,t,u⟩:=s.2 j k (by simpa using hk);refine⟨x,e,h1,by simpa using f,t,?_⟩;simpa[AAS] using u
theorem Ql:∀ {ens:EN} {objs:List (Nat×Obj)},Sd ens objs=true->∀(j:Nat) (e:Nat×AV×List (Nat×Obj)),ens[j]?=some e->∀n o,lk n e.2.2=some o->lk n objs=none/\∀(b:Nat) (a:Nat×AV×List (Nat×Obj)) (c:Obj),ens[b]?=some a->lk n a.2.2=some c->j=b
 | [],objs,_,j,e,h=>by simp at h
 | (d,v,obs) :: r,objs,h,j,e,f=>by
  simp only[Sd,An,OF,AAT]at h;have h0:∀n o,lk n obs=some o->lk n objs=none:=λn o hn=>h.1 _ (E5 hn);have g:=Ql h.2;grind [lk,A9]
end
section
open Go Go.RowKit
structure XW (ops:Array Oper) (anc:List (List Nat)):Prop where
 lt:∀i o,ops[i]?=some o->∀e∈Dt o,e<i
 cl:∀i o,ops[i]?=some o->∀j∈anc.getD i [],j∈Dt o\/∃e∈Dt o,j∈anc.getD e []
theorem A8H {ops:Array Oper} {anc:List (List Nat)} (h:A6D ops.toList anc=true):XW ops anc:=by
 simp only[A6D,OF,wH]at h;have hi:∀i o,ops[i]?=some o->((Dt o).all λe=>decide (e<i))=true/\((anc.getD i []).all λj=>Ab j (Dt o)||(Dt o).any λe=>Ab j (anc.getD e []))=true:=by grind
 refine⟨λi o a e b=>?_,λi o a j c=>?_⟩
 .grind
 grind [Ai]
section
variable {ops:Array Oper} {k:Nat} {anc:List (List Nat)} {Q:Exit->Act->World->Prop}
theorem R5 (a:XW ops anc) {listed:Array Bool} (g:∀i o,ops[i]?=some o->listed.getD i true=true->∀e∈Dt o,listed.getD e false=true) :
  ∀i o,ops[i]?=some o->(∀e∈Dt o,listed.getD e false=true)->∀j∈anc.getD i [],listed.getD j false=true:=by
 intro i;induction i using Nat.strongRecOn with
 | _ i l =>
  intro o b c j f;rcases a.cl i o b j f with h1|⟨e,d,h⟩
  .exact c j h1
  have k:=a.lt i o b e d;grind
theorem Qm {F:Fence} {P:Program} (g:XW ops anc) (q:∀i o,ops[i]?=some o->k<=i->∀j,j<i->j∈anc.getD i []):∀ {rest:List Oper} {p:Nat} {listed:Array Bool} {a:Act} {w:World},ops.toList.drop p=rest->k<=p->p<=ops.size->listed.size=ops.size ->
  (∀i,i<ops.size->(listed.getD i true=true↔i<p))->wpListIn F 0 P ops Q rest a w->wpAnyIn F 0 P .any ops Q rest.length listed a w
 | [],p,listed,a,w,l,C,D,m,f,c=>by
  have N:p=ops.size:=by
   have:=AB3 List.length l;simp at this;omega
  refine⟨?_,c⟩;apply ACk.2;grind [DY]
 | o :: r,p,listed,a,w,l,C,D,m,f,c=>by
  obtain⟨d,v⟩:=XR l;have d:ops[p]?=some o:=by simpa using d
  have E:p<ops.size:=(AAe.1 d).1;have x:∀e b,e<ops.size->listed.getD e b=listed.getD e true:=λe b h=>by grind
  have L:∀i o,ops[i]?=some o->listed.getD i true=true->∀e∈Dt o,listed.getD e false=true:=by
   intro i o u h1 e h;have H:i<ops.size:=(AAe.1 u).1;have J:=(f i H).1 h1;have K:=g.lt i o u e h;grind
  have G:∀i,i∈Region.ready .any ops listed->i=p:=by grind [DY,R5]
  refine⟨λM=>?_,λi hi=>?_⟩
  .exfalso;have:p∈Region.ready .any ops listed:=by
    rw[DY];refine⟨?_,o,d,λe h=>?_⟩
    .cases hh:listed.getD p true with
     | false=>rfl
     | true=>have:=(f p E).1 hh;omega
    have:=g.lt p o d e h;rw[x e false O1];exact(f e O1).2 this
   grind
  have z:=G i hi;subst z;have t:∀(j:Nat),j<ops.size->((listed.setIfInBounds i true).getD j true=true↔j<i+1):=by
   intro j A;have B:j<listed.size:=by omega
   by_cases s:j=i
   .subst s;simp[Array.getD,B]
   have h1:(listed.setIfInBounds i true).getD j true=listed.getD j true:=getD_set_ne true (λe=>s e.symm);rw[h1,f j A];omega
  unfold wpOpIn;rw[d];simp only;unfold wpListIn at c;split
  .rename_i n;rw[At n]at c;exact Oper.wpIn_mono (λI w' y=>Qm g q v.symm O1 O1 (by simpa using m) t y) c
  rename_i n;rw[As n]at c;exact⟨c.1,Qm g q v.symm O1 O1 (by simpa using m) t c.2⟩
end
structure QOk (ops:List Oper) (anc:List (List Nat)) (L Q:List Nat):Prop where
 nodup:Q.Nodup
 pos:∀(j i:Nat),Q[j]?=some i->i∉L/\∃o,ops[i]?=some o/\o.guard=none/\(∀e∈Dt o,e∈L\/e∈Q.take j)/\(∀t∈G7 o.op,∀k∈Q,Aj ops k=some t->k∈anc.getD i []/\k∈Q.take j)
 slot:∀i∈Q,∀j∈Q,∀s,Aj ops i=some s->Aj ops j=some s->i=j
theorem dC {ops:List Oper} {anc:List (List Nat)} {L Q:List Nat}:∀ {r pre:List Nat},qB1 ops anc L Q r pre=true ->
  (∀(j i:Nat),r[j]?=some i->i∉L/\i∉pre/\i∉r.take j/\∃o,ops[i]?=some o/\o.guard=none/\(∀e∈Dt o,e∈L\/e∈pre\/e∈r.take j)/\(∀t∈G7 o.op,∀k∈Q,Aj ops k=some t->k∈anc.getD i []/\(k∈pre\/k∈r.take j)) /\
   ∀k,k∈pre\/k∈r.take j->Aj ops k≠Aj ops i)
 | [],pre,h,j,i,a=>by simp at a
 | x :: r,pre,h,j,i,a=>by
  simp only[qB1,An]at h;obtain⟨h1,s⟩:=h;cases j with
  | zero =>
   simp only[ABO,AB1]at a;subst a;cases f:ops[x]? with
   | none=>rw[f]at h1;cases h1
   | some o =>
    rw[f]at h1;simp only[An,OF,oN,Ai,ACb,TO,AAT]at h1;obtain⟨⟨⟨⟨⟨⟨A,q⟩,B⟩,C⟩,D⟩,c⟩,d⟩:=h1;refine⟨λh=>(by rw[(Ai _ _).2 h]at c;cases c),λh=>(by rw[(Ai _ _).2 h]at d;cases d),by simp,o,rfl,q,λe v=>?_,λt w k hk u=>?_,λk hk=>?_⟩
    .grind
    .grind
    grind [Aj]
  | succ j =>
   obtain⟨g,b,l,o,m,n,y,z,p⟩:=dC s j i (by simpa using a);simp only[GO,not_or]at b;refine⟨g,b.2,by simp[AAS,b.1,l],o,m,n,λe v=>?_,λt w k hk u=>?_,λk hk=>p k ?_⟩
   .grind
   .grind
   grind
theorem dD {α:Type} {l:List α} {i:Nat} {x:α} (h:l[i]?=some x) (a:i<j):x∈l.take j:=by
 rw[AAC];exact⟨i,by rw[AAj,At a];exact h⟩
theorem qOk {ops:List Oper} {anc:List (List Nat)} (h:qB1 ops anc L Q Q []=true):QOk ops anc L Q:=by
 have hs:=dC h;have m:∀ {i j x y:Nat},Q[i]?=some x->Q[j]?=some y->i<j->x≠y/\Aj ops x≠Aj ops y:=by grind [dD]
 refine⟨?_,λj i c=>?_,λi hi j c s h1 q=>?_⟩
 .rw[List.nodup_iff_pairwise_ne,oS];intro i j hi c l e;exact(m (AT hi) (AT c) l).1 e
 .obtain⟨d,_,_,o,f,g,n,p,_⟩:=hs j i c;refine⟨d,o,f,g,λe v=>?_,λt w k hk u=>?_⟩
  .grind
  grind
 obtain⟨a,ha⟩:=AAC.1 hi;obtain⟨b,r⟩:=AAC.1 c;grind
theorem j8:∀ {Q:List Nat} {ens:EN},Q.Nodup->∀(j i:Nat) (e:Nat×AV×List (Nat×Obj)),Q[j]?=some i->ens[j]?=some e->Ny Q ens i=⟨true,e.2.1,e.2.2⟩
 | [],ens,_,j,i,e,h,_=>by simp at h
 | x :: Q,[],_,j,i,e,_,h=>by simp at h
 | x :: Q,f :: ens,hn,j,i,e,h1,a=>by
  cases j with
  | zero =>
   simp only[ABO,AB1]at h1 a;subst h1;subst a;simp[Ny,ACw,lk]
  | succ j =>
   have h1:Q[j]?=some i:=by simpa using h1
   have b:i≠x:=λe=>by grind
   have:=j8 (AAB.1 hn).2 j i e h1 (by simpa using a);simp only[Ny,ACw,lk,As b]at this ⊢;exact this
structure Fr (tb:Tb) (ops:List Oper) (anc:List (List Nat)) (L Q:List Nat) (ens:EN) (τ:St):Prop where
 q:QOk ops anc L Q
 len:ens.length=Q.length
 own:Own ops (Ny Q ens) τ Q
 at_:∀(j i:Nat),Q[j]?=some i->∃(o:Oper) (e:Nat×AV×List (Nat×Obj)),ops[i]?=some o/\ens[j]?=some e/\Aj ops i=some e.1/\Ny Q ens i=⟨true,e.2.1,e.2.2⟩/\yA tb ops τ (Ny Q ens) (Q.take j).reverse i o
theorem yC {tb:Tb} {ops:List Oper} {anc:List (List Nat)} {ens:EN} {τ:St} (d:QOk ops anc L Q) (h:A6C tb ops Q ens τ):Fr tb ops anc L Q ens τ:=by
 obtain⟨vc,h1,p,q⟩:=h;have u:=λ(j i:Nat) (e:Nat×AV×List (Nat×Obj))=>j8 (ens:=ens) d.nodup j i e;obtain⟨t,hf⟩:=XV (en:=Ny Q ens) (pre:=[]) h1 p (λts=>rfl) u;have k:∀i∈Q,∃(j:Nat) (e:Nat×AV×List (Nat×Obj)),Q[j]?=some i/\ens[j]?=some e/\Ny Q ens i=⟨true,e.2.1,e.2.2⟩:=by
  intro i hi;obtain⟨j,c⟩:=AAC.1 hi;grind
 refine⟨d,t,⟨d.slot,λi hi n o hn=>?_,λi hi j c n o x f g=>?_⟩,λj i c=>?_⟩
 .grind [Ql]
 .obtain⟨a,e,ha,r,v⟩:=k i hi;obtain⟨b,m,l,s,w⟩:=k j c;rw[v]at f;rw[w]at g;have:=(Ql q a e r n o f).2 b m x s g;subst this;rw[ha]at l;injection l
 grind
theorem s8 {ops:List Oper} {en:Nat->En} {τ:St} {Q:List Nat} (h:Own ops en τ Q) {ts pre ex:List Nat} (k:∀j∈pre,j∈Q) (e:∀j∈ex,j∈Q) (d:∀j∈pre,Ab ((Aj ops j).getD 0) ts=true->j∈ex) :
  lk n (CA false ts τ.objs (ES ops en pre))=some o->lk n (Au ops en τ ex).objs=some o:=by
 rw[x9 h e];induction pre with
 | nil =>
  simp only[ES,ABj,CA];intro hn;refine .inr ⟨λj b=>?_,hn⟩;cases a:lk n (en j).obs with
  | none=>rfl
  | some f=>have:=h.new j (e j b) n f a;rw[this]at hn;cases hn
 | cons i r c =>
  simp only[ES,nO,CA];have c:=c (λj b=>k j (by simp[b])) (λj b=>d j (by simp[b]));split
  .rename_i g;intro hn;rw[A9]at hn;cases a:lk n (en i).obs with
   | some f =>
    rw[a]at hn;simp only[ACH]at hn;cases hn;exact .inl ⟨i,d i sc (by simpa using g),a⟩
   | none =>
    rw[a]at hn;exact c (by simpa[ES] using hn)
  exact c
theorem Qn {p:Nat×Obj}:∀ {l:List (Nat×Obj)},p∈l->∃b,lk p.1 l=some b
 | (c,d) :: r,h=>by
  simp only[lk];by_cases a:p.1=c
  .simp_all
  rw[As a];rcases GO.1 h with rfl|h
  .exact absurd rfl a
  exact Qn h
theorem j9 {c:Cx} (y:c.Ok) {ops:List Oper} {anc:List (List Nat)} {ens:EN} {τ:St} (hF:Fr c.tb ops anc L Q ens τ) {ex:List Nat} (h:∀i∈ex,i∈Q) {j i:Nat} {o:Oper} (m:Q[j]?=some i) (s:ops[i]?=some o) (aj:i∉ex)
  (ad:∀k∈anc.getD i [],k∈Q->k∈ex) (I:∀d,o.dst=some d->d<c.nt) {a:Act} {w:World} {next:Act->World->Prop} {Qe:Exit->Act->World->Prop} (hs:c.sat (Au ops (Ny Q ens) τ ex) a w)
  (hn:∀A w',c.sat (Au ops (Ny Q ens) τ (i :: ex)) A w'->next A w'):o.wpIn (FR c.r) 0 c.P a w next Qe:=by
 obtain⟨l,e,D,af,ab,an,vc,U,X⟩:=hF.at_ j i m;rw[s]at D;cases D;obtain⟨_,ao,E,_,_,am⟩:=hF.q.pos j i m;rw[s]at E;cases E;have z:∀k∈(Q.take j).reverse,k∈Q:=λk hk=>AAx (by simpa using hk);have S:Ops ⟨(Au ops (Ny Q ens) τ (Q.take j).reverse).env,CA false (G7 o.op) τ.objs (ES ops (Ny Q ens) (Q.take j).reverse)⟩ (Au ops (Ny Q ens) τ ex) o.op.operands.toList:=by
  intro x Y v b;cases x with
  | tmp t =>
   simp only[Ag]at b ⊢;have al:t∈G7 o.op:=ACB.2 ⟨_,Y,rfl⟩;rw[x8 hF.own z]at b;rw[x8 hF.own h];rcases b with ⟨k,hk,ag,ah⟩|⟨ak,b⟩
   .grind
   grind
  | const ap=>exact b
  | global g=>exact b
  | func f=>exact b
 have R:jR ⟨(Au ops (Ny Q ens) τ (Q.take j).reverse).env,CA false (G7 o.op) τ.objs (ES ops (Ny Q ens) (Q.take j).reverse)⟩ (Au ops (Ny Q ens) τ ex):=by
  intro n l hn;refine s8 hF.own z h (λk hk ai=>?_) hn;obtain⟨Z,J⟩:=AAC.1 (z k hk);obtain⟨_,aa,_,_,ae,_⟩:=hF.at_ Z k J;grind [Ai]
 have V:=S4 R S U;have C:=AAF m;have B:Bd (Ny Q ens i).obs (Au ops (Ny Q ens) τ ex)=true:=by
  simp only[Bd,OF,AAT];intro p T;obtain⟨l,F⟩:=Qn T;cases N:lk p.1 (Au ops (Ny Q ens) τ ex).objs with
  | none=>rfl
  | some u =>
   rcases (x9 hF.own h p.1 u).1 N with ⟨k,hk,M⟩|⟨_,hu⟩
   .have:=hF.own.name i C k (h k hk) p.1 l u F M;grind
   rw[hF.own.new i C p.1 l F]at hu;cases hu
 obtain⟨ρ,G⟩:=hs;refine nQ (sQ y G) V X B λu ρ' w' W=>hn _ _ ?_;have H:Aj ops i=o.dst:=by simp[Aj,s]
 simp only[Au,H];exact⟨ρ',G.add y.K y.O I B W⟩
end
section
open Go Go.RowKit
theorem Lb:∀ {l l':List Nat},l.Nodup->(∀x∈l,x∈l')->l.length<=l'.length
 | [],_,_,_=>by simp
 | x :: l,l',hn,h=>by
  have b:=h x sc;have:=Lb (l:=l) (l':=l'.erase x) (AAB.1 hn).2 (λy a=>by
   have:y≠x:=λe=>(AAB.1 hn).1 (e▸a);exact(ACn this).2 (h y (by simp[a])))
  grind
theorem IE (A:List Nat) (l:Nat) (a:List (List Nat×Nat)) (D:List Nat):qs ((A,l) :: a) D=A++qs a D:=by simp[qs]
structure A8I (ops:List Oper) (anc:List (List Nat)) (p0:Nat) (L:List Nat) (ps:List (List Nat×Nat)) (D:List Nat):Prop where
 all:∀i,i<p0->i∈L\/i∈qs ps D\/i∈ps.map (·.2)
 back:∀i,p0<=i->i<ops.length->∀j,j<i->j∈anc.getD i []
 L:∀i∈L,i<p0
 Q:∀i∈qs ps D,i<p0
 lo:∀p∈ps,p.2<p0
 p0:p0<=ops.length
theorem Ua {ops:List Oper} {anc:List (List Nat)} (h:Se ops anc n L [] Q=true):QOk ops anc L Q/\(∀i,i<n->i∈L\/i∈Q)/\L.length+Q.length=n/\n<=ops.length/\(∀i∈L,i<n)/\(∀i∈Q,i<n)/\(∀i,n<=i->i<ops.length->∀j,j<i->j∈anc.getD i []):=by
 simp only[Se,An,OF,wH,oN,IN,Ai]at h;grind [qOk]
theorem JB {ops:List Oper} {anc:List (List Nat)} {l:Nat} {b:List (List Nat×Nat)} (h:Se ops anc n L ((A,l) :: b) Q=true):QOk ops anc L (A++qs b Q)/\(∃o,ops[l]?=some o/\o.guard=none/\(∀e∈Dt o,e∈L\/e∈A))/\(∀j∈A,j∈anc.getD l [])/\l∉L/\l∉A++qs b Q/\(∀p∈b,l∈anc.getD p.2 [])/\Se ops anc n (l :: (A++L)) b Q=true:=by
 simp only[Se,An,OF,Ai]at h;obtain⟨⟨⟨h1,a⟩,m⟩,D⟩:=h;cases f:ops[l]? with
 | none=>rw[f]at a;cases a
 | some o =>
  rw[f]at a;simp only[An,OF,oN,Ai,TO,AAT]at a;obtain⟨⟨⟨⟨g,i⟩,k⟩,c⟩,d⟩:=a;exact⟨qOk h1,⟨o,rfl,g,i⟩,k,λh=>(by rw[(Ai _ _).2 h]at c;cases c),λh=>(by rw[(Ai _ _).2 h]at d;cases d),m,D⟩
theorem Ub {ops:List Oper} {anc:List (List Nat)} {p0:Nat}:∀ {c:List (List Nat×Nat)} {L D:List Nat},Se ops anc p0 L c D=true->A8I ops anc p0 L c D
 | [],L,D,h=>by
  obtain⟨_,h1,j,d,e,f,g⟩:=Ua h;refine⟨λi hi=>?_,g,e,by simpa[qs] using f,by simp,d⟩;grind [qs]
 | (A,l) :: c,L,D,h=>by
  obtain⟨_,_,_,_,_,_,h1⟩:=JB h;have a:=Ub h1;refine⟨λi hi=>?_,a.back,λi hi=>a.L i (by simp[hi]),λi hi=>?_,λp b=>?_,a.p0⟩
  .rcases a.all i hi with h|h|h
   .grind [IE]
   .grind [IE]
   grind
  .rw[IE,NO]at hi;rcases hi with hi|hi
   .exact a.L i (by simp[hi])
   exact a.Q i hi
  rcases GO.1 b with rfl|b
  .exact a.L l sc
  exact a.lo p b
theorem ZT {ops:List Oper} {en:Nat->En} {τ:St}:∀ {Q:List Nat} {ens:EN} {pre:List Nat},ens.length=Q.length->(∀(j i:Nat) (e:Nat×AV×List (Nat×Obj)),Q[j]?=some i->ens[j]?=some e->Aj ops i=some e.1/\en i=⟨true,e.2.1,e.2.2⟩) ->
  M0 ens (Au ops en τ pre)=Au ops en τ (Q.reverse++pre)
 | [],[],pre,_,_=>rfl
 | [],_ :: _,_,h,_=>by simp at h
 | _ :: _,[],_,h,_=>by simp at h
 | i :: Q,(d,v,obs) :: ens,pre,f,h=>by
  obtain⟨h1,a⟩:=h 0 i (d,v,obs) rfl rfl;have:(⟨(d,v) :: (Au ops en τ pre).env,obs++(Au ops en τ pre).objs⟩:St)=Au ops en τ (i :: pre):=by simp[Au,h1,a,St.add]
  simp only[M0];rw[this,ZT (by simpa using f) (λj k e b c=>h (j+1) k e (by simpa using b) (by simpa using c))];simp
section
variable {c:Cx} {ops:Array Oper} {anc:List (List Nat)} {p0:Nat} {Kf:St->Prop} {Qe:Exit->Act->World->Prop}
theorem yD {a:List (List Nat×Nat)} {L D:List Nat} {ens:EN} {τ:St} (b:Se ops.toList anc p0 L a D=true) (d:x6 c ops.toList Kf a D ens τ):Fr c.tb ops.toList anc L (qs a D) ens τ:=by
 cases a with
 | nil =>
  have:qs [] D=D:=rfl;rw[this];exact yC (Ua b).1 d.1
 | cons p a =>
  obtain⟨A,l⟩:=p;rw[IE];exact yC (JB b).1 d.1
theorem XX (x:XW ops anc) {a:List (List Nat×Nat)} {L D:List Nat} {ex:List Nat} {listed:Array Bool} (w:Se ops.toList anc p0 L a D=true) (v:QOk ops.toList anc L (qs a D)) (u:∀i∈ex,i∈qs a D) (I:listed.size=ops.size)
  (H:∀i,i<ops.size->(listed.getD i true=true↔i∈L\/i∈ex)) (hf:¬(a=[]/\∀i∈qs a D,i∈ex)):∃i,i∈Region.ready .any ops listed:=by
 have C:∀e b,e<ops.size->listed.getD e b=listed.getD e true:=λe b c=>by grind
 have mk:∀i o,ops[i]?=some o->i∉L->i∉ex->(∀e∈Dt o,e∈L\/e∈ex)->i∈Region.ready .any ops listed:=by
  intro i o f h1 k E;have J:i<ops.size:=(AAe.1 f).1;rw[DY];refine⟨?_,o,f,λe c=>?_⟩
  .grind
  have F:=x.lt i o f e c;grind
 by_cases t:∀i∈qs a D,i∈ex
 .cases a with
  | nil=>exact absurd ⟨rfl,t⟩ hf
  | cons p a =>
   obtain⟨A,l⟩:=p;rw[IE]at t u;obtain⟨_,⟨o,f,_,y⟩,_,h1,k,_,_⟩:=JB w;refine⟨l,mk l o (by simpa using f) h1 (λh=>k (u l h)) λe c=>?_⟩;rcases y e c with h|h
   .exact .inl h
   grind
 have key:∀(n j:Nat),j<=n->(∃i,(qs a D)[j]?=some i/\i∉ex)->∃i,i∈Region.ready .any ops listed:=by
  intro n;induction n with
  | zero =>
   rintro j s ⟨i,hi,d⟩;have:j=0:=by omega
   subst this;obtain⟨m,o,q,_,r,_⟩:=v.pos 0 i hi;refine⟨i,mk i o (by simpa using q) m d λe c=>?_⟩;rcases r e c with h|h
   .exact .inl h
   simp at h
  | succ n B =>
   rintro j s ⟨i,hi,d⟩;by_cases z:∃g,g<j/\∃i',(qs a D)[g]?=some i'/\i'∉ex
   .obtain⟨g,h1,k⟩:=z;exact B g O1 k
   obtain⟨m,o,q,_,r,_⟩:=v.pos j i hi;refine⟨i,mk i o (by simpa using q) m d λe c=>?_⟩;rcases r e c with h|h
   .exact .inl h
   right;obtain⟨g,G⟩:=AAC.1 h;grind
 have:∃i,i∈qs a D/\i∉ex:=by grind
 obtain⟨i,hi,d⟩:=this;obtain⟨j,s⟩:=AAC.1 hi;exact key j j (OS _) ⟨i,s,d⟩
theorem XY (G:XW ops anc) (hT:∀τ,Kf τ->∀a w,c.sat τ a w->wpListIn (FR c.r) 0 c.P ops Qe (ops.toList.drop p0) a w) {m:Nat} {L D:List Nat} {ens:EN} {τ:St} {ex:List Nat} {listed:Array Bool} {a:Act} {w:World}
  (C:Se ops.toList anc p0 L [] D=true) (g:x6 c ops.toList Kf [] D ens τ) (M:(L++ex).Nodup) (b:∀i∈ex,i∈D) (W:m+L.length+ex.length=ops.size) (J:listed.size=ops.size) (I:∀i,i<ops.size->(listed.getD i true=true↔i∈L\/i∈ex))
  (hs:c.sat (Au ops.toList (Ny D ens) τ ex) a w) (d:∀i∈D,i∈ex):wpAnyIn (FR c.r) 0 c.P .any ops Qe m listed a w:=by
 obtain⟨q,h1,S,y,T,U,z⟩:=Ua C;have hF:=yC q g.1;have V:ex.length=D.length:=AC4 (Lb (AB2.1 M).2.1 b) (Lb q.nodup d);have K:m=(ops.toList.drop p0).length:=by grind
 have E:M0 ens τ=Au ops.toList (Ny D ens) τ D.reverse:=by
  have:=ZT (ops:=ops.toList) (en:=Ny D ens) (τ:=τ) (pre:=[]) hF.len (λj i e A B=>by
   obtain⟨o,R,_,f,u,x,_⟩:=hF.at_ j i A;rw[B]at f;cases f;exact⟨u,x⟩)
  simpa[Au] using this
 have O:c.sat (M0 ens τ) a w:=by
  rw[E];have t:∀i∈D.reverse,i∈D:=λi hi=>by simpa using hi
  have l:∀i,i∈ex↔i∈D.reverse:=λi=>⟨λh=>by simpa using b i h,λh=>d i (by simpa using h)⟩;refine UT (λs=>ACK λv=>?_) (λn=>ACK λo=>?_) hs
  .rw[x8 hF.own t,x8 hF.own b];simp only[l]
  rw[x9 hF.own t,x9 hF.own b];simp only[l]
 have:=Qm (Q:=Qe) (F:=FR c.r) (P:=c.P) G (k:=p0) (λi o N hi j H=>z i hi (by have:=(AAe.1 N).1;simpa using this) j H) (rest:=ops.toList.drop p0) (p:=p0) (listed:=listed) (a:=a) (w:=w) rfl (OS _) (by simpa using y) J
  (λi hi=>by
   rw[I i hi];constructor
   .grind
   intro h;rcases h1 i h with h|h
   .exact .inl h
   exact .inr (d i h)) (hT _ g.2 a w O)
 rw[K];exact this
theorem A3q (ci:c.Ok) (bz:∀o∈ops.toList,I5 c.nt o=true) (ab:XW ops anc) (hT:∀τ,Kf τ->∀a w,c.sat τ a w->wpListIn (FR c.r) 0 c.P ops Qe (ops.toList.drop p0) a w) :
  ∀(m:Nat) (f:List (List Nat×Nat)) (L D:List Nat) (ens:EN) (τ:St) (ex:List Nat) (listed:Array Bool) (a:Act) (w:World),Se ops.toList anc p0 L f D=true->x6 c ops.toList Kf f D ens τ->(L++ex).Nodup->(∀i∈ex,i∈qs f D) ->
   m+L.length+ex.length=ops.size->listed.size=ops.size->(∀i,i<ops.size->(listed.getD i true=true↔i∈L\/i∈ex))->(∀i o,ops[i]?=some o->(i∈L\/i∈ex)->∀e∈Dt o,e∈L\/e∈ex) ->
   c.sat (Au ops.toList (Ny (qs f D) ens) τ ex) a w->wpAnyIn (FR c.r) 0 c.P .any ops Qe m listed a w:=by
 intro m;induction m with
 | zero =>
  intro f L D ens τ ex listed a w C T H B ax U O ae hs;have hF:=yD C T;by_cases hf:f=[]/\∀i∈qs f D,i∈ex
  .obtain⟨rfl,aq⟩:=hf;exact XY ab hT C T H B ax U O hs aq
  exfalso;obtain⟨i,hi⟩:=XX ab C hF.q B U O hf;rw[DY]at hi;obtain⟨h1,o,E,_⟩:=hi;have X:i<ops.size:=(AAe.1 E).1;have I:i∉L++ex:=λh=>by grind
  have N:=Ub C;have:=DZ ops.size (i :: (L++ex)) (AAB.2 ⟨I,H⟩) (λj d=>by
   have ay:=N.p0;simp only[ACt]at ay;rcases GO.1 d with rfl|d
   .exact X
   rcases NO.1 d with d|d
   .have:=N.L j d;omega
   have:=N.Q j (B j d);omega)
  grind
 | succ m bk =>
  intro f L D ens τ ex listed a w C T H B ax U O ae hs;have hF:=yD C T;have N:=Ub C;have bo:∀e b,e<ops.size->listed.getD e b=listed.getD e true:=λe b F=>by grind
  by_cases hf:f=[]/\∀i∈qs f D,i∈ex
  .obtain⟨rfl,aq⟩:=hf;exact XY ab hT C T H B ax U O hs aq
  refine⟨λcw=>?_,λi hi=>?_⟩
  .obtain⟨i,hi⟩:=XX ab C hF.q B U O hf;grind
  rw[DY]at hi;obtain⟨h1,o,E,cr⟩:=hi;have X:i<ops.size:=(AAe.1 E).1;have I:¬(i∈L\/i∈ex):=λh=>by rw[(O i X).2 h]at h1;cases h1
  have ba:∀e∈Dt o,e∈L\/e∈ex:=λe F=>by grind
  have ad:∀j∈anc.getD i [],j∈L\/j∈ex:=by
   have cu:∀i o,ops[i]?=some o->listed.getD i true=true->∀e∈Dt o,listed.getD e false=true:=by
    intro i o E h1 e F;have X:i<ops.size:=(AAe.1 E).1;have Y:=ab.lt i o E e F;rw[bo e false O1];exact(O e O1).2 (ae i o E ((O i X).1 h1) e F)
   grind [R5]
  have ag:ops.toList[i]?=some o:=by simpa using E
  have cg:o∈ops.toList:=AAF ag;have bx:=A2 (bz o cg);have be:∀(S:List Nat),(∀j,j∈S↔j=i\/j∈L\/j∈ex)->∀j,j<ops.size->((listed.setIfInBounds i true).getD j true=true↔j∈S):=by
   intro S bv j d;have ce:j<listed.size:=by omega
   rw[bv];by_cases aw:j=i
   .subst aw;simp[Array.getD,ce]
   have Y:(listed.setIfInBounds i true).getD j true=listed.getD j true:=getD_set_ne true (λe=>aw e.symm);rw[Y,O j d];simp[aw]
  have bj:∀ {g:Option (Nat×Bool)},g=none->o.guard=g->Region.wanted o (yielded ops a.tmps)=true:=by
   intro g au e;simp[Region.wanted,e,au]
  by_cases af:i∈qs f D
  .obtain⟨j,d⟩:=AAC.1 af;obtain⟨_,cz,bf,au,_,_⟩:=hF.q.pos j i d;rw[ag]at bf;cases bf;unfold wpOpIn;rw[E];simp only;rw[At (bj rfl au)];refine j9 ci hF B d ag (λh=>I (.inr h)) (λk hk cf=>?_) bx hs λak w' cj=>?_
   .rcases ad k hk with h|h
    .obtain⟨u,R⟩:=AAC.1 cf;exact absurd h (hF.q.pos u k R).1
    exact h
   refine bk f L D ens τ (i :: ex) _ ak w' C T ?_ (λk hk=>?_) (by simp only[Is];omega) (by simpa using U) (λk hk=>?_) (λi' W G av e F=>?_) cj
   .rw[AB2]at H ⊢;refine⟨H.1,AAB.2 ⟨λh=>I (.inr h),H.2.1⟩,λx t y V=>?_⟩;rcases GO.1 V with rfl|V
    .exact λe=>I (.inl (e▸t))
    exact H.2.2 x t y V
   .rcases GO.1 hk with rfl|hk
    .exact af
    exact B k hk
   .rw[be (i :: (L++ex)) (λj=>by simp) k hk];simp only[GO,NO];constructor
    .rintro (h|h|h)
     .exact .inr (.inl h)
     .exact .inl h
     exact .inr (.inr h)
    rintro (h|h|h)
    .exact .inr (.inl h)
    .exact .inl h
    exact .inr (.inr h)
   have:e∈L\/e∈ex:=by
    rcases av with h|h
    .exact ae i' W G (.inl h) e F
    rcases GO.1 h with rfl|h
    .rw[E]at G;cases G;exact ba e F
    exact ae i' W G (.inr h) e F
   rcases this with h|h
   .exact .inl h
   exact .inr (by simp[h])
  . -- no operation of the front
   have cx:¬p0<=i:=by
    intro cb;have az:=N.back i cb (by simpa using X);cases f with
    | nil =>
     refine hf ⟨rfl,λj d=>?_⟩;have Y:=N.Q j d;rcases ad j (az j O1) with h|h
     .obtain⟨u,R⟩:=AAC.1 d;exact absurd h (hF.q.pos u j R).1
     exact h
    | cons p f =>
     obtain⟨A,l⟩:=p;obtain⟨_,_,_,am,an,_,_⟩:=JB C;have Y:=N.lo (A,l) sc;simp only at Y;rcases ad l (az l O1) with h|h
     .exact am h
     exact an (by rw[<-IE A l];exact B l h)
   cases f with
   | nil =>
    rcases N.all i O1 with h|h|h
    .exact absurd (.inl h) I
    .exact absurd h af
    cases h
   | cons p f =>
    obtain⟨A,l⟩:=p;obtain⟨_,⟨ol,bg,cc,cv⟩,br,am,an,bp,bs⟩:=JB C;have cd:i=l:=by
     rcases N.all i O1 with h|h|h
     .exact absurd (.inl h) I
     .exact absurd h af
     simp only[nO,GO,IS]at h;rcases h with h|⟨p,ay,rfl⟩
     .exact h
     rcases ad l (bp p ay) with h|h
     .exact absurd h am
     exact absurd (B l h) (by rw[IE];exact an)
    subst cd;rw[ag]at bg;cases bg;rw[IE]at hF B hs af;obtain⟨ct,W,G,bt⟩:=T;rw[ag]at G;cases G;have Z:∀j∈A,j∈ex:=λj d=>by
     rcases ad j (br j d) with h|h
     .obtain⟨u,R⟩:=AAC.1 (show j∈A++qs f D by simp[d]);exact absurd h (hF.q.pos u j R).1
     exact h
    have ao:A.Nodup/\(qs f D).Nodup/\∀x∈A,∀y∈qs f D,x≠y:=AB2.1 hF.q.nodup;have bw:M0 (ens.take A.length) τ=Au ops.toList (Ny (A++qs f D) ens) τ A.reverse:=by
     have:=ZT (ops:=ops.toList) (en:=Ny (A++qs f D) ens) (τ:=τ) (pre:=[]) (Q:=A) (ens:=ens.take A.length) (by have:=hF.len;simp only[Do]at this;simp only[Of];omega) (λj i e M z=>by
      have bd:j<A.length:=(QO.1 M).1;obtain⟨o,cq,_,J,K,al,_⟩:=hF.at_ j i (by rw[AA7 bd];exact M);rw[AAj,At bd,J]at z;cases z;exact⟨K,al⟩)
     simpa[Au] using this
    have bi:=s7 (A:=A.reverse) hF.own B (λj d=>Z j (by simpa using d));rw[<-bw]at bi;have aj:∀j,j∈ex.filter (λj=>!Ab j A.reverse)↔j∈ex/\j∉A:=λj=>by
     rw[AB6];have:=Ai j A.reverse;constructor
     .rintro⟨M,z⟩;exact⟨M,λJ=>by rw[this.2 (by simpa using J)]at z;cases z⟩
     rintro⟨M,z⟩;refine⟨M,?_⟩;cases ch:Ab j A.reverse with
     | false=>rfl
     | true=>exact absurd (by simpa using this.1 ch) z
    have aa:∀j∈ex.filter (λj=>!Ab j A.reverse),j∈qs f D:=λj d=>by
     have:=B j ((aj j).1 d).1;rcases NO.1 this with h|h
     .exact absurd h ((aj j).1 d).2
     exact h
    have ar:∀j∈qs f D,∃(u:Nat) (e:Nat×AV×List (Nat×Obj)),(qs f D)[u]?=some j/\(ens.drop A.length)[u]?=some e/\Aj ops.toList j=some e.1/\Ny (A++qs f D) ens j=⟨true,e.2.1,e.2.2⟩:=by
     intro j d;obtain⟨u,R⟩:=AAC.1 d;obtain⟨o,e,_,J,K,al,_⟩:=hF.at_ (A.length+u) j (by rw[sA O1,ABq];exact R);exact⟨u,e,R,by rw[AAO];exact J,K,al⟩
    have bh:Own ops.toList (Ny (A++qs f D) ens) ⟨[],[]⟩ (A++qs f D):=⟨hF.own.slot,λ_ _ _ _ _=>rfl,hF.own.name⟩;have bb:∀j∈ex.filter (λj=>!Ab j A.reverse),j∈A++qs f D:=λj d=>by simp[aa j d]
    unfold wpOpIn;rw[E];simp only;rw[At (bj rfl cc)];refine bt _ _ bi ⟨λs v ah=>?_,λn W hn=>?_⟩ a w _ _ hs λbn bu ak w' da bc ck=>?_
    .rcases (x8 bh bb s v).1 ah with ⟨j,d,ai,rfl⟩|⟨_,ah⟩
     .obtain⟨u,e,_,z,J,K⟩:=ar j (aa j d);rw[ai]at J;cases J;rw[K];exact⟨e.2.2,AAF z⟩
     cases ah
    .rcases (x9 bh bb n W).1 hn with ⟨j,d,ai⟩|⟨_,ah⟩
     .obtain⟨u,e,_,z,J,K⟩:=ar j (aa j d);rw[K]at ai;exact⟨e,AAF z,E5 ai⟩
     cases ah
    have cs:ex.length=A.length+(ex.filter (λj=>!Ab j A.reverse)).length:=by
     have cl:∀l:List Nat,l.length=(l.filter (λj=>Ab j A.reverse)).length+(l.filter (λj=>!Ab j A.reverse)).length:=by
      intro l;induction l with
      | nil=>rfl
      | cons x r cy =>
       simp only[AAH,Is];cases Ab x A.reverse<;>simp<;>omega
     rw[cl ex];have ca:=(AB2.1 H).2.1;have M:(ex.filter (λj=>Ab j A.reverse)).length<=A.length:=Lb (ca.filter _) λx t=>by
      have:=(Ai _ _).1 (AB6.1 t).2;simpa using this
     have z:A.length<=(ex.filter (λj=>Ab j A.reverse)).length:=Lb ao.1 λx t=>AB6.2 ⟨Z x t,(Ai _ _).2 (by simpa using t)⟩;omega
    have ap:∀x,(x∈i :: (A++L)\/x∈ex.filter (λj=>!Ab j A.reverse))↔x=i\/x∈L\/x∈ex:=by
     intro x;rw[aj];simp only[GO,NO];constructor
     .rintro ((h|h|h)|h)
      .exact .inl h
      .exact .inr (.inr (Z x h))
      .exact .inr (.inl h)
      exact .inr (.inr h.1)
     rintro (h|h|h)
     .exact .inl (.inl h)
     .exact .inl (.inr (.inr h))
     by_cases t:x∈A
     .exact .inl (.inr (.inl t))
     exact .inr ⟨h,t⟩
    refine bk f (i :: (A++L)) D (ens.drop A.length) bn (ex.filter λj=>!Ab j A.reverse) _ ak w' bs bu ?_ aa (by simp only[Is,Do];omega) (by simpa using U) (λk hk=>?_) (λi' W G av e F=>?_) ?_
    .obtain⟨n1,co,bl⟩:=AB2.1 H;have bq:∀x∈A,x∉L:=λx t cm=>bl x cm x (Z x t) rfl;rw[AB2];refine⟨AAB.2 ⟨λh=>?_,AB2.2 ⟨ao.1,n1,λx t y V e=>bq x t (e▸V)⟩⟩,co.filter _,λx t y V e=>?_⟩
     .rcases NO.1 h with h|h
      .exact I (.inr (Z i h))
      exact I (.inl h)
     subst e;obtain⟨bm,cp⟩:=(aj x).1 V;rcases GO.1 t with rfl|t
     .exact I (.inr bm)
     rcases NO.1 t with t|t
     .exact cp t
     exact bl x t x bm rfl
    .rw[ap k,be (i :: (L++ex)) (λj=>by simp) k hk];simp
    .rw[ap];have:e∈L\/e∈ex:=by
      rcases (ap i').1 av with rfl|h
      .rw[E]at G;cases G;exact ba e F
      exact ae i' W G h e F
     exact .inr this
    have cn:∀j∈ex.filter (λj=>!Ab j A.reverse),Ny (qs f D) (ens.drop A.length) j=Ny (A++qs f D) ens j:=λj d=>by
     obtain⟨u,e,M,z,_,K⟩:=ar j (aa j d);rw[K];exact j8 ao.2.1 u j e M z
    have t:=x7 (ops:=ops.toList) (en:=Ny (qs f D) (ens.drop A.length)) (τ:=bn) (ex.filter λj=>!Ab j A.reverse);rw[J3 (en:=Ny (A++qs f D) ens) (σ0:=⟨[],[]⟩) cn]at t;exact UT (λs=>by rw[t.env,bc.env]) (λn=>by rw[t.objs,bc.objs]) ck
end
section
variable {c:Cx} {R:Exit->Act->World->Prop} {k:List Ca} {σ:St}
theorem J5 (j:c.P.follows .mixedOrders=true) (g:c.Ok) {l:List Oper} (p0:Nat) (d:List (List Nat×Nat)) (D:List Nat) (b:(A6D l (xS l)&&Se l (xS l) p0 [] d D)=true) {ens:EN}
  (h:x6 c l (fun τ=>D1 c R k l.toArray (l.drop p0) τ) d D ens σ):Ev c R (.run (.region n l.toArray true)) k σ:=by
 intro h1 e a w hs;simp only[Gt,Bg,OF]at h1;simp only[An]at b;refine wpIn_region_any j ?_;have hk:∀τ,D1 c R k l.toArray (l.drop p0) τ->∀a w,c.sat τ a w->wpListIn (FR c.r) 0 c.P l.toArray (Sb c R k) (l.toArray.toList.drop p0) a w:=fun τ f a w hs=>f (λo m=>h1 o (by simpa using ABp m)) e a w hs;exact A3q (ops:=l.toArray) (anc:=xS l) g (by simpa using h1) (A8H (by simpa using b.1)) hk l.toArray.size d [] D ens σ [] (Array.replicate l.toArray.size false) a { w with drawn:=w.drawn+1 } (by simpa using b.2) (by simpa using h) sc sc sc sc (λi hi=>by simp at hi;simp[Array.getD,hi]) (λi o _ hi=>by simp at hi) (cU hs)
end
end
section
open Go Go.RowKit
section
variable {n:Nat} {ns:List Nat}
theorem F7 {m:Nat} (hn:n∈ns) (h:¬Ab m ns=true):¬m=n:=λe=>h ((Ai _ _).2 (e▸hn))
mutual
theorem Uc (hn:n∈ns) {e:Ty} {xs:List e.den}:∀(x:AV),x.fgt ns=x->x.frz n e xs=x
 | .sr m e' lo hi,h=>by grind [AV.fgt,AV.frz,F7]
 | .ep m e' i path off,h=>by grind [AV.fgt,AV.frz,F7]
 | .nin m e' i len,h=>by grind [AV.fgt,AV.frz,F7]
 | .ag l,h=>by
  simp only[AV.fgt,AV.ag.injEq]at h
  simp only[AV.frz,frzs_of_fgt hn l h]
 | .tup l,h=>by
  simp only[AV.fgt,AV.tup.injEq]at h
  simp only[AV.frz,frzs_of_fgt hn l h]
 | .p _ _,_=>rfl
 | .pc _ _,_=>rfl
 | .raw _,_=>rfl
 | .ip _ _,_=>rfl
 | .bp _ _ _,_=>rfl
 | .fn _,_=>rfl
 | .clo _ _,_=>rfl
 | .mp _,_=>rfl
 | .yl _,_=>rfl
 | .top,_=>rfl
theorem frzs_of_fgt (hn:n∈ns) {e:Ty} {xs:List e.den}:∀(l:List AV),AV.fgts ns l=l->AV.frzs n e xs l=l
 | [],_=>rfl
 | x :: r,h=>by
  simp only[AV.fgts,ABm]at h
  simp only[AV.frzs,Uc hn x h.1,frzs_of_fgt hn r h.2]
end
mutual
theorem Ud (hn:n∈ns):∀(x:AV),x.fgt ns=x->x.drp n=x
 | .sr m e' lo hi,h=>by grind [AV.fgt,AV.drp,F7]
 | .ep m e' i path off,h=>by grind [AV.fgt,AV.drp,F7]
 | .nin m e' i len,h=>by grind [AV.fgt,AV.drp,F7]
 | .ag l,h=>by
  simp only[AV.fgt,AV.ag.injEq]at h
  simp only[AV.drp,drps_of_fgt hn l h]
 | .tup l,h=>by
  simp only[AV.fgt,AV.tup.injEq]at h
  simp only[AV.drp,drps_of_fgt hn l h]
 | .p _ _,_=>rfl
 | .pc _ _,_=>rfl
 | .raw _,_=>rfl
 | .ip _ _,_=>rfl
 | .bp _ _ _,_=>rfl
 | .fn _,_=>rfl
 | .clo _ _,_=>rfl
 | .mp _,_=>rfl
 | .yl _,_=>rfl
 | .top,_=>rfl
theorem drps_of_fgt (hn:n∈ns):∀(l:List AV),AV.fgts ns l=l->AV.drps n l=l
 | [],_=>rfl
 | x :: r,h=>by
  simp only[AV.fgts,ABm]at h
  simp only[AV.drps,Ud hn x h.1,drps_of_fgt hn r h.2]
end
end
section
variable {n:Nat} {ns tl:List Nat}
theorem Du (a:∀n,n∈tl->n∈ns) {m:Nat} (h:¬Ab m ns=true):¬Ab m tl=true:=λh1=>h ((Ai _ _).2 (a _ ((Ai _ _).1 h1)))
theorem oE (a:∀n,n∈tl->n∈ns) {l:List Nat} (h:¬(l.any λm=>Ab m ns)=true):¬(l.any λm=>Ab m tl)=true:=λh1=>by grind [Ai]
mutual
theorem Ue (htl:∀n,n∈tl->n∈ns):∀(x:AV),x.fgt ns=x->x.fgt tl=x
 | .sr m e' lo hi,h=>by grind [AV.fgt,Du]
 | .ep m e' i path off,h=>by grind [AV.fgt,Du]
 | .nin m e' i len,h=>by grind [AV.fgt,Du]
 | .bp m path off,h=>by grind [AV.fgt,Du]
 | .mp m,h=>by grind [AV.fgt,Du]
 | .yl m,h=>by grind [AV.fgt,Du]
 | .clo f cs,h=>by
  simp only[AV.fgt]at h
  split at h
  .cases h
  rename_i hm;simp only[AV.fgt,As (oE htl hm)]
 | .ag l,h=>by
  simp only[AV.fgt,AV.ag.injEq]at h
  simp only[AV.fgt,fgts_of_fgt htl l h]
 | .tup l,h=>by
  simp only[AV.fgt,AV.tup.injEq]at h
  simp only[AV.fgt,fgts_of_fgt htl l h]
 | .p _ _,_=>rfl
 | .pc _ _,_=>rfl
 | .raw _,_=>rfl
 | .ip _ _,_=>rfl
 | .fn _,_=>rfl
 | .top,_=>rfl
theorem fgts_of_fgt (htl:∀n,n∈tl->n∈ns):∀(l:List AV),AV.fgts ns l=l->AV.fgts tl l=l
 | [],_=>rfl
 | x :: r,h=>by
  simp only[AV.fgts,ABm]at h
  simp only[AV.fgts,Ue htl x h.1,fgts_of_fgt htl r h.2]
end
mutual
theorem Uf (hn:n∈ns) (htl:∀n,n∈tl->n∈ns):∀(x:AV),x.fgt ns=x->x.trn n tl=x
 | .sr m e' lo hi,h=>by grind [AV.fgt,AV.trn,Du]
 | .ep m e' i path off,h=>by grind [AV.fgt,AV.trn,Du]
 | .nin m e' i len,h=>by grind [AV.fgt,AV.trn,F7,Du]
 | .bp m path off,h=>by grind [AV.fgt,AV.trn,Du]
 | .mp m,h=>by grind [AV.fgt,AV.trn,Du]
 | .yl m,h=>by grind [AV.fgt,AV.trn,Du]
 | .clo f cs,h=>by
  simp only[AV.fgt]at h
  split at h
  .cases h
  rename_i hm;simp only[AV.trn,As (oE htl hm)]
 | .ag l,h=>by
  simp only[AV.fgt,AV.ag.injEq]at h
  simp only[AV.trn,trns_of_fgt hn htl l h]
 | .tup l,h=>by
  simp only[AV.fgt,AV.tup.injEq]at h
  simp only[AV.trn,trns_of_fgt hn htl l h]
 | .p _ _,_=>rfl
 | .pc _ _,_=>rfl
 | .raw _,_=>rfl
 | .ip _ _,_=>rfl
 | .fn _,_=>rfl
 | .top,_=>rfl
theorem trns_of_fgt (hn:n∈ns) (htl:∀n,n∈tl->n∈ns):∀(l:List AV),AV.fgts ns l=l->AV.trns n tl l=l
 | [],_=>rfl
 | x :: r,h=>by
  simp only[AV.fgts,ABm]at h
  simp only[AV.trns,Uf hn htl x h.1,trns_of_fgt hn htl r h.2]
end
end
def J6:AV->Bool
 | .raw _=>true
 | .p _ _=>true
 | _=>false
def Nz:Obj->Bool
 | .arr _ _ _=>true
 | .box _ _ fs=>fs.all J6
 | _=>false
theorem Ug {n:Nat} {e:Ty} {xs:List e.den}:∀fs:List AV,fs.all J6=true->AV.frzs n e xs fs=fs
 | [],_=>rfl
 | x :: r,h=>by
  rw[ABr,An]at h;simp only[AV.frzs,Ug r h.2];cases x<;>first|rfl|(have:=h.1;simp[J6]at this)
theorem Uh {n:Nat}:∀fs:List AV,fs.all J6=true->AV.drps n fs=fs
 | [],_=>rfl
 | x :: r,h=>by
  rw[ABr,An]at h;simp only[AV.drps,Uh r h.2];cases x<;>first|rfl|(have:=h.1;simp[J6]at this)
theorem s9 {e:Ty} {xs:List e.den} (h:Nz o=true):Obj.frz n e xs o=o:=by
 cases o with
 | box et st fs=>simp only[Obj.frz,Ug fs h]
 | arr et a ys=>rfl
 | _=>cases h
theorem tA (h:Nz o=true):Obj.drp n o=o:=by
 cases o with
 | box et st fs=>simp only[Obj.drp,Uh fs h]
 | arr et a ys=>rfl
 | _=>cases h
theorem Ui {hs:List Nat}:∀fs:List AV,fs.all J6=true->AV.fgts hs fs=fs
 | [],_=>rfl
 | x :: r,h=>by
  rw[ABr,An]at h;simp only[AV.fgts,Ui r h.2];cases x<;>first|rfl|(have:=h.1;simp[J6]at this)
theorem tB {hs:List Nat} (h:Nz o=true):Obj.fgt hs o=o:=by
 cases o with
 | box et st fs=>simp only[Obj.fgt,Ui fs h]
 | arr et a ys=>rfl
 | _=>cases h
theorem Uj {n:Nat} {hs:List Nat}:∀fs:List AV,fs.all J6=true->AV.trns n hs fs=fs
 | [],_=>rfl
 | x :: r,h=>by
  rw[ABr,An]at h;simp only[AV.trns,Uj r h.2];cases x<;>first|rfl|(have:=h.1;simp[J6]at this)
theorem XZ {hs:List Nat} (h:Nz o=true):Obj.trn n hs o=o:=by
 cases o with
 | box et st fs=>simp only[Obj.trn,Uj fs h]
 | arr et a ys=>rfl
 | _=>cases h
structure Ha (X σ:St) (ns:List Nat):Prop where
 env:∀s v,lk s X.env=some v->v.fgt ns=v
 arr:∀n o,lk n X.objs=some o->Nz o=true
 new:∀n o,lk n X.objs=some o->lk n σ.objs=none
 nm:∀n o,lk n X.objs=some o->n∉ns
section
variable {σ σ' X:St} {ns:List Nat}
theorem M2.lkn (b:M2 σ σ' X) (ha:Ha X σ ns) {n:Nat} (hn:n∈ns):lk n σ'.objs=lk n σ.objs:=by
 rw[b.objs];cases a:lk n X.objs with
 | none=>rfl
 | some o=>exact absurd hn (ha.nm n o a)
theorem M2.obs (b:M2 σ σ' X) (ha:Ha X σ ns):jR σ σ':=by
 intro n o hn;rw[b.objs];cases a:lk n X.objs with
 | none=>exact hn
 | some c=>rw[ha.new n c a]at hn;cases hn
theorem A3r {n:Nat} (c:M2 σ σ' X) (ha:Ha X σ ns) (hn:n∈ns):M2 (frz n σ) (frz n σ') X/\Ha X (frz n σ) ns:=by
 unfold frz;split
 .exact⟨c,ha⟩
 have core:∀(e:Ty) (xs:List e.den),M2 ⟨DW n e xs σ.env,BA n e xs (del n σ.objs)⟩ ⟨DW n e xs σ'.env,BA n e xs (del n σ'.objs)⟩ X/\Ha X ⟨DW n e xs σ.env,BA n e xs (del n σ.objs)⟩ ns:=by
  intro e xs;refine⟨⟨λs=>?_,λm=>?_⟩,ha.env,ha.arr,λm o b=>?_,ha.nm⟩
  .simp only[MW,c.env];cases a:lk s X.env with
   | none=>rfl
   | some v=>simp[Uc hn v (ha.env s v a)]
  .simp only[CG,QY];by_cases b:m=n
   .subst b;cases a:lk m X.objs with
    | none=>simp
    | some o=>exact absurd hn (ha.nm m o a)
   simp only[As b,c.objs];cases a:lk m X.objs with
   | none=>rfl
   | some o=>exact AB3 some (s9 (ha.arr m o a))
  simp only[CG,QY];split
  .rfl
  rw[ha.new m o b];rfl
 rw[c.lkn ha hn];unfold sD;grind
theorem Uk:∀ {l:List Nat} {σ σ':St},M2 σ σ' X->Ha X σ ns->(∀n∈l,n∈ns)->M2 (Cr l σ) (Cr l σ') X/\Ha X (Cr l σ) ns
 | [],_,_,a,ha,_=>⟨a,ha⟩
 | n :: l,σ,σ',a,ha,h=>by
  obtain⟨h1,b⟩:=A3r a ha (h n sc);have:=Uk (l:=l) h1 b λm c=>h m (by simp[c]);exact this
def tC (σ σ':St) (xs:List Operand):Prop:=∀x∈xs,Ag σ' x=Ag σ x
theorem ZU (b:M2 σ σ' X) {xs:List Operand} (h:∀t∈xs.filterMap UO,lk t X.env=none):tC σ σ' xs:=by
 intro x a;cases x with
 | tmp t =>
  simp only[Ag,b.env];rw[h t (ACB.2 ⟨_,a,rfl⟩)];rfl
 | const v=>rfl
 | global g=>rfl
 | func f=>rfl
theorem Lc:∀ {l:List (Nat×Operand)},tC σ σ' (l.map (·.2))->Dg σ' l=Dg σ l
 | [],_=>rfl
 | (i,x) :: r,h=>by
  simp only[Dg];rw[h x sc,Lc (λy a=>h y (by simp only[nO,GO];exact .inr a))]
theorem PQ:∀ {l:List (Nat×Operand)},tC σ σ' (l.map (·.2))->FT σ' l=FT σ l
 | [],_=>rfl
 | (i,x) :: r,h=>by
  simp only[FT];rw[h x sc,PQ (λy a=>h y (by simp only[nO,GO];exact .inr a))]
theorem kA (b:M2 σ σ' X) (ha:Ha X σ ns) (n:Nat):C3 (lk n σ'.objs)=C3 (lk n σ.objs):=by
 rw[b.objs];cases a:lk n X.objs with
 | none=>rfl
 | some o =>
  rw[ha.new n o a];have:=ha.arr n o a;cases o<;>first|rfl|cases this
theorem dF (a:M2 σ σ' X) (ha:Ha X σ ns) {op:Op} (h:tC σ σ' op.operands.toList):CU σ' op=CU σ op:=by
 cases op<;>simp only[CU];case buildSlice t n parts =>
  exact Lc (λx a=>h x (by simpa[Op.operands] using a))
 case build t parts =>
  exact PQ (λx a=>h x (by simpa[Op.operands] using a))
 case store t x y =>
  rw[h x (by simp[Op.operands]),h y (by simp[Op.operands])];unfold DI;split
  .rw[kA a ha]
  rfl
 case mapUpdate t m x y =>
  rw[h m (by simp[Op.operands]),h x (by simp[Op.operands]),h y (by simp[Op.operands])]
def Kg (σ:St):Option AV->Option AV->List Nat
 | some (.sr n _ _ _),some (.sr m _ _ _)=>if C3 (lk n σ.objs)=true then [n,m] else [n]
 | some (.sr n _ _ _),_=>[n]
 | some (.nin n _ _ _),_=>[n]
 | some (.raw _),some (.sr m _ _ _)=>if C3 (lk m σ.objs)=true then [m] else []
 | _,_=>[]
def kB (σ:St):Option AV->Option AV->List Nat
 | some (.ep n _ _ _ _),some (.sr m _ _ _)=>if C3 (lk n σ.objs)=true then [n,m] else []
 | _,_=>[]
def dG (σ:St):Op->List Nat
 | .call c=>match c.callee,c.args.toList with
  | .builtin .append,[x,y]=>Kg σ (Ag σ x) (Ag σ y)
  | _,_=>[]
 | .store _ x y=>kB σ (Ag σ x) (Ag σ y)
 | _=>[]
theorem yE {n:Nat} {e:Ty} {lo hi:Nat} {v:AV}:n∈Kg σ (some (.sr n e lo hi)) (some v):=by
 cases v<;>first|(simp[Kg];done)|(simp only[Kg];split<;>simp)
theorem oG (f:M2 σ σ' X) (ha:Ha X σ ns) {tl:List Nat} (e:∀n,n∈tl->n∈ns) {d b:Nat} {v:AV} {g:Obj} (i:lk d X.env=none) (j:lk b X.objs=none) :
  M2 ⟨(d,v) :: Cq tl σ.env,(b,g) :: Az tl tl σ.objs⟩ ⟨(d,v) :: Cq tl σ'.env,(b,g) :: Az tl tl σ'.objs⟩ X:=by
 refine⟨λs=>?_,λm=>?_⟩
 .simp only[lk];by_cases hs:s=d
  .grind
  rw[As hs,As hs,F5,F5,f.env];cases a:lk s X.env with
  | none=>rfl
  | some w=>simp[Ue e w (ha.env s w a)]
 simp only[lk];by_cases c:m=b
 .grind
 rw[As c,As c,CQ,CQ,f.objs];cases a:lk m X.objs with
 | none=>rfl
 | some w =>
  rw[As λh=>ha.nm m w a (e _ ((Ai _ _).1 h))];exact AB3 some (tB (ha.arr m w a))
theorem oH (c:M2 σ σ' X) (ha:Ha X σ ns) {n:Nat} {tl:List Nat} (hn:n∈ns) (b:∀n,n∈tl->n∈ns) {en:List (Nat×AV)} {new:List (Nat×Obj)} (d:∀s v,lk s en=some v->lk s X.env=none) (f:∀m o,lk m new=some o->lk m X.objs=none) :
  M2 ⟨en++EI n tl σ.env,new++Cv n tl σ.objs⟩ ⟨en++EI n tl σ'.env,new++Cv n tl σ'.objs⟩ X:=by
 refine⟨λs=>?_,λm=>?_⟩
 .simp only[A9];cases hs:lk s en with
  | some v=>rw[d s v hs];rfl
  | none =>
   rw[FB,FB,c.env];cases a:lk s X.env with
   | none=>rfl
   | some w=>simp[Uf hn b w (ha.env s w a)]
 simp only[A9];cases e:lk m new with
 | some o=>rw[f m o e];rfl
 | none =>
  rw[DK,DK,c.objs];cases a:lk m X.objs with
  | none=>rfl
  | some w =>
   rw[As λh=>ha.nm m w a (by
    rcases GO.1 ((Ai _ _).1 h) with rfl|h
    .exact hn
    exact b _ h)]
   exact AB3 some (XZ (ha.arr m w a))
theorem ZV {n:Nat} {d:Obj} (c:M2 σ σ' X) (ha:Ha X σ ns) (hn:lk n σ.objs=some o) {env b:List (Nat×AV)} (f:∀s,lk s b=(lk s X.env).or (lk s env)):M2 ⟨env,upd n d σ.objs⟩ ⟨b,upd n d σ'.objs⟩ X:=by
 refine⟨f,λm=>?_⟩;simp only[F1];have e:lk n X.objs=none:=by
  cases h:lk n X.objs with
  | none=>rfl
  | some u=>rw[ha.new n u h]at hn;cases hn
 by_cases a:m=n
 .subst a;rw[At rfl,At rfl,c.objs,e];rfl
 rw[As a,As a,c.objs]
theorem M2.some_lk (a:M2 σ σ' X) (ha:Ha X σ ns) {n:Nat} (h:lk n σ.objs=some o):lk n σ'.objs=some o:=a.obs ha n o h
theorem tD {tb:Tb} {op:Op} {d:Option Nat} {vc:Prop} {τ:St} (a:M2 σ σ' X) (ha:Ha X σ ns) (K:tC σ σ' op.operands.toList) (A:∀n∈dG σ op,n∈ns) (U:∀t,d=some t->lk t X.env=none) (T:∀n,(∃u,lk n τ.objs=some u)->lk n X.objs=none) (h:K0 tb σ d op=some (vc,τ)) :
  (∃ak,K0 tb σ' d op=some (vc,ak)/\M2 τ ak X)/\∀k,aq tb σ' k op=none:=by
 have R:=a.obs ha;cases op<;>simp only[K0]at h<;>try(cases h;done)
 case store t x y =>
  refine⟨?_,λ_=>rfl⟩;simp only[K0];have A:∀n∈kB σ (Ag σ x) (Ag σ y),n∈ns:=A;rw[K x (by simp[Op.operands]),K y (by simp[Op.operands])];cases d with
  | some d=>simp[D6]at h
  | none =>
   simp only[D6]at h ⊢;generalize Ag σ x=al at h A ⊢;generalize Ag σ y=am at h A ⊢;unfold Ic at h ⊢;split at h
   .rename_i ti n aw off v Z;try simp only
    unfold DR at h ⊢;split at h
    .rename_i et st fs f;rw[a.some_lk ha f];try simp only
     unfold FP at h ⊢;split at h
     .rename_i u az h1 G;try rw[h1,G]
      try simp only
      split at h
      .rename_i B;rw[At B];cases h;exact⟨_,rfl,ZV a ha f a.env⟩
      cases h
     cases h
    cases h
   .rename_i ti n e i aw off v Z;try simp only
    unfold DS at h ⊢;split at h
    .rename_i et ae xs f;rw[a.some_lk ha f];try simp only
     cases aa:IZ false σ ti.ty v with
     | none=>rw[aa]at h;unfold Er at h;split at h<;>first|(cases h;done)|(rename_i G;cases G)
     | some w =>
      rw[FX R aa];rw[aa]at h;unfold Er at h ⊢;split at h
      .rename_i ys w' h1 G;cases G;try rw[h1]
       try simp only
       unfold GT at h ⊢;split at h
       .rename_i z P;try rw[P]
        try simp only
        split at h
        .rename_i B;rw[At B];cases h;exact⟨_,rfl,ZV a ha f a.env⟩
        cases h
       cases h
      cases h
    .rename_i et ad k F xs j f;rw[a.some_lk ha f];try simp only
     split at h
     .rename_i m E hi;try simp only
      split at h
      .rename_i B;rw[At B];unfold Nj at h ⊢;split at h
       .rename_i J;rw[At J];unfold Nh at h ⊢;split at h
        .rename_i bb af ys D;rw[a.some_lk ha D];try simp only
         split at h
         .rename_i ap;rw[At ap];unfold K9 at h ⊢;split at h
          .rename_i aj ab;try rw[ab]
           try simp only
           cases h;have ai:∀q,q∈[n,m]->q∈ns:=λq c=>A q (by simp only[kB,f,C3,AAQ];exact c);refine⟨_,rfl,oH (en:=[]) (new:=[(n,_)]) a ha (ai n sc) (λq c=>ai q (by simp at c;simp[c])) (λs v h=>by cases h) (λq o c=>T q ⟨o,?_⟩)⟩;simp only[lk]at c ⊢;split at c
           .rename_i F;cases c;rw[At F]
           cases c
          cases h
         cases h
        cases h
       cases h
      cases h
     cases h
    cases h
   cases h
 case mapUpdate t m x y =>
  refine⟨?_,λ_=>rfl⟩;simp only[K0];rw[K m (by simp[Op.operands]),K x (by simp[Op.operands]),K y (by simp[Op.operands])];cases d with
  | some d=>simp[D6]at h
  | none =>
   simp only[D6]at h ⊢;generalize Ag σ m=ax at h ⊢;generalize Ag σ x=al at h ⊢;generalize Ag σ y=am at h ⊢;unfold LB at h ⊢;split at h
   .try simp only
    unfold GK at h ⊢;split at h
    .rename_i bf bh l f;rw[a.some_lk ha f];try simp only
     split at h
     .rename_i B;rw[At B];unfold G1 at h ⊢;split at h
      .rename_i bd v1 h1 G;rw[FX R h1,FX R G];try simp only
       split at h
       .rename_i J;rw[At J];cases h;exact⟨_,rfl,ZV a ha f a.env⟩
       cases h
      cases h
     cases h
    cases h
   cases h
 case call cl =>
  obtain⟨callee,⟨args⟩,⟨argTypes⟩⟩:=cl;cases callee with
  | value g=>simp[DU]at h
  | invoke r m=>simp[DU]at h
  | builtin b =>
   simp only[DU]at h;unfold Dr at h;split at h
   .rename_i x y t u;have O:Ag σ' x=Ag σ x:=K x (by simp[Op.operands,Call.operands]);have S:Ag σ' y=Ag σ y:=K y (by simp[Op.operands,Call.operands]);have A:∀n∈Kg σ (Ag σ x) (Ag σ y),n∈ns:=λn hn=>A n (by simpa[dG] using hn);unfold DT at h;split at h
    .rename_i n e hi v C I;rw[C,I]at A;refine⟨?_,λk=>by simp[aq,DC,DX,Cw,O,C]⟩;simp only[K0,DU,Dr,DT,O,C,S,I];split at h
     .rename_i p ;have L:=U p rfl;have M:n∈ns:=A n yE;try simp only
      split at h
      .rename_i N;rw[At N];unfold Es at h ⊢;split at h
       .rename_i af av el b2 Y;try rw[Y]
        try simp only
        split at h
        .rename_i W;rw[At W];unfold CZ at h ⊢;split at h
         .rename_i ti et ae xs h1 f;try rw[h1]
          try rw[a.some_lk ha f]
          try simp only
          split at h
          .rename_i ar;rw[At ar];unfold FQ at h ⊢;split at h
           .rename_i aj ys G P;try rw[G]
            rw[LQ R P];try simp only
            cases h;refine⟨_,rfl,⟨λs=>?_,λm=>?_⟩⟩
            .simp only[lk];by_cases hs:s=p
             .subst hs;rw[At rfl,At rfl,L];rfl
             rw[As hs,As hs,I4,I4,a.env];cases H:lk s X.env with
             | none=>rfl
             | some w=>simp[Ud M w (ha.env s w H)]
            simp only[F1,Be];have ao:lk n X.objs=none:=by
             cases H:lk n X.objs with
             | none=>rfl
             | some w=>exact absurd M (ha.nm n w H)
            by_cases D:m=n
            .subst D;rw[At rfl,At rfl,a.objs,ao];rfl
            rw[As D,As D,a.objs];cases H:lk m X.objs with
            | none=>rfl
            | some w=>exact AB3 some (tA (ha.arr m w H))
           cases h
          cases h
         .rename_i ti et ad k ae xs h1 f;try rw[h1]
          try rw[a.some_lk ha f]
          try simp only
          split at h
          .rename_i B;rw[At B];unfold Tr at h ⊢;split at h
           .rename_i m E au;try simp only
            unfold Ni at h ⊢;split at h
            .rename_i an ba be ay ys D;rw[a.some_lk ha D];try simp only
             split at h
             .rename_i J;rw[At J];unfold LA at h ⊢;split at h
              .rename_i aj ab;try rw[ab]
               try simp only
               cases h;refine⟨_,rfl,oG a ha (λq c=>A q (by simp only[Kg,f,C3,AAQ];exact c)) L ?_⟩;cases H:lk n X.objs with
               | none=>rfl
               | some w=>exact absurd M (ha.nm n w H)
              cases h
             cases h
            cases h
           cases h
          cases h
         cases h
        cases h
       cases h
      cases h
     cases h
    .rename_i n e i len v C I;rw[C,I]at A;refine⟨?_,λk=>by simp[aq,DC,DX,Cw,O,C]⟩;simp only[K0,DU,Dr,DT,O,C,S,I];split at h
     .rename_i p ;have L:=U p rfl;have M:n∈ns:=A n (by simp[Kg]);try simp only
      split at h
      .rename_i N;rw[At N];unfold Ot at h ⊢;split at h
       .rename_i af av el b2 Y;try rw[Y]
        try simp only
        split at h
        .rename_i W;rw[At W];unfold Rh at h ⊢;split at h
         .rename_i ti et ad k F xs h1 f;try rw[h1]
          try rw[a.some_lk ha f]
          try simp only
          split at h
          .rename_i B;rw[At B];unfold NE at h ⊢;split at h
           .rename_i ys P;rw[LQ R P];try simp only
            split at h
            .rename_i ag;have Q:lk p X.objs=none:=by
              refine T p ?_;cases h;exact⟨_,by simp only[lk,AAQ];rfl⟩
             have V:(lk p σ'.objs).isNone=true/\ys.isEmpty=false:=⟨by rw[a.objs,Q];exact ag.1,ag.2⟩;rw[At V];cases h;refine⟨_,rfl,oH (en:=[(p,_)]) (new:=[(p,_),(n,_)]) a ha M (λq c=>by cases c) (λs v h=>?_) (λq o c=>?_)⟩
             .simp only[lk]at h;split at h
              .rename_i F;rw[F];exact L
              cases h
             simp only[lk]at c;split at c
             .rename_i F;rw[F];exact Q
             split at c
             .rename_i F;rw[F];cases H:lk n X.objs with
              | none=>rfl
              | some w=>exact absurd M (ha.nm n w H)
             cases c
            cases h
           cases h
          cases h
         cases h
        cases h
       cases h
      cases h
     cases h
    .rename_i v C I;rw[C,I]at A;split at h
     .rename_i p ;have L:=U p rfl;split at h
      .rename_i N;unfold bT at h;split at h
       .rename_i m E au bg offs el b Z;unfold Rj at h;split at h
        .rename_i ti an ad k e ys h1 D;split at h
         .rename_i B;unfold Ri at h;split at h
          .rename_i J;have Q:lk p X.objs=none:=by
            refine T p ?_;cases h;exact⟨_,by simp only[lk,AAQ];rfl⟩
           have V:(lk p σ'.objs).isNone=true:=by rw[a.objs,Q];exact J.1
           have ah:=a.some_lk ha D;refine⟨?_,λbc=>by simp[aq,DC,DX,Cw,O,C,S,I,N,Eq,Ol,ah,C3];split<;>simp[FN]⟩;cases h;simp only[K0,DU,Dr,DT,O,C,S,I,bT,Rj,Ri];rw[At N,Z];simp only;rw[ah,h1];simp only;rw[At B,At ⟨V,J.2⟩];exact⟨_,rfl,oG a ha (λq c=>A q (by simp only[Kg,D,C3,AAQ];exact c)) L Q⟩
          cases h
         cases h
        cases h
       cases h
      cases h
     cases h
    cases h
   cases h
end
end
section
open Go Go.RowKit
def yF (o:Obj):Bool:=Nz o
def N0 (o:Oper):EN->Bool
 | []=>true
 | (d,_,_) :: r=>!Ab d (G7 o.op)&&!Ab d o.dst.toList&&N0 o r
def TD (ns:List Nat) (σ:List (Nat×Obj)):List (Nat×Obj)->Bool
 | []=>true
 | (n,o) :: r=>(lk n σ).isNone&&!Ab n ns&&yF o&&TD ns σ r
def Ld (ns:List Nat) (σ:List (Nat×Obj)):EN->Bool
 | []=>true
 | (_,_,obs) :: r=>TD ns σ obs&&Ld ns σ r
def ZW (τ:List (Nat×Obj)):List (Nat×Obj)->Bool
 | []=>true
 | (n,_) :: r=>(lk n τ).isNone&&ZW τ r
def Ul (τ:List (Nat×Obj)):EN->Bool
 | []=>true
 | (_,_,obs) :: r=>ZW τ obs&&Ul τ r
def NJ (ns:List Nat):EN->EN
 | []=>[]
 | (d,v,obs) :: r=>(d,v.fgt ns,obs) :: NJ ns r
def tn (σ:St) (o:Op):List Nat:=CU σ o++dG (Cr (CU σ o) σ) o
theorem GY {o:Oper}:∀ {ens:EN},N0 o ens=true->∀e∈ens,e.1∉G7 o.op/\o.dst≠some e.1
 | [],_,e,a=>by cases a
 | (d,v,obs) :: r,h,e,a=>by
  simp only[N0,An,TO]at h;rcases GO.1 a with rfl|a
  .grind [Ai,Ab]
  exact GY h.2 e a
theorem PR {ns:List Nat} {σ:List (Nat×Obj)}:∀ {l:List (Nat×Obj)},TD ns σ l=true->∀p∈l,lk p.1 σ=none/\p.1∉ns/\yF p.2=true
 | [],_,e,b=>by cases b
 | (n,o) :: r,h,p,a=>by
  simp only[TD,An,TO,AAT]at h;rcases GO.1 a with rfl|a
  .grind [Ai]
  exact PR h.2 p a
theorem Le {ns:List Nat} {σ:List (Nat×Obj)}:∀ {ens:EN},Ld ns σ ens=true->∀e∈ens,∀p∈e.2.2,lk p.1 σ=none/\p.1∉ns/\yF p.2=true
 | [],_,e,a=>by cases a
 | (d,v,obs) :: r,h,e,a=>by
  simp only[Ld,An]at h;rcases GO.1 a with rfl|a
  .exact PR h.1
  exact Le h.2 e a
theorem R6 {τ:List (Nat×Obj)}:∀ {l:List (Nat×Obj)},ZW τ l=true->∀p∈l,lk p.1 τ=none
 | [],_,e,b=>by cases b
 | (n,o) :: r,h,p,a=>by
  simp only[ZW,An,AAT]at h;rcases GO.1 a with rfl|a
  .exact h.1
  exact R6 h.2 p a
theorem N1 {τ:List (Nat×Obj)}:∀ {ens:EN},Ul τ ens=true->∀e∈ens,∀p∈e.2.2,lk p.1 τ=none
 | [],_,e,a=>by cases a
 | (d,v,obs) :: r,h,e,a=>by
  simp only[Ul,An]at h;rcases GO.1 a with rfl|a
  .exact R6 h.1
  exact N1 h.2 e a
theorem Um {ns:List Nat}:∀ {ens:EN},NJ ns ens=ens->∀e∈ens,e.2.1.fgt ns=e.2.1
 | [],_,e,a=>by cases a
 | (d,v,obs) :: r,h,e,a=>by
  simp only[NJ,ABm,ACp,and_true,true_and]at h;rcases GO.1 a with rfl|a
  .exact h.1
  exact Um h.2 e a
section
variable {c:Cx} {o:Oper} {σ:St} {ens:EN} {N:St->Prop}
theorem yG {X:St} {ns:List Nat} (b:XIn ens X) (hn:Ld ns σ.objs ens=true) (hf:NJ ns ens=ens):Ha X σ ns:=by
 refine⟨λs v hs=>?_,λn o a=>?_,λn o a=>?_,λn o a=>?_⟩
 .obtain⟨obs,d⟩:=b.env s v hs;exact Um hf _ d
 all_goals
  obtain⟨e,c,f⟩:=b.objs n o a;have:=Le hn e c _ f
 .exact this.2.2
 .exact this.1
 exact this.2.1
theorem tE (ad:c.Ok) {τ:St} {vc:Prop} (ns:List Nat) (h:GU c.tb o σ=some (vc,τ)) (V:tn σ o.op=ns) (M:N0 o ens=true) (hn:Ld ns σ.objs ens=true) (T:Ul τ.objs ens=true) (hf:NJ ns ens=ens) (ae:I5 c.nt o=true) (af:vc) (ab:N τ):j6 c o σ ens N:=by
 subst V;intro X σ' j k a w next Q hs hk
 have ha:=yG k hn hf;have G:∀t∈G7 o.op,lk t X.env=none:=λt B=>by
  cases g:lk t X.env with
  | none=>rfl
  | some v=>obtain⟨obs,f⟩:=k.env t v g;exact absurd B (GY M _ f).1
 have E:∀t,o.dst=some t->lk t X.env=none:=λt B=>by
  cases g:lk t X.env with
  | none=>rfl
  | some v=>obtain⟨obs,f⟩:=k.env t v g;exact absurd B (GY M _ f).2
 have H:∀n,(∃u,lk n τ.objs=some u)->lk n X.objs=none:=λn hu=>by
  cases g:lk n X.objs with
  | none=>rfl
  | some v =>
   obtain⟨e,S,q⟩:=k.objs n v g;obtain⟨u,hu⟩:=hu;rw[N1 T e S _ q]at hu;cases hu
 have Z:=dF j ha (op:=o.op) (ZU j G);obtain⟨b,z⟩:=Uk (l:=CU σ o.op) j ha (λm f=>by simp[tn,f]);have key:∃y,GU c.tb o σ'=some (vc,y)/\M2 τ y X:=by
  have I:∀n∈dG (Cr (CU σ o.op) σ) o.op,n∈tn σ o.op:=λm f=>by simp[tn,f]
  unfold GU Rk at h ⊢;rw[Z];generalize Cr (CU σ o.op) σ=C at h b z I;generalize Cr (CU σ o.op) σ'=D at b;have L:=ZU b G;cases A:aq c.tb C (o.dst.getD 0) o.op with
  | some r =>
   obtain⟨ag,v,obs⟩:=r;rw[A]at h;have Y:=S4 (b.obs z) (λx j v aa=>by rw[L x j];exact aa) A;rw[Y];simp only[LD]at h ⊢;split at h
   .rename_i J;cases h;have K:∀n,lk n (C.add v obs o.dst).objs=(lk n obs).or (lk n C.objs):=λn=>by cases o.dst<;>simp only[St.add,A9]
    have W:∀n,lk n (D.add v obs o.dst).objs=(lk n obs).or (lk n D.objs):=λn=>by cases o.dst<;>simp only[St.add,A9]
    have F:∀n u,lk n obs=some u->lk n X.objs=none:=λn u hu=>H n ⟨u,by rw[K,hu];rfl⟩;have U:Bd obs D=true:=by
     simp only[Bd,OF,AAT]at J ⊢;intro p q;obtain⟨u,hu⟩:=Qn q;rw[b.objs,F _ u hu,J p q];rfl
    rw[At U];refine⟨_,rfl,λs=>?_,λn=>?_⟩
    .cases R:o.dst with
     | none=>simp only[St.add];exact b.env s
     | some d =>
      simp only[St.add,lk];by_cases i:s=d
      .rw[At i,At i,i,E d R];rfl
      rw[As i,As i];exact b.env s
    rw[K,W,b.objs];cases hu:lk n obs with
    | none=>rfl
    | some u=>rw[F n u hu];rfl
   cases h
  | none =>
   rw[A]at h;simp only[LD]at h;obtain⟨⟨y,h1,O⟩,P⟩:=tD b z L I E H h;rw[P];simp only[LD];exact⟨y,h1,O⟩
 grind [O9,A2]
end
section
variable {c:Cx} {ops:List Oper} {Kf:St->Prop} {τ:St} {ens:EN} {vc:Prop}
theorem yH {D:List Nat} (h:oD c.tb ops τ.objs D [] τ.env=some (vc,ens)) (b:vc) (a:Sd ens τ.objs=true) (hk:Kf (M0 ens τ)):x6 c ops Kf [] D ens τ:=⟨⟨vc,h,b,a⟩,hk⟩
theorem yI {A D:List Nat} {l:Nat} {b:List (List Nat×Nat)} {o:Oper} {d:St} {a:EN} (h:oD c.tb ops τ.objs (A++qs b D) [] τ.env=some (vc,ens)) (j:vc) (g:Sd ens τ.objs=true) (i:ops[l]?=some o) (k:M0 (ens.take A.length) τ=d) (f:ens.drop A.length=a)
  (e:j6 c o d a (λm=>x6 c ops Kf b D a m)):x6 c ops Kf ((A,l) :: b) D ens τ:=by
 subst k f;exact⟨⟨vc,h,j,g⟩,o,i,e⟩
end
end
end Go.Proofs.YtglkoagnnnpimaaGreatDoor.Fw
