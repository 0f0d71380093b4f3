/- Regions in which operations on memory float among quiet ones. -/
import Derived.Test.YtddbnflakbngaaaGreatDoorFZG
set_option linter.unusedVariables false
set_option linter.unusedSimpArgs false
namespace Go.Proofs.YtddbnflakbngaaaGreatDoor.Fw
variable {Z:List (List Nat)} {L Q A:List Nat} {Y:List Oper} {n j:Nat} {E:List (Nat×List (Nat×Obj))} {o:Obj} {X:List (Nat×Obj)} {W:Op} {V:St}
section
open Go Go.RowKit
abbrev EN:=List (Nat×AV×List (Nat×Obj))
def f6 (x:Option Oper) (f:Oper->Option (Prop×EN)):Option (Prop×EN) :=
 match x with
 | some o=>f o
 | none=>none
def aU (d:Option Nat) (r:Bl) (f:Nat->Prop->AV->List (Nat×Obj)->Option (Prop×EN)):Option (Prop×EN) :=
 match d,r with
 | some d,some (vc,v,obs)=>f d vc v obs
 | _,_=>none
def f7 (d:Nat) (vc:Prop) (v:AV) (obs:List (Nat×Obj)) (r:Option (Prop×EN)):Option (Prop×EN) :=
 match r with
 | some (a,l)=>some (vc/\a,(d,v,obs) :: l)
 | none=>none
def mY (tb:Tb) (ops:List Oper) (base:List (Nat×Obj)):List Nat->List (Nat×List (Nat×Obj))->List (Nat×AV)->Option (Prop×EN)
 | [],_,_=>some (True,[])
 | i :: Q,E,env=>f6 (ops[i]?) λo=>aU o.dst (aq tb ⟨env,Mh false o.op base E⟩ (o.dst.getD 0) o.op) λd vc v obs=>f7 d vc v obs (mY tb ops base Q (KK d obs E) ((d,v) :: env))
def Mo:EN->St->St
 | [],σ=>σ
 | (d,v,obs) :: r,σ=>Mo r ⟨(d,v) :: σ.env,obs++σ.objs⟩
def R9:EN->List (Nat×Obj)->Bool
 | [],_=>true
 | (_,_,obs) :: r,objs=>(obs.all λp=>(lk p.1 objs).isNone)&&R9 r (obs++objs)
def A8Y (tb:Tb) (ops:List Oper) (Q:List Nat) (ens:EN) (τ:St):Prop:=∃vc:Prop,mY tb ops τ.objs Q [] τ.env=some (vc,ens)/\vc/\R9 ens τ.objs=true
def qs (a:List (List Nat×Nat)) (D:List Nat):List Nat:=(a.flatMap (·.1))++D
def qB1 (ops:List Oper) (anc:List (List Nat)) (L Q:List Nat):List Nat->List Nat->Bool
 | [],_=>true
 | i :: r,pre=>(match ops[i]? with
   | some o=>o.dst.isSome&&o.guard.isNone&&((EJ o).all λe=>Ai e L||Ai e pre)&&((Ha o.op).all λt=>Q.all λj=>Az ops j != some t||(Ai j (anc.getD i [])&&Ai j pre))&&(pre.all λj=>Az ops j != o.dst)&&!Ai i L&&!Ai i pre
   | none=>false)&&qB1 ops anc L Q r (i :: pre)
def UF (ops:List Oper) (anc:List (List Nat)) (p0:Nat):List Nat->List (List Nat×Nat)->List Nat->Bool
 | L,[],D=>qB1 ops anc L D D []&&((List.range p0).all λi=>Ai i L||Ai i D)&&decide (L.length+D.length=p0)&&decide (p0<=ops.length)&&(L.all λi=>decide (i<p0))&&(D.all λi=>decide (i<p0))&&((List.range ops.length).all λi=>decide (i<p0)||(List.range i).all λj=>Ai j (anc.getD i []))
 | L,(A,l) :: a,D=>qB1 ops anc L (A++qs a D) (A++qs a D) []&&(match ops[l]? with
   | some o=>o.guard.isNone&&((EJ o).all λe=>Ai e L||Ai e A)&&(A.all λj=>Ai j (anc.getD l []))&&!Ai l L&&!Ai l (A++qs a D)
   | none=>false)&&(a.all λp=>Ai l (anc.getD p.2 []))&&UF ops anc p0 (l :: (A++L)) a D
def A8Z (ops:List Oper) (anc:List (List Nat)):Bool :=
 (List.range ops.length).all λi=>match ops[i]? with|some o=>((EJ o).all λe=>decide (e<i))&&((anc.getD i []).all λj=>Ai j (EJ o)||(EJ o).any λe=>Ai j (anc.getD e []))|none=>false
structure OB (σ σ' X:St):Prop where
 env:∀s,lk s σ'.env=(lk s X.env).or (lk s σ.env)
 objs:∀n,lk n σ'.objs=(lk n X.objs).or (lk n σ.objs)
structure XIn (ens:EN) (X:St):Prop where
 env:∀s v,lk s X.env=some v->∃obs,(s,v,obs)∈ens
 objs:∀n o,lk n X.objs=some o->∃e∈ens,(n,o)∈e.2.2
def mZ (c:Cx) (o:Oper) (σ:St) (ens:EN) (N:St->Prop):Prop :=
 ∀(X σ':St),OB σ σ' X->XIn ens X->∀(a:Act) (w:World) (next:Act->World->Prop) (Q:Exit->Act->World->Prop),c.sat σ' a w ->
  (∀τ,N τ->∀(b:Act) (w':World) (d:St),OB τ d X->c.sat d b w'->next b w')->o.wpIn (FR c.r) 0 c.P a w next Q
def Mix (c:Cx) (ops:List Oper) (Kf:St->Prop):List (List Nat×Nat)->List Nat->EN->St->Prop
 | [],D,ens,τ=>A8Y c.tb ops D ens τ/\Kf (Mo ens τ)
 | (A,l) :: a,D,ens,τ=>A8Y c.tb ops (A++qs a D) ens τ/\∃o,ops[l]?=some o/\mZ c o (Mo (ens.take A.length) τ) (ens.drop A.length) (λb=>Mix c ops Kf a D (ens.drop A.length) b)
def PA (Q:List Nat) (ens:EN) (i:Nat):En :=
 match lk i (Q.zip ens) with
 | some (_,v,obs)=>⟨true,v,obs⟩
 | none=>⟨true,.top,[]⟩
section
variable {ops:List Oper} {en:Nat->En} {τ:St}
theorem SA:∀(l:List Nat),(A5 ops en τ l).env=(A5 ops en ⟨[],[]⟩ l).env++τ.env
 | []=>rfl
 | i :: r=>by
  simp only[A5];cases Az ops i with
  | none=>simp only[St.add];exact SA r
  | some d=>simp only[St.add,To];rw[SA r]
theorem m3 (l:List Nat):(A5 ops en τ l).objs=(A5 ops en ⟨[],[]⟩ l).objs++τ.objs:=by
 rw[Fv,Fv];simp
theorem A1b (l:List Nat):OB τ (A5 ops en τ l) (A5 ops en ⟨[],[]⟩ l) :=
 ⟨λs=>by rw[SA,BJ],λn=>by rw[m3,BJ]⟩
structure Own (ops:List Oper) (en:Nat->En) (τ:St) (Q:List Nat):Prop where
 slot:∀i∈Q,∀j∈Q,∀s,Az ops i=some s->Az ops j=some s->i=j
 new:∀i∈Q,∀n o,lk n (en i).obs=some o->lk n τ.objs=none
 name:∀i∈Q,∀j∈Q,∀n o o',lk n (en i).obs=some o->lk n (en j).obs=some o'->i=j
theorem lkE {Q l:List Nat} (h:Own ops en τ Q) (c:∀i∈l,i∈Q) (s:Nat) (v:AV):lk s (A5 ops en τ l).env=some v↔(∃i∈l,Az ops i=some s/\(en i).v=v)\/((∀i∈l,Az ops i≠some s)/\lk s τ.env=some v):=by
 rw[Fx];cases hf:l.find? (λj=>Az ops j==some s) with
 | none =>
  have hn:∀i∈l,Az ops i≠some s:=λi hi=>by simpa using AEv.1 hf i hi
  constructor
  .grind
  grind
 | some j =>
  have b:=ADO hf;have a:Az ops j=some s:=by simpa using AEP hf
  constructor
  .grind
  rintro (⟨i,hi,d,rfl⟩|⟨hn,_⟩)
  .rw[h.slot i (c i hi) j (c j b) s d a]
  exact absurd a (hn j b)
theorem lkO {Q l:List Nat} (h:Own ops en τ Q) (d:∀i∈l,i∈Q) (n:Nat) (o:Obj):lk n (A5 ops en τ l).objs=some o↔(∃i∈l,lk n (en i).obs=some o)\/((∀i∈l,lk n (en i).obs=none)/\lk n τ.objs=some o):=by
 rw[Fv,BJ];cases hf:lk n (l.flatMap λj=>(en j).obs) with
 | some e =>
  obtain⟨j,c,a⟩:=rE hf;simp only[AEA];constructor
  .grind
  rintro (⟨i,hi,b⟩|⟨hn,_⟩)
  .have:=h.name i (d i hi) j (d j c) n o e b a;subst this;rw[<-a,b]
  rw[hn j c]at a;cases a
 | none =>
  have hn:=LF hf;simp only[Option.none_or];constructor
  .grind
  grind
theorem xJ {Q l A:List Nat} (h:Own ops en τ Q) (k:∀i∈l,i∈Q) (m:∀i∈A,i∈l):OB (A5 ops en τ A) (A5 ops en τ l) (A5 ops en ⟨[],[]⟩ (l.filter λi=>!Ai i A)):=by
 have h0:Own ops en ⟨[],[]⟩ Q:=⟨h.slot,λ_ _ _ _ _=>rfl,h.name⟩;have hf:∀i∈l.filter (λi=>!Ai i A),i∈Q:=λi hi=>k i (ACB.1 hi).1;have p:∀i∈A,i∈Q:=λi hi=>k i (m i hi);have g:∀i,i∈l.filter (λi=>!Ai i A)↔i∈l/\i∉A:=λi=>by grind [A0,Ai]
 refine⟨λs=>AED λv=>?_,λn=>AED λo=>?_⟩
 .rw[lkE h k,Option.or_eq_some_iff,lkE h0 hf,lkE h p];constructor
  .rintro (⟨i,hi,d,a⟩|⟨hn,a⟩)
   .by_cases c:i∈A
    .refine .inr ⟨?_,.inl ⟨i,c,d,a⟩⟩;cases b:lk s (A5 ops en ⟨[],[]⟩ (l.filter λi=>!Ai i A)).env with
     | none=>rfl
     | some u =>
      rcases (lkE h0 hf s u).1 b with ⟨j,e,f,_⟩|⟨_,b⟩
      .have:=h.slot i (k i hi) j (hf j e) s d f;subst this;exact absurd c ((g i).1 e).2
      cases b
    exact .inl (.inl ⟨i,(g i).2 ⟨hi,c⟩,d,a⟩)
   refine .inr ⟨?_,.inr ⟨λi hi=>hn i (m i hi),a⟩⟩;cases b:lk s (A5 ops en ⟨[],[]⟩ (l.filter λi=>!Ai i A)).env with
   | none=>rfl
   | some u =>
    rcases (lkE h0 hf s u).1 b with ⟨j,e,f,_⟩|⟨_,b⟩
    .exact absurd f (hn j ((g j).1 e).1)
    cases b
  rintro ((⟨i,hi,d,a⟩|⟨_,a⟩)|⟨b,⟨i,hi,d,a⟩|⟨hn,a⟩⟩)
  .grind
  .cases a
  .grind
  refine .inr ⟨λi hi d=>?_,a⟩;by_cases c:i∈A
  .exact hn i c d
  have:=(lkE h0 hf s (en i).v).2 (.inl ⟨i,(g i).2 ⟨hi,c⟩,d,rfl⟩);rw[b]at this;cases this
 rw[lkO h k,Option.or_eq_some_iff,lkO h0 hf,lkO h p];constructor
 .rintro (⟨i,hi,a⟩|⟨hn,a⟩)
  .by_cases c:i∈A
   .refine .inr ⟨?_,.inl ⟨i,c,a⟩⟩;cases b:lk n (A5 ops en ⟨[],[]⟩ (l.filter λi=>!Ai i A)).objs with
    | none=>rfl
    | some u =>
     rcases (lkO h0 hf n u).1 b with ⟨j,e,f⟩|⟨_,b⟩
     .have:=h.name i (k i hi) j (hf j e) n _ _ a f;subst this;exact absurd c ((g i).1 e).2
     cases b
   exact .inl (.inl ⟨i,(g i).2 ⟨hi,c⟩,a⟩)
  refine .inr ⟨?_,.inr ⟨λi hi=>hn i (m i hi),a⟩⟩;cases b:lk n (A5 ops en ⟨[],[]⟩ (l.filter λi=>!Ai i A)).objs with
  | none=>rfl
  | some u =>
   rcases (lkO h0 hf n u).1 b with ⟨j,e,f⟩|⟨_,b⟩
   .rw[hn j ((g j).1 e).1]at f;cases f
   cases b
 rintro ((⟨i,hi,a⟩|⟨_,a⟩)|⟨b,⟨i,hi,a⟩|⟨hn,a⟩⟩)
 .grind
 .cases a
 .grind
 refine .inr ⟨λi hi=>?_,a⟩;by_cases c:i∈A
 .exact hn i c
 cases d:lk n (en i).obs with
 | none=>rfl
 | some u =>
  have:=(lkO h0 hf n u).2 (.inl ⟨i,(g i).2 ⟨hi,c⟩,d⟩);rw[b]at this;cases this
end
def A1e (tb:Tb) (ops:List Oper) (τ:St) (en:Nat->En) (pre:List Nat) (i:Nat) (o:Oper):Prop :=
 ∃vc:Prop,aq tb ⟨(A5 ops en τ pre).env,CH false (Ha o.op) τ.objs (ES ops en pre)⟩ (o.dst.getD 0) o.op=some (vc,(en i).v,(en i).obs)/\vc
theorem f8 {ts:List Nat} {d:Nat} {obs:List (Nat×Obj)}:CH false ts X (KK d obs E)=CH false ts X ((d,obs) :: E):=by
 cases obs with
 | nil=>simp only[KK,CH,nO];split<;>rfl
 | cons x r=>rfl
theorem A1f {o:Op}:Mh false o X E=CH false (Ha o) X E:=by
 cases E<;>rfl
theorem YW {tb:Tb} {ops:List Oper} {τ:St} {en:Nat->En}:∀ {Q:List Nat} {ens:EN} {pre:List Nat} {E:List (Nat×List (Nat×Obj))} {vc:Prop},mY tb ops τ.objs Q E (A5 ops en τ pre).env=some (vc,ens)->vc ->
  (∀ts,CH false ts τ.objs E=CH false ts τ.objs (ES ops en pre))->(∀(j i:Nat) (e:Nat×AV×List (Nat×Obj)),Q[j]?=some i->ens[j]?=some e->en i=⟨true,e.2.1,e.2.2⟩) ->
  ens.length=Q.length/\∀(j i:Nat),Q[j]?=some i->∃(o:Oper) (e:Nat×AV×List (Nat×Obj)),ops[i]?=some o/\ens[j]?=some e/\Az ops i=some e.1/\A1e tb ops τ en ((Q.take j).reverse++pre) i o
 | [],ens,pre,E,vc,h,q,g,m=>by grind [mY]
 | i :: Q,ens,pre,E,vc,h,q,g,m=>by
  simp only[mY]at h;cases b:ops[i]? with
  | none=>rw[b]at h;simp[f6]at h
  | some o =>
   rw[b]at h;simp only[f6]at h;cases a:o.dst with
   | none=>rw[a]at h;simp[aU]at h
   | some d =>
    cases c:aq tb ⟨(A5 ops en τ pre).env,Mh false o.op τ.objs E⟩ (o.dst.getD 0) o.op with
    | none=>rw[c,a]at h;simp[aU]at h
    | some r =>
     obtain⟨y,v,obs⟩:=r;rw[c,a]at h;simp only[aU]at h;cases n:mY tb ops τ.objs Q (KK d obs E) ((d,v) :: (A5 ops en τ pre).env) with
     | none=>rw[n]at h;simp[f7]at h
     | some p =>
      obtain⟨A,z⟩:=p;rw[n]at h;simp only[f7]at h;cases h;have hi:=m 0 i (d,v,obs) rfl rfl;have l:Az ops i=some d:=by simp[Az,b,a]
      have w:(A5 ops en τ (i :: pre)).env=(d,v) :: (A5 ops en τ pre).env:=by simp[A5,l,St.add,hi]
      have s:=YW (pre:=i :: pre) (by rw[w];exact n) q.2 (λts=>by
       rw[f8];simp only[ES,gO,l,ACP,hi,CH];rw[g ts];rfl) (λj k e h1 f=>m (j+1) k e (by simpa using h1) (by simpa using f))
      refine⟨by simp[s.1],λj k hk=>?_⟩;cases j with
      | zero =>
       simp only[ADC,ACR]at hk;subst hk;refine⟨o,(d,v,obs),b,rfl,l,y,?_,q.1⟩;rw[A1f,g]at c;simp only[ACQ,AEI,nO];rw[hi];exact c
      | succ j =>
       obtain⟨x,e,h1,f,t,u⟩:=s.2 j k (by simpa using hk);refine⟨x,e,h1,by simpa using f,t,?_⟩;simpa[AC9] using u
theorem SB:∀ {ens:EN} {objs:List (Nat×Obj)},R9 ens objs=true->∀(j:Nat) (e:Nat×AV×List (Nat×Obj)),ens[j]?=some e->∀n o,lk n e.2.2=some o->lk n objs=none/\∀(b:Nat) (a:Nat×AV×List (Nat×Obj)) (c:Obj),ens[b]?=some a->lk n a.2.2=some c->j=b
 | [],objs,_,j,e,h=>by simp at h
 | (d,v,obs) :: r,objs,h,j,e,f=>by
  simp only[R9,An,OF,ACq]at h;have h0:∀n o,lk n obs=some o->lk n objs=none:=λn o hn=>h.1 _ (Ff hn);have g:=SB h.2;grind [lk,BJ]
end
section
open Go Go.RowKit
structure YX (ops:Array Oper) (anc:List (List Nat)):Prop where
 lt:∀i o,ops[i]?=some o->∀e∈EJ o,e<i
 cl:∀i o,ops[i]?=some o->∀j∈anc.getD i [],j∈EJ o\/∃e∈EJ o,j∈anc.getD e []
theorem AAT {ops:Array Oper} {anc:List (List Nat)} (h:A8Z ops.toList anc=true):YX ops anc:=by
 simp only[A8Z,OF,AAn]at h;have hi:∀i o,ops[i]?=some o->((EJ o).all λe=>decide (e<i))=true/\((anc.getD i []).all λj=>Ai j (EJ o)||(EJ o).any λe=>Ai j (anc.getD e []))=true:=by grind
 refine⟨λi o a e b=>?_,λi o a j c=>?_⟩
 .grind
 grind [A0]
section
variable {ops:Array Oper} {k:Nat} {anc:List (List Nat)} {Q:Exit->Act->World->Prop}
theorem TY (a:YX ops anc) {listed:Array Bool} (g:∀i o,ops[i]?=some o->listed.getD i true=true->∀e∈EJ o,listed.getD e false=true) :
  ∀i o,ops[i]?=some o->(∀e∈EJ o,listed.getD e false=true)->∀j∈anc.getD i [],listed.getD j false=true:=by
 intro i;induction i using Nat.strongRecOn with
 | _ i l =>
  intro o b c j f;rcases a.cl i o b j f with h1|⟨e,d,h⟩
  .exact c j h1
  have k:=a.lt i o b e d;grind
theorem SC {F:Fence} {P:Program} (g:YX ops anc) (q:∀i o,ops[i]?=some o->k<=i->∀j,j<i->j∈anc.getD i []):∀ {rest:List Oper} {p:Nat} {listed:Array Bool} {a:Act} {w:World},ops.toList.drop p=rest->k<=p->p<=ops.size->listed.size=ops.size ->
  (∀i,i<ops.size->(listed.getD i true=true↔i<p))->wpListIn F 0 P ops Q rest a w->wpAnyIn F 0 P .any ops Q rest.length listed a w
 | [],p,listed,a,w,l,C,D,m,f,c=>by
  have N:p=ops.size:=by
   have:=AC4 List.length l;simp at this;omega
  refine⟨?_,c⟩;apply AEd.2;grind [Dv]
 | o :: r,p,listed,a,w,l,C,D,m,f,c=>by
  obtain⟨d,v⟩:=YS l;have d:ops[p]?=some o:=by simpa using d
  have E:p<ops.size:=(AAz.1 d).1;have x:∀e b,e<ops.size->listed.getD e b=listed.getD e true:=λe b h=>by grind
  have L:∀i o,ops[i]?=some o->listed.getD i true=true->∀e∈EJ o,listed.getD e false=true:=by
   intro i o u h1 e h;have H:i<ops.size:=(AAz.1 u).1;have J:=(f i H).1 h1;have K:=g.lt i o u e h;grind
  have G:∀i,i∈Region.ready .any ops listed->i=p:=by grind [Dv,TY]
  refine⟨λM=>?_,λi hi=>?_⟩
  .exfalso;have:p∈Region.ready .any ops listed:=by
    rw[Dv];refine⟨?_,o,d,λe h=>?_⟩
    .cases hh:listed.getD p true with
     | false=>rfl
     | true=>have:=(f p E).1 hh;omega
    have:=g.lt p o d e h;rw[x e false O1];exact(f e O1).2 this
   grind
  have z:=G i hi;subst z;have t:∀(j:Nat),j<ops.size->((listed.setIfInBounds i true).getD j true=true↔j<i+1):=by
   intro j A;have B:j<listed.size:=by omega
   by_cases s:j=i
   .subst s;simp[Array.getD,B]
   have h1:(listed.setIfInBounds i true).getD j true=listed.getD j true:=getD_set_ne true (λe=>s e.symm);rw[h1,f j A];omega
  unfold wpOpIn;rw[d];simp only;unfold wpListIn at c;split
  .rename_i n;rw[At n]at c;exact Oper.wpIn_mono (λI w' y=>SC g q v.symm O1 O1 (by simpa using m) t y) c
  rename_i n;rw[As n]at c;exact⟨c.1,SC g q v.symm O1 O1 (by simpa using m) t c.2⟩
end
structure QOk (ops:List Oper) (anc:List (List Nat)) (L Q:List Nat):Prop where
 nodup:Q.Nodup
 pos:∀(j i:Nat),Q[j]?=some i->i∉L/\∃o,ops[i]?=some o/\o.guard=none/\(∀e∈EJ o,e∈L\/e∈Q.take j)/\(∀t∈Ha o.op,∀k∈Q,Az ops k=some t->k∈anc.getD i []/\k∈Q.take j)
 slot:∀i∈Q,∀j∈Q,∀s,Az ops i=some s->Az ops j=some s->i=j
theorem f9 {ops:List Oper} {anc:List (List Nat)} {L Q:List Nat}:∀ {r pre:List Nat},qB1 ops anc L Q r pre=true ->
  (∀(j i:Nat),r[j]?=some i->i∉L/\i∉pre/\i∉r.take j/\∃o,ops[i]?=some o/\o.guard=none/\(∀e∈EJ o,e∈L\/e∈pre\/e∈r.take j)/\(∀t∈Ha o.op,∀k∈Q,Az ops k=some t->k∈anc.getD i []/\(k∈pre\/k∈r.take j)) /\
   ∀k,k∈pre\/k∈r.take j->Az ops k≠Az ops i)
 | [],pre,h,j,i,a=>by simp at a
 | x :: r,pre,h,j,i,a=>by
  simp only[qB1,An]at h;obtain⟨h1,s⟩:=h;cases j with
  | zero =>
   simp only[ADC,ACR]at a;subst a;cases f:ops[x]? with
   | none=>rw[f]at h1;cases h1
   | some o =>
    rw[f]at h1;simp only[An,OF,AAo,A0,AE4,lU,ACq]at h1;obtain⟨⟨⟨⟨⟨⟨A,q⟩,B⟩,C⟩,D⟩,c⟩,d⟩:=h1;refine⟨λh=>(by rw[(A0 _ _).2 h]at c;cases c),λh=>(by rw[(A0 _ _).2 h]at d;cases d),sc,o,rfl,q,λe v=>?_,λt w k hk u=>?_,λk hk=>?_⟩
    .grind
    .grind
    grind [Az]
  | succ j =>
   obtain⟨g,b,l,o,m,n,y,z,p⟩:=f9 s j i (by simpa using a);simp only[By,not_or]at b;refine⟨g,b.2,by simp[AC9,b.1,l],o,m,n,λe v=>?_,λt w k hk u=>?_,λk hk=>p k ?_⟩
   .grind
   .grind
   grind
theorem gA {α:Type} {l:List α} {i:Nat} {x:α} (h:l[i]?=some x) (a:i<j):x∈l.take j:=by
 rw[AC3];exact⟨i,by rw[AAA,At a];exact h⟩
theorem qOk {ops:List Oper} {anc:List (List Nat)} (h:qB1 ops anc L Q Q []=true):QOk ops anc L Q:=by
 have hs:=f9 h;have m:∀ {i j x y:Nat},Q[i]?=some x->Q[j]?=some y->i<j->x≠y/\Az ops x≠Az ops y:=by grind [gA]
 refine⟨?_,λj i c=>?_,λi hi j c s h1 q=>?_⟩
 .rw[List.nodup_iff_pairwise_ne,oS];intro i j hi c l e;exact(m (AT hi) (AT c) l).1 e
 .obtain⟨d,_,_,o,f,g,n,p,_⟩:=hs j i c;refine⟨d,o,f,g,λe v=>?_,λt w k hk u=>?_⟩
  .grind
  grind
 obtain⟨a,ha⟩:=AC3.1 hi;obtain⟨b,r⟩:=AC3.1 c;grind
theorem m4:∀ {Q:List Nat} {ens:EN},Q.Nodup->∀(j i:Nat) (e:Nat×AV×List (Nat×Obj)),Q[j]?=some i->ens[j]?=some e->PA Q ens i=⟨true,e.2.1,e.2.2⟩
 | [],ens,_,j,i,e,h,_=>by simp at h
 | x :: Q,[],_,j,i,e,_,h=>by simp at h
 | x :: Q,f :: ens,hn,j,i,e,h1,a=>by
  cases j with
  | zero =>
   simp only[ADC,ACR]at h1 a;subst h1;subst a;simp[PA,AEr,lk]
  | succ j =>
   have h1:Q[j]?=some i:=by simpa using h1
   have b:i≠x:=λe=>by grind
   have:=m4 (AC2.1 hn).2 j i e h1 (by simpa using a);simp only[PA,AEr,lk,As b]at this ⊢;exact this
structure Fr (tb:Tb) (ops:List Oper) (anc:List (List Nat)) (L Q:List Nat) (ens:EN) (τ:St):Prop where
 q:QOk ops anc L Q
 len:ens.length=Q.length
 own:Own ops (PA Q ens) τ Q
 at_:∀(j i:Nat),Q[j]?=some i->∃(o:Oper) (e:Nat×AV×List (Nat×Obj)),ops[i]?=some o/\ens[j]?=some e/\Az ops i=some e.1/\PA Q ens i=⟨true,e.2.1,e.2.2⟩/\A1e tb ops τ (PA Q ens) (Q.take j).reverse i o
theorem A1g {tb:Tb} {ops:List Oper} {anc:List (List Nat)} {ens:EN} {τ:St} (d:QOk ops anc L Q) (h:A8Y tb ops Q ens τ):Fr tb ops anc L Q ens τ:=by
 obtain⟨vc,h1,p,q⟩:=h;have hz:=λ(j i:Nat) (e:Nat×AV×List (Nat×Obj))=>m4 (ens:=ens) d.nodup j i e;obtain⟨t,hf⟩:=YW (en:=PA Q ens) (pre:=[]) h1 p (λts=>rfl) hz;have k:∀i∈Q,∃(j:Nat) (e:Nat×AV×List (Nat×Obj)),Q[j]?=some i/\ens[j]?=some e/\PA Q ens i=⟨true,e.2.1,e.2.2⟩:=by
  intro i hi;obtain⟨j,c⟩:=AC3.1 hi;grind
 refine⟨d,t,⟨d.slot,λi hi n o hn=>?_,λi hi j c n o w f g=>?_⟩,λj i c=>?_⟩
 .grind [SB]
 .obtain⟨a,e,ha,r,u⟩:=k i hi;obtain⟨b,m,l,s,v⟩:=k j c;rw[u]at f;rw[v]at g;have:=(SB q a e r n o f).2 b m w s g;subst this;rw[ha]at l;injection l
 grind
theorem xK {ops:List Oper} {en:Nat->En} {τ:St} {Q:List Nat} (h:Own ops en τ Q) {ts pre ex:List Nat} (k:∀j∈pre,j∈Q) (e:∀j∈ex,j∈Q) (d:∀j∈pre,Ai ((Az ops j).getD 0) ts=true->j∈ex) :
  lk n (CH false ts τ.objs (ES ops en pre))=some o->lk n (A5 ops en τ ex).objs=some o:=by
 rw[lkO h e];induction pre with
 | nil =>
  simp only[ES,ACS,CH];intro hn;refine .inr ⟨λj b=>?_,hn⟩;cases a:lk n (en j).obs with
  | none=>rfl
  | some f=>have:=h.new j (e j b) n f a;rw[this]at hn;cases hn
 | cons i r c =>
  simp only[ES,gO,CH];have c:=c (λj b=>k j (by simp[b])) (λj b=>d j (by simp[b]));split
  .rename_i g;intro hn;rw[BJ]at hn;cases a:lk n (en i).obs with
   | some f =>
    rw[a]at hn;simp only[AEA]at hn;cases hn;exact .inl ⟨i,d i sc (by simpa using g),a⟩
   | none =>
    rw[a]at hn;exact c (by simpa[ES] using hn)
  exact c
theorem SD {p:Nat×Obj}:∀ {l:List (Nat×Obj)},p∈l->∃b,lk p.1 l=some b
 | (c,d) :: r,h=>by
  simp only[lk];by_cases a:p.1=c
  .simp_all
  rw[As a];rcases By.1 h with rfl|h
  .exact absurd rfl a
  exact SD h
theorem m5 {c:Cx} (y:c.Ok) {ops:List Oper} {anc:List (List Nat)} {ens:EN} {τ:St} (hF:Fr c.tb ops anc L Q ens τ) {ex:List Nat} (h:∀i∈ex,i∈Q) {j i:Nat} {o:Oper} (m:Q[j]?=some i) (s:ops[i]?=some o) (aj:i∉ex)
  (ad:∀k∈anc.getD i [],k∈Q->k∈ex) (I:∀d,o.dst=some d->d<c.nt) {a:Act} {w:World} {next:Act->World->Prop} {Qe:Exit->Act->World->Prop} (hs:c.sat (A5 ops (PA Q ens) τ ex) a w)
  (hn:∀A w',c.sat (A5 ops (PA Q ens) τ (i :: ex)) A w'->next A w'):o.wpIn (FR c.r) 0 c.P a w next Qe:=by
 obtain⟨l,e,D,af,ab,hz,vc,U,X⟩:=hF.at_ j i m;rw[s]at D;cases D;obtain⟨_,an,E,_,_,am⟩:=hF.q.pos j i m;rw[s]at E;cases E;have z:∀k∈(Q.take j).reverse,k∈Q:=λk hk=>ABI (by simpa using hk);have S:Ops ⟨(A5 ops (PA Q ens) τ (Q.take j).reverse).env,CH false (Ha o.op) τ.objs (ES ops (PA Q ens) (Q.take j).reverse)⟩ (A5 ops (PA Q ens) τ ex) o.op.operands.toList:=by
  intro x Y v b;cases x with
  | tmp t =>
   simp only[Al]at b ⊢;have al:t∈Ha o.op:=ADF.2 ⟨_,Y,rfl⟩;rw[lkE hF.own z]at b;rw[lkE hF.own h];rcases b with ⟨k,hk,ag,ah⟩|⟨ak,b⟩
   .grind
   grind
  | const ao=>exact b
  | global g=>exact b
  | func f=>exact b
 have R:mQ ⟨(A5 ops (PA Q ens) τ (Q.take j).reverse).env,CH false (Ha o.op) τ.objs (ES ops (PA Q ens) (Q.take j).reverse)⟩ (A5 ops (PA Q ens) τ ex):=by
  intro n l hn;refine xK hF.own z h (λk hk ai=>?_) hn;obtain⟨Z,J⟩:=AC3.1 (z k hk);obtain⟨_,aa,_,_,ae,_⟩:=hF.at_ Z k J;grind [A0]
 have V:=Uc R S U;have C:=AC5 m;have B:Bp (PA Q ens i).obs (A5 ops (PA Q ens) τ ex)=true:=by
  simp only[Bp,OF,ACq];intro p T;obtain⟨l,F⟩:=SD T;cases N:lk p.1 (A5 ops (PA Q ens) τ ex).objs with
  | none=>rfl
  | some u =>
   rcases (lkO hF.own h p.1 u).1 N with ⟨k,hk,M⟩|⟨_,hu⟩
   .have:=hF.own.name i C k (h k hk) p.1 l u F M;grind
   rw[hF.own.new i C p.1 l F]at hu;cases hu
 obtain⟨ρ,G⟩:=hs;refine qX (w6 y G) V X B λu ρ' w' W=>hn _ _ ?_;have H:Az ops i=o.dst:=by simp[Az,s]
 simp only[A5,H];exact⟨ρ',G.add y.K y.O I B W⟩
end
section
open Go Go.RowKit
theorem Mp:∀ {l l':List Nat},l.Nodup->(∀x∈l,x∈l')->l.length<=l'.length
 | [],_,_,_=>by simp
 | x :: l,l',hn,h=>by
  have b:=h x sc;have:=Mp (l:=l) (l':=l'.erase x) (AC2.1 hn).2 (λy a=>by
   have:y≠x:=λe=>(AC2.1 hn).1 (e▸a);exact(AEh this).2 (h y (by simp[a])))
  grind
theorem JS (A:List Nat) (l:Nat) (a:List (List Nat×Nat)) (D:List Nat):qs ((A,l) :: a) D=A++qs a D:=by simp[qs]
structure AAU (ops:List Oper) (anc:List (List Nat)) (p0:Nat) (L:List Nat) (ps:List (List Nat×Nat)) (D:List Nat):Prop where
 all:∀i,i<p0->i∈L\/i∈qs ps D\/i∈ps.map (·.2)
 back:∀i,p0<=i->i<ops.length->∀j,j<i->j∈anc.getD i []
 L:∀i∈L,i<p0
 Q:∀i∈qs ps D,i<p0
 lo:∀p∈ps,p.2<p0
 p0:p0<=ops.length
theorem Vm {ops:List Oper} {anc:List (List Nat)} (h:UF ops anc n L [] Q=true):QOk ops anc L Q/\(∀i,i<n->i∈L\/i∈Q)/\L.length+Q.length=n/\n<=ops.length/\(∀i∈L,i<n)/\(∀i∈Q,i<n)/\(∀i,n<=i->i<ops.length->∀j,j<i->j∈anc.getD i []):=by
 simp only[UF,An,OF,AAn,AAo,Is,A0]at h;grind [qOk]
theorem KR {ops:List Oper} {anc:List (List Nat)} {l:Nat} {b:List (List Nat×Nat)} (h:UF ops anc n L ((A,l) :: b) Q=true):QOk ops anc L (A++qs b Q)/\(∃o,ops[l]?=some o/\o.guard=none/\(∀e∈EJ o,e∈L\/e∈A))/\(∀j∈A,j∈anc.getD l [])/\l∉L/\l∉A++qs b Q/\(∀p∈b,l∈anc.getD p.2 [])/\UF ops anc n (l :: (A++L)) b Q=true:=by
 simp only[UF,An,OF,A0]at h;obtain⟨⟨⟨h1,a⟩,m⟩,D⟩:=h;cases f:ops[l]? with
 | none=>rw[f]at a;cases a
 | some o =>
  rw[f]at a;simp only[An,OF,AAo,A0,lU,ACq]at a;obtain⟨⟨⟨⟨g,i⟩,k⟩,c⟩,d⟩:=a;exact⟨qOk h1,⟨o,rfl,g,i⟩,k,λh=>(by rw[(A0 _ _).2 h]at c;cases c),λh=>(by rw[(A0 _ _).2 h]at d;cases d),m,D⟩
theorem Vn {ops:List Oper} {anc:List (List Nat)} {p0:Nat}:∀ {c:List (List Nat×Nat)} {L D:List Nat},UF ops anc p0 L c D=true->AAU ops anc p0 L c D
 | [],L,D,h=>by
  obtain⟨_,h1,j,d,e,f,g⟩:=Vm h;refine⟨λi hi=>?_,g,e,by simpa[qs] using f,sc,d⟩;grind [qs]
 | (A,l) :: c,L,D,h=>by
  obtain⟨_,_,_,_,_,_,h1⟩:=KR h;have a:=Vn h1;refine⟨λi hi=>?_,a.back,λi hi=>a.L i (by simp[hi]),λi hi=>?_,λp b=>?_,a.p0⟩
  .rcases a.all i hi with h|h|h
   .grind [JS]
   .grind [JS]
   grind
  .rw[JS,IS]at hi;rcases hi with hi|hi
   .exact a.L i (by simp[hi])
   exact a.Q i hi
  rcases By.1 b with rfl|b
  .exact a.L l sc
  exact a.lo p b
theorem aV {ops:List Oper} {en:Nat->En} {τ:St}:∀ {Q:List Nat} {ens:EN} {pre:List Nat},ens.length=Q.length->(∀(j i:Nat) (e:Nat×AV×List (Nat×Obj)),Q[j]?=some i->ens[j]?=some e->Az ops i=some e.1/\en i=⟨true,e.2.1,e.2.2⟩) ->
  Mo ens (A5 ops en τ pre)=A5 ops en τ (Q.reverse++pre)
 | [],[],pre,_,_=>rfl
 | [],_ :: _,_,h,_=>by simp at h
 | _ :: _,[],_,h,_=>by simp at h
 | i :: Q,(d,v,obs) :: ens,pre,f,h=>by
  obtain⟨h1,a⟩:=h 0 i (d,v,obs) rfl rfl;have:(⟨(d,v) :: (A5 ops en τ pre).env,obs++(A5 ops en τ pre).objs⟩:St)=A5 ops en τ (i :: pre):=by simp[A5,h1,a,St.add]
  simp only[Mo];rw[this,aV (by simpa using f) (λj k e b c=>h (j+1) k e (by simpa using b) (by simpa using c))];simp
section
variable {c:Cx} {ops:Array Oper} {anc:List (List Nat)} {p0:Nat} {Kf:St->Prop} {Qe:Exit->Act->World->Prop}
theorem A1h {a:List (List Nat×Nat)} {L D:List Nat} {ens:EN} {τ:St} (b:UF ops.toList anc p0 L a D=true) (d:Mix c ops.toList Kf a D ens τ):Fr c.tb ops.toList anc L (qs a D) ens τ:=by
 cases a with
 | nil =>
  have:qs [] D=D:=rfl;rw[this];exact A1g (Vm b).1 d.1
 | cons p a =>
  obtain⟨A,l⟩:=p;rw[JS];exact A1g (KR b).1 d.1
theorem YY (x:YX ops anc) {a:List (List Nat×Nat)} {L D:List Nat} {ex:List Nat} {listed:Array Bool} (w:UF ops.toList anc p0 L a D=true) (v:QOk ops.toList anc L (qs a D)) (u:∀i∈ex,i∈qs a D) (I:listed.size=ops.size)
  (H:∀i,i<ops.size->(listed.getD i true=true↔i∈L\/i∈ex)) (hf:¬(a=[]/\∀i∈qs a D,i∈ex)):∃i,i∈Region.ready .any ops listed:=by
 have C:∀e b,e<ops.size->listed.getD e b=listed.getD e true:=λe b c=>by grind
 have mk:∀i o,ops[i]?=some o->i∉L->i∉ex->(∀e∈EJ o,e∈L\/e∈ex)->i∈Region.ready .any ops listed:=by
  intro i o f h1 k E;have J:i<ops.size:=(AAz.1 f).1;rw[Dv];refine⟨?_,o,f,λe c=>?_⟩
  .grind
  have F:=x.lt i o f e c;grind
 by_cases t:∀i∈qs a D,i∈ex
 .cases a with
  | nil=>exact absurd ⟨rfl,t⟩ hf
  | cons p a =>
   obtain⟨A,l⟩:=p;rw[JS]at t u;obtain⟨_,⟨o,f,_,y⟩,_,h1,k,_,_⟩:=KR w;refine⟨l,mk l o (by simpa using f) h1 (λh=>k (u l h)) λe c=>?_⟩;rcases y e c with h|h
   .exact .inl h
   grind
 have key:∀(n j:Nat),j<=n->(∃i,(qs a D)[j]?=some i/\i∉ex)->∃i,i∈Region.ready .any ops listed:=by
  intro n;induction n with
  | zero =>
   rintro j s ⟨i,hi,d⟩;have:j=0:=by omega
   subst this;obtain⟨m,o,q,_,r,_⟩:=v.pos 0 i hi;refine⟨i,mk i o (by simpa using q) m d λe c=>?_⟩;rcases r e c with h|h
   .exact .inl h
   simp at h
  | succ n B =>
   rintro j s ⟨i,hi,d⟩;by_cases z:∃g,g<j/\∃i',(qs a D)[g]?=some i'/\i'∉ex
   .obtain⟨g,h1,k⟩:=z;exact B g O1 k
   obtain⟨m,o,q,_,r,_⟩:=v.pos j i hi;refine⟨i,mk i o (by simpa using q) m d λe c=>?_⟩;rcases r e c with h|h
   .exact .inl h
   right;obtain⟨g,G⟩:=AC3.1 h;grind
 have:∃i,i∈qs a D/\i∉ex:=by grind
 obtain⟨i,hi,d⟩:=this;obtain⟨j,s⟩:=AC3.1 hi;exact key j j (Of _) ⟨i,s,d⟩
theorem YZ (G:YX ops anc) (hT:∀τ,Kf τ->∀a w,c.sat τ a w->wpListIn (FR c.r) 0 c.P ops Qe (ops.toList.drop p0) a w) {m:Nat} {L D:List Nat} {ens:EN} {τ:St} {ex:List Nat} {listed:Array Bool} {a:Act} {w:World}
  (C:UF ops.toList anc p0 L [] D=true) (g:Mix c ops.toList Kf [] D ens τ) (hnd:(L++ex).Nodup) (b:∀i∈ex,i∈D) (V:m+L.length+ex.length=ops.size) (J:listed.size=ops.size) (I:∀i,i<ops.size->(listed.getD i true=true↔i∈L\/i∈ex))
  (hs:c.sat (A5 ops.toList (PA D ens) τ ex) a w) (d:∀i∈D,i∈ex):wpAnyIn (FR c.r) 0 c.P .any ops Qe m listed a w:=by
 obtain⟨q,h1,R,y,S,T,z⟩:=Vm C;have hF:=A1g q g.1;have U:ex.length=D.length:=ADY (Mp (ACr.1 hnd).2.1 b) (Mp q.nodup d);have K:m=(ops.toList.drop p0).length:=by grind
 have E:Mo ens τ=A5 ops.toList (PA D ens) τ D.reverse:=by
  have:=aV (ops:=ops.toList) (en:=PA D ens) (τ:=τ) (pre:=[]) hF.len (λj i e A B=>by
   obtain⟨o,O,_,f,u,x,_⟩:=hF.at_ j i A;rw[B]at f;cases f;exact⟨u,x⟩)
  simpa[A5] using this
 have N:c.sat (Mo ens τ) a w:=by
  rw[E];have t:∀i∈D.reverse,i∈D:=λi hi=>by simpa using hi
  have l:∀i,i∈ex↔i∈D.reverse:=λi=>⟨λh=>by simpa using b i h,λh=>d i (by simpa using h)⟩;refine Vf (λs=>AED λv=>?_) (λn=>AED λo=>?_) hs
  .rw[lkE hF.own t,lkE hF.own b];simp only[l]
  rw[lkO hF.own t,lkO hF.own b];simp only[l]
 have:=SC (Q:=Qe) (F:=FR c.r) (P:=c.P) G (k:=p0) (λi o M hi j H=>z i hi (by have:=(AAz.1 M).1;simpa using this) j H) (rest:=ops.toList.drop p0) (p:=p0) (listed:=listed) (a:=a) (w:=w) rfl (Of _) (by simpa using y) J
  (λi hi=>by
   rw[I i hi];constructor
   .grind
   intro h;rcases h1 i h with h|h
   .exact .inl h
   exact .inr (d i h)) (hT _ g.2 a w N)
 rw[K];exact this
theorem A5i (ch:c.Ok) (bx:∀o∈ops.toList,KH c.nt o=true) (aa:YX ops anc) (hT:∀τ,Kf τ->∀a w,c.sat τ a w->wpListIn (FR c.r) 0 c.P ops Qe (ops.toList.drop p0) a w) :
  ∀(m:Nat) (f:List (List Nat×Nat)) (L D:List Nat) (ens:EN) (τ:St) (ex:List Nat) (listed:Array Bool) (a:Act) (w:World),UF ops.toList anc p0 L f D=true->Mix c ops.toList Kf f D ens τ->(L++ex).Nodup->(∀i∈ex,i∈qs f D) ->
   m+L.length+ex.length=ops.size->listed.size=ops.size->(∀i,i<ops.size->(listed.getD i true=true↔i∈L\/i∈ex))->(∀i o,ops[i]?=some o->(i∈L\/i∈ex)->∀e∈EJ o,e∈L\/e∈ex) ->
   c.sat (A5 ops.toList (PA (qs f D) ens) τ ex) a w->wpAnyIn (FR c.r) 0 c.P .any ops Qe m listed a w:=by
 intro m;induction m with
 | zero =>
  intro f L D ens τ ex listed a w C R hnd B aw T N ad hs;have hF:=A1h C R;by_cases hf:f=[]/\∀i∈qs f D,i∈ex
  .obtain⟨rfl,ap⟩:=hf;exact YZ aa hT C R hnd B aw T N hs ap
  exfalso;obtain⟨i,hi⟩:=YY aa C hF.q B T N hf;rw[Dv]at hi;obtain⟨h1,o,E,_⟩:=hi;have W:i<ops.size:=(AAz.1 E).1;have H:i∉L++ex:=λh=>by grind
  have M:=Vn C;have:=Dw ops.size (i :: (L++ex)) (AC2.2 ⟨H,hnd⟩) (λj d=>by
   have ax:=M.p0;simp only[AEo]at ax;rcases By.1 d with rfl|d
   .exact W
   rcases IS.1 d with d|d
   .have:=M.L j d;omega
   have:=M.Q j (B j d);omega)
  grind
 | succ m bj =>
  intro f L D ens τ ex listed a w C R hnd B aw T N ad hs;have hF:=A1h C R;have M:=Vn C;have bn:∀e b,e<ops.size->listed.getD e b=listed.getD e true:=λe b F=>by grind
  by_cases hf:f=[]/\∀i∈qs f D,i∈ex
  .obtain⟨rfl,ap⟩:=hf;exact YZ aa hT C R hnd B aw T N hs ap
  refine⟨λcv=>?_,λi hi=>?_⟩
  .obtain⟨i,hi⟩:=YY aa C hF.q B T N hf;grind
  rw[Dv]at hi;obtain⟨h1,o,E,cq⟩:=hi;have W:i<ops.size:=(AAz.1 E).1;have H:¬(i∈L\/i∈ex):=λh=>by rw[(N i W).2 h]at h1;cases h1
  have az:∀e∈EJ o,e∈L\/e∈ex:=λe F=>by grind
  have ab:∀j∈anc.getD i [],j∈L\/j∈ex:=by
   have ct:∀i o,ops[i]?=some o->listed.getD i true=true->∀e∈EJ o,listed.getD e false=true:=by
    intro i o E h1 e F;have W:i<ops.size:=(AAz.1 E).1;have X:=aa.lt i o E e F;rw[bn e false O1];exact(N e O1).2 (ad i o E ((N i W).1 h1) e F)
   grind [TY]
  have af:ops.toList[i]?=some o:=by simpa using E
  have cf:o∈ops.toList:=AC5 af;have bw:=BA (bx o cf);have bd:∀(S:List Nat),(∀j,j∈S↔j=i\/j∈L\/j∈ex)->∀j,j<ops.size->((listed.setIfInBounds i true).getD j true=true↔j∈S):=by
   intro S bu j d;have cd:j<listed.size:=by omega
   rw[bu];by_cases av:j=i
   .subst av;simp[Array.getD,cd]
   have X:(listed.setIfInBounds i true).getD j true=listed.getD j true:=getD_set_ne true (λe=>av e.symm);rw[X,N j d];simp[av]
  have bi:∀ {g:Option (Nat×Bool)},g=none->o.guard=g->Region.wanted o (yielded ops a.tmps)=true:=by
   intro g ar e;simp[Region.wanted,e,ar]
  by_cases ae:i∈qs f D
  .obtain⟨j,d⟩:=AC3.1 ae;obtain⟨_,cy,be,ar,_,_⟩:=hF.q.pos j i d;rw[af]at be;cases be;unfold wpOpIn;rw[E];simp only;rw[At (bi rfl ar)];refine m5 ch hF B d af (λh=>H (.inr h)) (λk hk ce=>?_) bw hs λaj w' ci=>?_
   .rcases ab k hk with h|h
    .obtain⟨u,O⟩:=AC3.1 ce;exact absurd h (hF.q.pos u k O).1
    exact h
   refine bj f L D ens τ (i :: ex) _ aj w' C R ?_ (λk hk=>?_) (by simp only[If];omega) (by simpa using T) (λk hk=>?_) (λi' V G au e F=>?_) ci
   .rw[ACr]at hnd ⊢;refine⟨hnd.1,AC2.2 ⟨λh=>H (.inr h),hnd.2.1⟩,λx t y U=>?_⟩;rcases By.1 U with rfl|U
    .exact λe=>H (.inl (e▸t))
    exact hnd.2.2 x t y U
   .rcases By.1 hk with rfl|hk
    .exact ae
    exact B k hk
   .rw[bd (i :: (L++ex)) (λj=>by simp) k hk];simp only[By,IS];constructor
    .rintro (h|h|h)
     .exact .inr (.inl h)
     .exact .inl h
     exact .inr (.inr h)
    rintro (h|h|h)
    .exact .inr (.inl h)
    .exact .inl h
    exact .inr (.inr h)
   have:e∈L\/e∈ex:=by
    rcases au with h|h
    .exact ad i' V G (.inl h) e F
    rcases By.1 h with rfl|h
    .rw[E]at G;cases G;exact az e F
    exact ad i' V G (.inr h) e F
   rcases this with h|h
   .exact .inl h
   exact .inr (by simp[h])
  . -- no operation of the front
   have cw:¬p0<=i:=by
    intro ca;have ay:=M.back i ca (by simpa using W);cases f with
    | nil =>
     refine hf ⟨rfl,λj d=>?_⟩;have X:=M.Q j d;rcases ab j (ay j O1) with h|h
     .obtain⟨u,O⟩:=AC3.1 d;exact absurd h (hF.q.pos u j O).1
     exact h
    | cons p f =>
     obtain⟨A,l⟩:=p;obtain⟨_,_,_,al,am,_,_⟩:=KR C;have X:=M.lo (A,l) sc;simp only at X;rcases ab l (ay l O1) with h|h
     .exact al h
     exact am (by rw[<-JS A l];exact B l h)
   cases f with
   | nil =>
    rcases M.all i O1 with h|h|h
    .exact absurd (.inl h) H
    .exact absurd h ae
    cases h
   | cons p f =>
    obtain⟨A,l⟩:=p;obtain⟨_,⟨ol,bf,cb,cu⟩,bq,al,am,bo,br⟩:=KR C;have cc:i=l:=by
     rcases M.all i O1 with h|h|h
     .exact absurd (.inl h) H
     .exact absurd h ae
     simp only[gO,By,IN]at h;rcases h with h|⟨p,ax,rfl⟩
     .exact h
     rcases ab l (bo p ax) with h|h
     .exact absurd h al
     exact absurd (B l h) (by rw[JS];exact am)
    subst cc;rw[af]at bf;cases bf;rw[JS]at hF B hs ae;obtain⟨cs,V,G,bs⟩:=R;rw[af]at G;cases G;have Y:∀j∈A,j∈ex:=λj d=>by
     rcases ab j (bq j d) with h|h
     .obtain⟨u,O⟩:=AC3.1 (show j∈A++qs f D by simp[d]);exact absurd h (hF.q.pos u j O).1
     exact h
    have an:A.Nodup/\(qs f D).Nodup/\∀x∈A,∀y∈qs f D,x≠y:=ACr.1 hF.q.nodup;have bv:Mo (ens.take A.length) τ=A5 ops.toList (PA (A++qs f D) ens) τ A.reverse:=by
     have:=aV (ops:=ops.toList) (en:=PA (A++qs f D) ens) (τ:=τ) (pre:=[]) (Q:=A) (ens:=ens.take A.length) (by have:=hF.len;simp only[IF]at this;simp only[On];omega) (λj i e K z=>by
      have bc:j<A.length:=(aT.1 K).1;obtain⟨o,cp,_,I,J,ak,_⟩:=hF.at_ j i (by rw[AAr bc];exact K);rw[AAA,At bc,I]at z;cases z;exact⟨J,ak⟩)
     simpa[A5] using this
    have bh:=xJ (A:=A.reverse) hF.own B (λj d=>Y j (by simpa using d));rw[<-bv]at bh;have ai:∀j,j∈ex.filter (λj=>!Ai j A.reverse)↔j∈ex/\j∉A:=λj=>by
     rw[ACB];have:=A0 j A.reverse;constructor
     .rintro⟨K,z⟩;exact⟨K,λI=>by rw[this.2 (by simpa using I)]at z;cases z⟩
     rintro⟨K,z⟩;refine⟨K,?_⟩;cases cg:Ai j A.reverse with
     | false=>rfl
     | true=>exact absurd (by simpa using this.1 cg) z
    have Z:∀j∈ex.filter (λj=>!Ai j A.reverse),j∈qs f D:=λj d=>by
     have:=B j ((ai j).1 d).1;rcases IS.1 this with h|h
     .exact absurd h ((ai j).1 d).2
     exact h
    have aq:∀j∈qs f D,∃(u:Nat) (e:Nat×AV×List (Nat×Obj)),(qs f D)[u]?=some j/\(ens.drop A.length)[u]?=some e/\Az ops.toList j=some e.1/\PA (A++qs f D) ens j=⟨true,e.2.1,e.2.2⟩:=by
     intro j d;obtain⟨u,O⟩:=AC3.1 d;obtain⟨o,e,_,I,J,ak,_⟩:=hF.at_ (A.length+u) j (by rw[AAd O1,AD2];exact O);exact⟨u,e,O,by rw[ACh];exact I,J,ak⟩
    have bg:Own ops.toList (PA (A++qs f D) ens) ⟨[],[]⟩ (A++qs f D):=⟨hF.own.slot,λ_ _ _ _ _=>rfl,hF.own.name⟩;have ba:∀j∈ex.filter (λj=>!Ai j A.reverse),j∈A++qs f D:=λj d=>by simp[Z j d]
    unfold wpOpIn;rw[E];simp only;rw[At (bi rfl cb)];refine bs _ _ bh ⟨λs v ag=>?_,λn V hn=>?_⟩ a w _ _ hs λbm bt aj w' cz bb cj=>?_
    .rcases (lkE bg ba s v).1 ag with ⟨j,d,ah,rfl⟩|⟨_,ag⟩
     .obtain⟨u,e,_,z,I,J⟩:=aq j (Z j d);rw[ah]at I;cases I;rw[J];exact⟨e.2.2,AC5 z⟩
     cases ag
    .rcases (lkO bg ba n V).1 hn with ⟨j,d,ah⟩|⟨_,ag⟩
     .obtain⟨u,e,_,z,I,J⟩:=aq j (Z j d);rw[J]at ah;exact⟨e,AC5 z,Ff ah⟩
     cases ag
    have cr:ex.length=A.length+(ex.filter (λj=>!Ai j A.reverse)).length:=by
     have ck:∀l:List Nat,l.length=(l.filter (λj=>Ai j A.reverse)).length+(l.filter (λj=>!Ai j A.reverse)).length:=by
      intro l;induction l with
      | nil=>rfl
      | cons x r cx =>
       simp only[AC7,If];cases Ai x A.reverse<;>simp<;>omega
     rw[ck ex];have bz:=(ACr.1 hnd).2.1;have K:(ex.filter (λj=>Ai j A.reverse)).length<=A.length:=Mp (bz.filter _) λx t=>by
      have:=(A0 _ _).1 (ACB.1 t).2;simpa using this
     have z:A.length<=(ex.filter (λj=>Ai j A.reverse)).length:=Mp an.1 λx t=>ACB.2 ⟨Y x t,(A0 _ _).2 (by simpa using t)⟩;omega
    have ao:∀x,(x∈i :: (A++L)\/x∈ex.filter (λj=>!Ai j A.reverse))↔x=i\/x∈L\/x∈ex:=by
     intro x;rw[ai];simp only[By,IS];constructor
     .rintro ((h|h|h)|h)
      .exact .inl h
      .exact .inr (.inr (Y x h))
      .exact .inr (.inl h)
      exact .inr (.inr h.1)
     rintro (h|h|h)
     .exact .inl (.inl h)
     .exact .inl (.inr (.inr h))
     by_cases t:x∈A
     .exact .inl (.inr (.inl t))
     exact .inr ⟨h,t⟩
    refine bj f (i :: (A++L)) D (ens.drop A.length) bm (ex.filter λj=>!Ai j A.reverse) _ aj w' br bt ?_ Z (by simp only[If,IF];omega) (by simpa using T) (λk hk=>?_) (λi' V G au e F=>?_) ?_
    .obtain⟨n1,cn,bk⟩:=ACr.1 hnd;have bp:∀x∈A,x∉L:=λx t cl=>bk x cl x (Y x t) rfl;rw[ACr];refine⟨AC2.2 ⟨λh=>?_,ACr.2 ⟨an.1,n1,λx t y U e=>bp x t (e▸U)⟩⟩,cn.filter _,λx t y U e=>?_⟩
     .rcases IS.1 h with h|h
      .exact H (.inr (Y i h))
      exact H (.inl h)
     subst e;obtain⟨bl,co⟩:=(ai x).1 U;rcases By.1 t with rfl|t
     .exact H (.inr bl)
     rcases IS.1 t with t|t
     .exact co t
     exact bk x t x bl rfl
    .rw[ao k,bd (i :: (L++ex)) (λj=>by simp) k hk];simp
    .rw[ao];have:e∈L\/e∈ex:=by
      rcases (ao i').1 au with rfl|h
      .rw[E]at G;cases G;exact az e F
      exact ad i' V G h e F
     exact .inr this
    have cm:∀j∈ex.filter (λj=>!Ai j A.reverse),PA (qs f D) (ens.drop A.length) j=PA (A++qs f D) ens j:=λj d=>by
     obtain⟨u,e,K,z,_,J⟩:=aq j (Z j d);rw[J];exact m4 an.2.1 u j e K z
    have t:=A1b (ops:=ops.toList) (en:=PA (qs f D) (ens.drop A.length)) (τ:=bm) (ex.filter λj=>!Ai j A.reverse);rw[LE (en:=PA (A++qs f D) ens) (σ0:=⟨[],[]⟩) cm]at t;exact Vf (λs=>by rw[t.env,bb.env]) (λn=>by rw[t.objs,bb.objs]) cj
end
section
variable {c:Cx} {R:Exit->Act->World->Prop} {k:List Cq} {σ:St}
theorem Gl (j:c.P.follows .mixedOrders=true) (g:c.Ok) {l:List Oper} (p0:Nat) (d:List (List Nat×Nat)) (D:List Nat) (b:(A8Z l (A0Z l)&&UF l (A0Z l) p0 [] d D)=true) {ens:EN}
  (h:Mix c l (fun τ=>D7 c R k l.toArray (l.drop p0) τ) d D ens σ):Ev c R (.run (.region n l.toArray true)) k σ:=by
 intro h1 e a w hs;simp only[IM,B4,OF]at h1;simp only[An]at b;refine wpIn_region_any j ?_;have hk:∀τ,D7 c R k l.toArray (l.drop p0) τ->∀a w,c.sat τ a w->wpListIn (FR c.r) 0 c.P l.toArray (UZ c R k) (l.toArray.toList.drop p0) a w:=fun τ f a w hs=>f (λo m=>h1 o (by simpa using ADf m)) e a w hs;exact A5i (ops:=l.toArray) (anc:=A0Z l) g (by simpa using h1) (AAT (by simpa using b.1)) hk l.toArray.size d [] D ens σ [] (Array.replicate l.toArray.size false) a { w with drawn:=w.drawn+1 } (by simpa using b.2) (by simpa using h) sc sc sc sc (λi hi=>by simp at hi;simp[Array.getD,hi]) (λi o _ hi=>by simp at hi) (fV hs)
end
end
section
open Go Go.RowKit
section
variable {n:Nat} {ns:List Nat}
theorem Gm {m:Nat} (hn:n∈ns) (h:¬Ai m ns=true):¬m=n:=λe=>h ((A0 _ _).2 (e▸hn))
mutual
theorem Vo (hn:n∈ns) {e:Ty} {xs:List e.den}:∀(x:AV),x.fgt ns=x->x.frz n e xs=x
 | .sr m e' lo hi,h=>by grind [AV.fgt,AV.frz,Gm]
 | .ep m e' i path off,h=>by grind [AV.fgt,AV.frz,Gm]
 | .nin m e' i len,h=>by grind [AV.fgt,AV.frz,Gm]
 | .ag l,h=>by
  simp only[AV.fgt,AV.ag.injEq]at h
  simp only[AV.frz,frzs_of_fgt hn l h]
 | .tup l,h=>by
  simp only[AV.fgt,AV.tup.injEq]at h
  simp only[AV.frz,frzs_of_fgt hn l h]
 | .p _ _,_=>rfl
 | .pc _ _,_=>rfl
 | .raw _,_=>rfl
 | .ip _ _,_=>rfl
 | .bp _ _ _,_=>rfl
 | .fn _,_=>rfl
 | .clo _ _,_=>rfl
 | .mp _,_=>rfl
 | .yl _,_=>rfl
 | .top,_=>rfl
theorem frzs_of_fgt (hn:n∈ns) {e:Ty} {xs:List e.den}:∀(l:List AV),AV.fgts ns l=l->AV.frzs n e xs l=l
 | [],_=>rfl
 | x :: r,h=>by
  simp only[AV.fgts,ADc]at h
  simp only[AV.frzs,Vo hn x h.1,frzs_of_fgt hn r h.2]
end
mutual
theorem Vp (hn:n∈ns):∀(x:AV),x.fgt ns=x->x.drp n=x
 | .sr m e' lo hi,h=>by grind [AV.fgt,AV.drp,Gm]
 | .ep m e' i path off,h=>by grind [AV.fgt,AV.drp,Gm]
 | .nin m e' i len,h=>by grind [AV.fgt,AV.drp,Gm]
 | .ag l,h=>by
  simp only[AV.fgt,AV.ag.injEq]at h
  simp only[AV.drp,drps_of_fgt hn l h]
 | .tup l,h=>by
  simp only[AV.fgt,AV.tup.injEq]at h
  simp only[AV.drp,drps_of_fgt hn l h]
 | .p _ _,_=>rfl
 | .pc _ _,_=>rfl
 | .raw _,_=>rfl
 | .ip _ _,_=>rfl
 | .bp _ _ _,_=>rfl
 | .fn _,_=>rfl
 | .clo _ _,_=>rfl
 | .mp _,_=>rfl
 | .yl _,_=>rfl
 | .top,_=>rfl
theorem drps_of_fgt (hn:n∈ns):∀(l:List AV),AV.fgts ns l=l->AV.drps n l=l
 | [],_=>rfl
 | x :: r,h=>by
  simp only[AV.fgts,ADc]at h
  simp only[AV.drps,Vp hn x h.1,drps_of_fgt hn r h.2]
end
end
section
variable {n:Nat} {ns tl:List Nat}
theorem EK (a:∀n,n∈tl->n∈ns) {m:Nat} (h:¬Ai m ns=true):¬Ai m tl=true:=λh1=>h ((A0 _ _).2 (a _ ((A0 _ _).1 h1)))
theorem rO (a:∀n,n∈tl->n∈ns) {l:List Nat} (h:¬(l.any λm=>Ai m ns)=true):¬(l.any λm=>Ai m tl)=true:=λh1=>by grind [A0]
mutual
theorem Vq (htl:∀n,n∈tl->n∈ns):∀(x:AV),x.fgt ns=x->x.fgt tl=x
 | .sr m e' lo hi,h=>by grind [AV.fgt,EK]
 | .ep m e' i path off,h=>by grind [AV.fgt,EK]
 | .nin m e' i len,h=>by grind [AV.fgt,EK]
 | .bp m path off,h=>by grind [AV.fgt,EK]
 | .mp m,h=>by grind [AV.fgt,EK]
 | .yl m,h=>by grind [AV.fgt,EK]
 | .clo f cs,h=>by
  simp only[AV.fgt]at h
  split at h
  .cases h
  rename_i hm;simp only[AV.fgt,As (rO htl hm)]
 | .ag l,h=>by
  simp only[AV.fgt,AV.ag.injEq]at h
  simp only[AV.fgt,fgts_of_fgt htl l h]
 | .tup l,h=>by
  simp only[AV.fgt,AV.tup.injEq]at h
  simp only[AV.fgt,fgts_of_fgt htl l h]
 | .p _ _,_=>rfl
 | .pc _ _,_=>rfl
 | .raw _,_=>rfl
 | .ip _ _,_=>rfl
 | .fn _,_=>rfl
 | .top,_=>rfl
theorem fgts_of_fgt (htl:∀n,n∈tl->n∈ns):∀(l:List AV),AV.fgts ns l=l->AV.fgts tl l=l
 | [],_=>rfl
 | x :: r,h=>by
  simp only[AV.fgts,ADc]at h
  simp only[AV.fgts,Vq htl x h.1,fgts_of_fgt htl r h.2]
end
mutual
theorem Vs (hn:n∈ns) (htl:∀n,n∈tl->n∈ns):∀(x:AV),x.fgt ns=x->x.trn n tl=x
 | .sr m e' lo hi,h=>by grind [AV.fgt,AV.trn,EK]
 | .ep m e' i path off,h=>by grind [AV.fgt,AV.trn,EK]
 | .nin m e' i len,h=>by grind [AV.fgt,AV.trn,Gm,EK]
 | .bp m path off,h=>by grind [AV.fgt,AV.trn,EK]
 | .mp m,h=>by grind [AV.fgt,AV.trn,EK]
 | .yl m,h=>by grind [AV.fgt,AV.trn,EK]
 | .clo f cs,h=>by
  simp only[AV.fgt]at h
  split at h
  .cases h
  rename_i hm;simp only[AV.trn,As (rO htl hm)]
 | .ag l,h=>by
  simp only[AV.fgt,AV.ag.injEq]at h
  simp only[AV.trn,trns_of_fgt hn htl l h]
 | .tup l,h=>by
  simp only[AV.fgt,AV.tup.injEq]at h
  simp only[AV.trn,trns_of_fgt hn htl l h]
 | .p _ _,_=>rfl
 | .pc _ _,_=>rfl
 | .raw _,_=>rfl
 | .ip _ _,_=>rfl
 | .fn _,_=>rfl
 | .top,_=>rfl
theorem trns_of_fgt (hn:n∈ns) (htl:∀n,n∈tl->n∈ns):∀(l:List AV),AV.fgts ns l=l->AV.trns n tl l=l
 | [],_=>rfl
 | x :: r,h=>by
  simp only[AV.fgts,ADc]at h
  simp only[AV.trns,Vs hn htl x h.1,trns_of_fgt hn htl r h.2]
end
end
def LG:AV->Bool
 | .raw _=>true
 | .p _ _=>true
 | _=>false
def PB:Obj->Bool
 | .arr _ _ _=>true
 | .box _ _ fs=>fs.all LG
 | _=>false
theorem Vt {n:Nat} {e:Ty} {xs:List e.den}:∀fs:List AV,fs.all LG=true->AV.frzs n e xs fs=fs
 | [],_=>rfl
 | x :: r,h=>by
  rw[ADh,An]at h;simp only[AV.frzs,Vt r h.2];cases x<;>first|rfl|(have:=h.1;simp[LG]at this)
theorem Vu {n:Nat}:∀fs:List AV,fs.all LG=true->AV.drps n fs=fs
 | [],_=>rfl
 | x :: r,h=>by
  rw[ADh,An]at h;simp only[AV.drps,Vu r h.2];cases x<;>first|rfl|(have:=h.1;simp[LG]at this)
theorem xL {e:Ty} {xs:List e.den} (h:PB o=true):Obj.frz n e xs o=o:=by
 cases o with
 | box et st fs=>simp only[Obj.frz,Vt fs h]
 | arr et a ys=>rfl
 | _=>cases h
theorem xM (h:PB o=true):Obj.drp n o=o:=by
 cases o with
 | box et st fs=>simp only[Obj.drp,Vu fs h]
 | arr et a ys=>rfl
 | _=>cases h
theorem Vv {hs:List Nat}:∀fs:List AV,fs.all LG=true->AV.fgts hs fs=fs
 | [],_=>rfl
 | x :: r,h=>by
  rw[ADh,An]at h;simp only[AV.fgts,Vv r h.2];cases x<;>first|rfl|(have:=h.1;simp[LG]at this)
theorem xN {hs:List Nat} (h:PB o=true):Obj.fgt hs o=o:=by
 cases o with
 | box et st fs=>simp only[Obj.fgt,Vv fs h]
 | arr et a ys=>rfl
 | _=>cases h
theorem Vx {n:Nat} {hs:List Nat}:∀fs:List AV,fs.all LG=true->AV.trns n hs fs=fs
 | [],_=>rfl
 | x :: r,h=>by
  rw[ADh,An]at h;simp only[AV.trns,Vx r h.2];cases x<;>first|rfl|(have:=h.1;simp[LG]at this)
theorem Ya {hs:List Nat} (h:PB o=true):Obj.trn n hs o=o:=by
 cases o with
 | box et st fs=>simp only[Obj.trn,Vx fs h]
 | arr et a ys=>rfl
 | _=>cases h
structure IY (X σ:St) (ns:List Nat):Prop where
 env:∀s v,lk s X.env=some v->v.fgt ns=v
 arr:∀n o,lk n X.objs=some o->PB o=true
 new:∀n o,lk n X.objs=some o->lk n σ.objs=none
 nm:∀n o,lk n X.objs=some o->n∉ns
section
variable {σ σ' X:St} {ns:List Nat}
theorem OB.lkn (b:OB σ σ' X) (ha:IY X σ ns) {n:Nat} (hn:n∈ns):lk n σ'.objs=lk n σ.objs:=by
 rw[b.objs];cases a:lk n X.objs with
 | none=>rfl
 | some o=>exact absurd hn (ha.nm n o a)
theorem OB.obs (b:OB σ σ' X) (ha:IY X σ ns):mQ σ σ':=by
 intro n o hn;rw[b.objs];cases a:lk n X.objs with
 | none=>exact hn
 | some c=>rw[ha.new n c a]at hn;cases hn
theorem A5j {n:Nat} (c:OB σ σ' X) (ha:IY X σ ns) (hn:n∈ns):OB (frz n σ) (frz n σ') X/\IY X (frz n σ) ns:=by
 unfold frz;split
 .exact⟨c,ha⟩
 have core:∀(e:Ty) (xs:List e.den),OB ⟨Dg n e xs σ.env,BG n e xs (del n σ.objs)⟩ ⟨Dg n e xs σ'.env,BG n e xs (del n σ'.objs)⟩ X/\IY X ⟨Dg n e xs σ.env,BG n e xs (del n σ.objs)⟩ ns:=by
  intro e xs;refine⟨⟨λs=>?_,λm=>?_⟩,ha.env,ha.arr,λm o b=>?_,ha.nm⟩
  .simp only[Nh,c.env];cases a:lk s X.env with
   | none=>rfl
   | some v=>simp[Vo hn v (ha.env s v a)]
  .simp only[CU,Rx];by_cases b:m=n
   .subst b;cases a:lk m X.objs with
    | none=>simp
    | some o=>exact absurd hn (ha.nm m o a)
   simp only[As b,c.objs];cases a:lk m X.objs with
   | none=>rfl
   | some o=>exact AC4 some (xL (ha.arr m o a))
  simp only[CU,Rx];split
  .rfl
  rw[ha.new m o b];rfl
 rw[c.lkn ha hn];unfold l0;grind
theorem Vy:∀ {l:List Nat} {σ σ':St},OB σ σ' X->IY X σ ns->(∀n∈l,n∈ns)->OB (Cz l σ) (Cz l σ') X/\IY X (Cz l σ) ns
 | [],_,_,a,ha,_=>⟨a,ha⟩
 | n :: l,σ,σ',a,ha,h=>by
  obtain⟨h1,b⟩:=A5j a ha (h n sc);have:=Vy (l:=l) h1 b λm c=>h m (by simp[c]);exact this
def xO (σ σ':St) (xs:List Operand):Prop:=∀x∈xs,Al σ' x=Al σ x
theorem aW (b:OB σ σ' X) {xs:List Operand} (h:∀t∈xs.filterMap TV,lk t X.env=none):xO σ σ' xs:=by
 intro x a;cases x with
 | tmp t =>
  simp only[Al,b.env];rw[h t (ADF.2 ⟨_,a,rfl⟩)];rfl
 | const v=>rfl
 | global g=>rfl
 | func f=>rfl
theorem Mq:∀ {l:List (Nat×Operand)},xO σ σ' (l.map (·.2))->Dh σ' l=Dh σ l
 | [],_=>rfl
 | (i,x) :: r,h=>by
  simp only[Dh];rw[h x sc,Mq (λy a=>h y (by simp only[gO,By];exact .inr a))]
theorem QW:∀ {l:List (Nat×Operand)},xO σ σ' (l.map (·.2))->FQ σ' l=FQ σ l
 | [],_=>rfl
 | (i,x) :: r,h=>by
  simp only[FQ];rw[h x sc,QW (λy a=>h y (by simp only[gO,By];exact .inr a))]
theorem m6 (b:OB σ σ' X) (ha:IY X σ ns) (n:Nat):C7 (lk n σ'.objs)=C7 (lk n σ.objs):=by
 rw[b.objs];cases a:lk n X.objs with
 | none=>rfl
 | some o =>
  rw[ha.new n o a];have:=ha.arr n o a;cases o<;>first|rfl|cases this
theorem gB (a:OB σ σ' X) (ha:IY X σ ns) {op:Op} (h:xO σ σ' op.operands.toList):Ca σ' op=Ca σ op:=by
 cases op<;>simp only[Ca];case buildSlice t n parts =>
  exact Mq (λx a=>h x (by simpa[Op.operands] using a))
 case build t parts =>
  exact QW (λx a=>h x (by simpa[Op.operands] using a))
 case store t x y =>
  rw[h x (by simp[Op.operands]),h y (by simp[Op.operands])];unfold Co;split
  .rw[m6 a ha]
  rfl
 case mapUpdate t m x y =>
  rw[h m (by simp[Op.operands]),h x (by simp[Op.operands]),h y (by simp[Op.operands])]
def KS (σ:St):Option AV->Option AV->List Nat
 | some (.sr n _ _ _),some (.sr m _ _ _)=>if C7 (lk n σ.objs)=true then [n,m] else [n]
 | some (.sr n _ _ _),_=>[n]
 | some (.nin n _ _ _),_=>[n]
 | some (.raw _),some (.sr m _ _ _)=>if C7 (lk m σ.objs)=true then [m] else []
 | _,_=>[]
def gC (σ:St):Option AV->Option AV->List Nat
 | some (.ep n _ _ _ _),some (.sr m _ _ _)=>if C7 (lk n σ.objs)=true then [n,m] else []
 | _,_=>[]
def aX (σ:St):Op->List Nat
 | .call c=>match c.callee,c.args.toList with
  | .builtin .append,[x,y]=>KS σ (Al σ x) (Al σ y)
  | _,_=>[]
 | .store _ x y=>gC σ (Al σ x) (Al σ y)
 | _=>[]
theorem A1i {n:Nat} {e:Ty} {lo hi:Nat} {v:AV}:n∈KS σ (some (.sr n e lo hi)) (some v):=by
 cases v<;>first|(simp[KS];done)|(simp only[KS];split<;>simp)
theorem rQ (f:OB σ σ' X) (ha:IY X σ ns) {tl:List Nat} (e:∀n,n∈tl->n∈ns) {d b:Nat} {v:AV} {g:Obj} (i:lk d X.env=none) (j:lk b X.objs=none) :
  OB ⟨(d,v) :: Cv tl σ.env,(b,g) :: A6 tl tl σ.objs⟩ ⟨(d,v) :: Cv tl σ'.env,(b,g) :: A6 tl tl σ'.objs⟩ X:=by
 refine⟨λs=>?_,λm=>?_⟩
 .simp only[lk];by_cases hs:s=d
  .grind
  rw[As hs,As hs,Gk,Gk,f.env];cases a:lk s X.env with
  | none=>rfl
  | some w=>simp[Vq e w (ha.env s w a)]
 simp only[lk];by_cases c:m=b
 .grind
 rw[As c,As c,Ci,Ci,f.objs];cases a:lk m X.objs with
 | none=>rfl
 | some w =>
  rw[As λh=>ha.nm m w a (e _ ((A0 _ _).1 h))];exact AC4 some (xN (ha.arr m w a))
theorem rR (c:OB σ σ' X) (ha:IY X σ ns) {n:Nat} {tl:List Nat} (hn:n∈ns) (b:∀n,n∈tl->n∈ns) {en:List (Nat×AV)} {new:List (Nat×Obj)} (d:∀s v,lk s en=some v->lk s X.env=none) (f:∀m o,lk m new=some o->lk m X.objs=none) :
  OB ⟨en++EZ n tl σ.env,new++Cw n tl σ.objs⟩ ⟨en++EZ n tl σ'.env,new++Cw n tl σ'.objs⟩ X:=by
 refine⟨λs=>?_,λm=>?_⟩
 .simp only[BJ];cases hs:lk s en with
  | some v=>rw[d s v hs];rfl
  | none =>
   rw[Fu,Fu,c.env];cases a:lk s X.env with
   | none=>rfl
   | some w=>simp[Vs hn b w (ha.env s w a)]
 simp only[BJ];cases e:lk m new with
 | some o=>rw[f m o e];rfl
 | none =>
  rw[Dj,Dj,c.objs];cases a:lk m X.objs with
  | none=>rfl
  | some w =>
   rw[As λh=>ha.nm m w a (by
    rcases By.1 ((A0 _ _).1 h) with rfl|h
    .exact hn
    exact b _ h)]
   exact AC4 some (Ya (ha.arr m w a))
theorem aY {n:Nat} {d:Obj} (c:OB σ σ' X) (ha:IY X σ ns) (hn:lk n σ.objs=some o) {env b:List (Nat×AV)} (f:∀s,lk s b=(lk s X.env).or (lk s env)):OB ⟨env,upd n d σ.objs⟩ ⟨b,upd n d σ'.objs⟩ X:=by
 refine⟨f,λm=>?_⟩;simp only[Gg];have e:lk n X.objs=none:=by
  cases h:lk n X.objs with
  | none=>rfl
  | some u=>rw[ha.new n u h]at hn;cases hn
 by_cases a:m=n
 .subst a;rw[At rfl,At rfl,c.objs,e];rfl
 rw[As a,As a,c.objs]
theorem OB.some_lk (a:OB σ σ' X) (ha:IY X σ ns) {n:Nat} (h:lk n σ.objs=some o):lk n σ'.objs=some o:=a.obs ha n o h
theorem xP {tb:Tb} {op:Op} {d:Option Nat} {vc:Prop} {τ:St} (a:OB σ σ' X) (ha:IY X σ ns) (K:xO σ σ' op.operands.toList) (A:∀n∈aX σ op,n∈ns) (U:∀t,d=some t->lk t X.env=none) (T:∀n,(∃u,lk n τ.objs=some u)->lk n X.objs=none) (h:Fs tb σ d op=some (vc,τ)) :
  (∃aj,Fs tb σ' d op=some (vc,aj)/\OB τ aj X)/\∀k,aq tb σ' k op=none:=by
 have R:=a.obs ha;cases op<;>simp only[Fs]at h<;>try(cases h;done)
 case store t x y =>
  refine⟨?_,λ_=>rfl⟩;simp only[Fs];have A:∀n∈gC σ (Al σ x) (Al σ y),n∈ns:=A;rw[K x (by simp[Op.operands]),K y (by simp[Op.operands])];cases d with
  | some d=>simp[D4]at h
  | none =>
   simp only[D4]at h ⊢;generalize Al σ x=ak at h A ⊢;generalize Al σ y=al at h A ⊢;unfold IH at h ⊢;split at h
   .rename_i ti n av off v Z;try simp only
    unfold DT at h ⊢;split at h
    .rename_i et st fs f;rw[a.some_lk ha f];try simp only
     unfold FO at h ⊢;split at h
     .rename_i u ay h1 G;try rw[h1,G]
      try simp only
      split at h
      .rename_i B;rw[At B];cases h;exact⟨_,rfl,aY a ha f a.env⟩
      cases h
     cases h
    cases h
   .rename_i ti n e i av off v Z;try simp only
    unfold DU at h ⊢;split at h
    .rename_i et ad xs f;rw[a.some_lk ha f];try simp only
     cases aa:JC false σ ti.ty v with
     | none=>rw[aa]at h;unfold Ep at h;split at h<;>first|(cases h;done)|(rename_i G;cases G)
     | some w =>
      rw[GH R aa];rw[aa]at h;unfold Ep at h ⊢;split at h
      .rename_i ys w' h1 G;cases G;try rw[h1]
       try simp only
       unfold GC at h ⊢;split at h
       .rename_i z P;try rw[P]
        try simp only
        split at h
        .rename_i B;rw[At B];cases h;exact⟨_,rfl,aY a ha f a.env⟩
        cases h
       cases h
      cases h
    .rename_i et ab k F xs j f;rw[a.some_lk ha f];try simp only
     split at h
     .rename_i m E hi;try simp only
      split at h
      .rename_i B;rw[At B];unfold MU at h ⊢;split at h
       .rename_i J;rw[At J];unfold MS at h ⊢;split at h
        .rename_i ba ae ys D;rw[a.some_lk ha D];try simp only
         split at h
         .rename_i ao;rw[At ao];unfold Ky at h ⊢;split at h
          .rename_i ai hz;try rw[hz]
           try simp only
           cases h;have ah:∀q,q∈[n,m]->q∈ns:=λq c=>A q (by simp only[gC,f,C7,ACk];exact c);refine⟨_,rfl,rR (en:=[]) (new:=[(n,_)]) a ha (ah n sc) (λq c=>ah q (by simp at c;simp[c])) (λs v h=>by cases h) (λq o c=>T q ⟨o,?_⟩)⟩;simp only[lk]at c ⊢;split at c
           .rename_i F;cases c;rw[At F]
           cases c
          cases h
         cases h
        cases h
       cases h
      cases h
     cases h
    cases h
   cases h
 case mapUpdate t m x y =>
  refine⟨?_,λ_=>rfl⟩;simp only[Fs];rw[K m (by simp[Op.operands]),K x (by simp[Op.operands]),K y (by simp[Op.operands])];cases d with
  | some d=>simp[D4]at h
  | none =>
   simp only[D4]at h ⊢;generalize Al σ m=aw at h ⊢;generalize Al σ x=ak at h ⊢;generalize Al σ y=al at h ⊢;unfold K2 at h ⊢;split at h
   .try simp only
    unfold GD at h ⊢;split at h
    .rename_i be bg l f;rw[a.some_lk ha f];try simp only
     split at h
     .rename_i B;rw[At B];unfold G3 at h ⊢;split at h
      .rename_i bc v1 h1 G;rw[GH R h1,GH R G];try simp only
       split at h
       .rename_i J;rw[At J];cases h;exact⟨_,rfl,aY a ha f a.env⟩
       cases h
      cases h
     cases h
    cases h
   cases h
 case call cl =>
  obtain⟨callee,⟨args⟩,⟨argTypes⟩⟩:=cl;cases callee with
  | value g=>simp[DW]at h
  | invoke r m=>simp[DW]at h
  | builtin b =>
   simp only[DW]at h;unfold Du at h;split at h
   .rename_i x y t u;have O:Al σ' x=Al σ x:=K x (by simp[Op.operands,Call.operands]);have S:Al σ' y=Al σ y:=K y (by simp[Op.operands,Call.operands]);have A:∀n∈KS σ (Al σ x) (Al σ y),n∈ns:=λn hn=>A n (by simpa[aX] using hn);unfold DV at h;split at h
    .rename_i n e hi v C I;rw[C,I]at A;refine⟨?_,λk=>by simp[aq,DC,DS,Cy,O,C]⟩;simp only[Fs,DW,Du,DV,O,C,S,I];split at h
     .rename_i p ;have L:=U p rfl;have M:n∈ns:=A n A1i;try simp only
      split at h
      .rename_i N;rw[At N];unfold Eq at h ⊢;split at h
       .rename_i ae au el b2 Y;try rw[Y]
        try simp only
        split at h
        .rename_i W;rw[At W];unfold Cg at h ⊢;split at h
         .rename_i ti et ad xs h1 f;try rw[h1]
          try rw[a.some_lk ha f]
          try simp only
          split at h
          .rename_i ap;rw[At ap];unfold FP at h ⊢;split at h
           .rename_i ai ys G P;try rw[G]
            rw[Mf R P];try simp only
            cases h;refine⟨_,rfl,⟨λs=>?_,λm=>?_⟩⟩
            .simp only[lk];by_cases hs:s=p
             .subst hs;rw[At rfl,At rfl,L];rfl
             rw[As hs,As hs,KG,KG,a.env];cases H:lk s X.env with
             | none=>rfl
             | some w=>simp[Vp M w (ha.env s w H)]
            simp only[Gg,Br];have an:lk n X.objs=none:=by
             cases H:lk n X.objs with
             | none=>rfl
             | some w=>exact absurd M (ha.nm n w H)
            by_cases D:m=n
            .subst D;rw[At rfl,At rfl,a.objs,an];rfl
            rw[As D,As D,a.objs];cases H:lk m X.objs with
            | none=>rfl
            | some w=>exact AC4 some (xM (ha.arr m w H))
           cases h
          cases h
         .rename_i ti et ab k ad xs h1 f;try rw[h1]
          try rw[a.some_lk ha f]
          try simp only
          split at h
          .rename_i B;rw[At B];unfold TC at h ⊢;split at h
           .rename_i m E ar;try simp only
            unfold MT at h ⊢;split at h
            .rename_i am az bd ax ys D;rw[a.some_lk ha D];try simp only
             split at h
             .rename_i J;rw[At J];unfold Kz at h ⊢;split at h
              .rename_i ai hz;try rw[hz]
               try simp only
               cases h;refine⟨_,rfl,rQ a ha (λq c=>A q (by simp only[KS,f,C7,ACk];exact c)) L ?_⟩;cases H:lk n X.objs with
               | none=>rfl
               | some w=>exact absurd M (ha.nm n w H)
              cases h
             cases h
            cases h
           cases h
          cases h
         cases h
        cases h
       cases h
      cases h
     cases h
    .rename_i n e i len v C I;rw[C,I]at A;refine⟨?_,λk=>by simp[aq,DC,DS,Cy,O,C]⟩;simp only[Fs,DW,Du,DV,O,C,S,I];split at h
     .rename_i p ;have L:=U p rfl;have M:n∈ns:=A n (by simp[KS]);try simp only
      split at h
      .rename_i N;rw[At N];unfold OO at h ⊢;split at h
       .rename_i ae au el b2 Y;try rw[Y]
        try simp only
        split at h
        .rename_i W;rw[At W];unfold P4 at h ⊢;split at h
         .rename_i ti et ab k F xs h1 f;try rw[h1]
          try rw[a.some_lk ha f]
          try simp only
          split at h
          .rename_i B;rw[At B];unfold MR at h ⊢;split at h
           .rename_i ys P;rw[Mf R P];try simp only
            split at h
            .rename_i af;have Q:lk p X.objs=none:=by
              refine T p ?_;cases h;exact⟨_,by simp only[lk,ACk];rfl⟩
             have V:(lk p σ'.objs).isNone=true/\ys.isEmpty=false:=⟨by rw[a.objs,Q];exact af.1,af.2⟩;rw[At V];cases h;refine⟨_,rfl,rR (en:=[(p,_)]) (new:=[(p,_),(n,_)]) a ha M (λq c=>by cases c) (λs v h=>?_) (λq o c=>?_)⟩
             .simp only[lk]at h;split at h
              .rename_i F;rw[F];exact L
              cases h
             simp only[lk]at c;split at c
             .rename_i F;rw[F];exact Q
             split at c
             .rename_i F;rw[F];cases H:lk n X.objs with
              | none=>rfl
              | some w=>exact absurd M (ha.nm n w H)
             cases c
            cases h
           cases h
          cases h
         cases h
        cases h
       cases h
      cases h
     cases h
    .rename_i v C I;rw[C,I]at A;split at h
     .rename_i p ;have L:=U p rfl;split at h
      .rename_i N;unfold Z3 at h;split at h
       .rename_i m E ar bf offs el b Z;unfold P6 at h;split at h
        .rename_i ti am ab k e ys h1 D;split at h
         .rename_i B;unfold P5 at h;split at h
          .rename_i J;have Q:lk p X.objs=none:=by
            refine T p ?_;cases h;exact⟨_,by simp only[lk,ACk];rfl⟩
           have V:(lk p σ'.objs).isNone=true:=by rw[a.objs,Q];exact J.1
           have ag:=a.some_lk ha D;refine⟨?_,λbb=>by simp[aq,DC,DS,Cy,O,C,S,I,N,Eo,Pw,ag,C7];split<;>simp[FN]⟩;cases h;simp only[Fs,DW,Du,DV,O,C,S,I,Z3,P6,P5];rw[At N,Z];simp only;rw[ag,h1];simp only;rw[At B,At ⟨V,J.2⟩];exact⟨_,rfl,rQ a ha (λq c=>A q (by simp only[KS,D,C7,ACk];exact c)) L Q⟩
          cases h
         cases h
        cases h
       cases h
      cases h
     cases h
    cases h
   cases h
end
end
section
open Go Go.RowKit
def A1j (o:Obj):Bool:=PB o
def PC (o:Oper):EN->Bool
 | []=>true
 | (d,_,_) :: r=>!Ai d (Ha o.op)&&!Ai d o.dst.toList&&PC o r
def Uh (ns:List Nat) (σ:List (Nat×Obj)):List (Nat×Obj)->Bool
 | []=>true
 | (n,o) :: r=>(lk n σ).isNone&&!Ai n ns&&A1j o&&Uh ns σ r
def Mr (ns:List Nat) (σ:List (Nat×Obj)):EN->Bool
 | []=>true
 | (_,_,obs) :: r=>Uh ns σ obs&&Mr ns σ r
def aZ (τ:List (Nat×Obj)):List (Nat×Obj)->Bool
 | []=>true
 | (n,_) :: r=>(lk n τ).isNone&&aZ τ r
def Vz (τ:List (Nat×Obj)):EN->Bool
 | []=>true
 | (_,_,obs) :: r=>aZ τ obs&&Vz τ r
def Ms (ns:List Nat):EN->EN
 | []=>[]
 | (d,v,obs) :: r=>(d,v.fgt ns,obs) :: Ms ns r
def tn (σ:St) (o:Op):List Nat:=Ca σ o++aX (Cz (Ca σ o) σ) o
theorem HF {o:Oper}:∀ {ens:EN},PC o ens=true->∀e∈ens,e.1∉Ha o.op/\o.dst≠some e.1
 | [],_,e,a=>by cases a
 | (d,v,obs) :: r,h,e,a=>by
  simp only[PC,An,lU]at h;rcases By.1 a with rfl|a
  .grind [A0,Ai]
  exact HF h.2 e a
theorem QX {ns:List Nat} {σ:List (Nat×Obj)}:∀ {l:List (Nat×Obj)},Uh ns σ l=true->∀p∈l,lk p.1 σ=none/\p.1∉ns/\A1j p.2=true
 | [],_,e,b=>by cases b
 | (n,o) :: r,h,p,a=>by
  simp only[Uh,An,lU,ACq]at h;rcases By.1 a with rfl|a
  .grind [A0]
  exact QX h.2 p a
theorem Mt {ns:List Nat} {σ:List (Nat×Obj)}:∀ {ens:EN},Mr ns σ ens=true->∀e∈ens,∀p∈e.2.2,lk p.1 σ=none/\p.1∉ns/\A1j p.2=true
 | [],_,e,a=>by cases a
 | (d,v,obs) :: r,h,e,a=>by
  simp only[Mr,An]at h;rcases By.1 a with rfl|a
  .exact QX h.1
  exact Mt h.2 e a
theorem TZ {τ:List (Nat×Obj)}:∀ {l:List (Nat×Obj)},aZ τ l=true->∀p∈l,lk p.1 τ=none
 | [],_,e,b=>by cases b
 | (n,o) :: r,h,p,a=>by
  simp only[aZ,An,ACq]at h;rcases By.1 a with rfl|a
  .exact h.1
  exact TZ h.2 p a
theorem PD {τ:List (Nat×Obj)}:∀ {ens:EN},Vz τ ens=true->∀e∈ens,∀p∈e.2.2,lk p.1 τ=none
 | [],_,e,a=>by cases a
 | (d,v,obs) :: r,h,e,a=>by
  simp only[Vz,An]at h;rcases By.1 a with rfl|a
  .exact TZ h.1
  exact PD h.2 e a
theorem V0 {ns:List Nat}:∀ {ens:EN},Ms ns ens=ens->∀e∈ens,e.2.1.fgt ns=e.2.1
 | [],_,e,a=>by cases a
 | (d,v,obs) :: r,h,e,a=>by
  simp only[Ms,ADc,AEi,and_true,true_and]at h;rcases By.1 a with rfl|a
  .exact h.1
  exact V0 h.2 e a
section
variable {c:Cx} {o:Oper} {σ:St} {ens:EN} {N:St->Prop}
theorem A1k {X:St} {ns:List Nat} (b:XIn ens X) (hn:Mr ns σ.objs ens=true) (hf:Ms ns ens=ens):IY X σ ns:=by
 refine⟨λs v hs=>?_,λn o a=>?_,λn o a=>?_,λn o a=>?_⟩
 .obtain⟨obs,d⟩:=b.env s v hs;exact V0 hf _ d
 all_goals
  obtain⟨e,c,f⟩:=b.objs n o a;have:=Mt hn e c _ f
 .exact this.2.2
 .exact this.1
 exact this.2.1
theorem xQ (ad:c.Ok) {τ:St} {vc:Prop} (ns:List Nat) (h:GY c.tb o σ=some (vc,τ)) (V:tn σ o.op=ns) (M:PC o ens=true) (hn:Mr ns σ.objs ens=true) (T:Vz τ.objs ens=true) (hf:Ms ns ens=ens) (ae:KH c.nt o=true) (af:vc) (ab:N τ):mZ c o σ ens N:=by
 subst V;intro X σ' j k a w next Q hs hk
 have ha:=A1k k hn hf;have G:∀t∈Ha o.op,lk t X.env=none:=λt B=>by
  cases g:lk t X.env with
  | none=>rfl
  | some v=>obtain⟨obs,f⟩:=k.env t v g;exact absurd B (HF M _ f).1
 have E:∀t,o.dst=some t->lk t X.env=none:=λt B=>by
  cases g:lk t X.env with
  | none=>rfl
  | some v=>obtain⟨obs,f⟩:=k.env t v g;exact absurd B (HF M _ f).2
 have H:∀n,(∃u,lk n τ.objs=some u)->lk n X.objs=none:=λn hu=>by
  cases g:lk n X.objs with
  | none=>rfl
  | some v =>
   obtain⟨e,S,q⟩:=k.objs n v g;obtain⟨u,hu⟩:=hu;rw[PD T e S _ q]at hu;cases hu
 have Z:=gB j ha (op:=o.op) (aW j G);obtain⟨b,z⟩:=Vy (l:=Ca σ o.op) j ha (λm f=>by simp[tn,f]);have key:∃y,GY c.tb o σ'=some (vc,y)/\OB τ y X:=by
  have I:∀n∈aX (Cz (Ca σ o.op) σ) o.op,n∈tn σ o.op:=λm f=>by simp[tn,f]
  unfold GY P7 at h ⊢;rw[Z];generalize Cz (Ca σ o.op) σ=C at h b z I;generalize Cz (Ca σ o.op) σ'=D at b;have L:=aW b G;cases A:aq c.tb C (o.dst.getD 0) o.op with
  | some r =>
   obtain⟨ag,v,obs⟩:=r;rw[A]at h;have Y:=Uc (b.obs z) (λx j v aa=>by rw[L x j];exact aa) A;rw[Y];simp only[Lt]at h ⊢;split at h
   .rename_i J;cases h;have K:∀n,lk n (C.add v obs o.dst).objs=(lk n obs).or (lk n C.objs):=λn=>by cases o.dst<;>simp only[St.add,BJ]
    have W:∀n,lk n (D.add v obs o.dst).objs=(lk n obs).or (lk n D.objs):=λn=>by cases o.dst<;>simp only[St.add,BJ]
    have F:∀n u,lk n obs=some u->lk n X.objs=none:=λn u hu=>H n ⟨u,by rw[K,hu];rfl⟩;have U:Bp obs D=true:=by
     simp only[Bp,OF,ACq]at J ⊢;intro p q;obtain⟨u,hu⟩:=SD q;rw[b.objs,F _ u hu,J p q];rfl
    rw[At U];refine⟨_,rfl,λs=>?_,λn=>?_⟩
    .cases R:o.dst with
     | none=>simp only[St.add];exact b.env s
     | some d =>
      simp only[St.add,lk];by_cases i:s=d
      .rw[At i,At i,i,E d R];rfl
      rw[As i,As i];exact b.env s
    rw[K,W,b.objs];cases hu:lk n obs with
    | none=>rfl
    | some u=>rw[F n u hu];rfl
   cases h
  | none =>
   rw[A]at h;simp only[Lt]at h;obtain⟨⟨y,h1,O⟩,P⟩:=xP b z L I E H h;rw[P];simp only[Lt];exact⟨y,h1,O⟩
 grind [QJ,BA]
end
section
variable {c:Cx} {ops:List Oper} {Kf:St->Prop} {τ:St} {ens:EN} {vc:Prop}
theorem A1l {D:List Nat} (h:mY c.tb ops τ.objs D [] τ.env=some (vc,ens)) (b:vc) (a:R9 ens τ.objs=true) (hk:Kf (Mo ens τ)):Mix c ops Kf [] D ens τ:=⟨⟨vc,h,b,a⟩,hk⟩
theorem A1m {A D:List Nat} {l:Nat} {b:List (List Nat×Nat)} {o:Oper} {d:St} {a:EN} (h:mY c.tb ops τ.objs (A++qs b D) [] τ.env=some (vc,ens)) (j:vc) (g:R9 ens τ.objs=true) (i:ops[l]?=some o) (k:Mo (ens.take A.length) τ=d) (f:ens.drop A.length=a)
  (e:mZ c o d a (λm=>Mix c ops Kf b D a m)):Mix c ops Kf ((A,l) :: b) D ens τ:=by
 subst k f;exact⟨⟨vc,h,j,g⟩,o,i,e⟩
end
end
end Go.Proofs.YtddbnflakbngaaaGreatDoor.Fw
