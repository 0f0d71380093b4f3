/- Regions in which operations on memory float among quiet ones. -/
import Derived.Test.YtapkhdkbkodbjaaGreatEZG
set_option linter.unusedVariables false
set_option linter.unusedSimpArgs false
namespace Go.Proofs.YtapkhdkbkodbjaaGreat.Fw
section
open Go Go.RowKit
abbrev EN:=List (Nat×AV×List (Nat×Obj))
def pR (x:Option Oper) (f:Oper->Option (Prop×EN)):Option (Prop×EN) :=
 match x with
 | some o=>f o
 | none=>none
def jZ (d:Option Nat) (r:Bh) (f:Nat->Prop->AV->List (Nat×Obj)->Option (Prop×EN)):Option (Prop×EN) :=
 match d,r with
 | some d,some (vc,v,obs)=>f d vc v obs
 | _,_=>none
def pS (d:Nat) (vc:Prop) (v:AV) (obs:List (Nat×Obj)) (r:Option (Prop×EN)):Option (Prop×EN) :=
 match r with
 | some (a,l)=>some (vc/\a,(d,v,obs) :: l)
 | none=>none
def vB (tb:Tb) (ops:List Oper) (base:List (Nat×Obj)):List Nat->List (Nat×List (Nat×Obj))->List (Nat×AV)->Option (Prop×EN)
 | [],_,_=>some (True,[])
 | i :: Q,E,env=>pR (ops[i]?) λo=>jZ o.dst (aq tb ⟨env,Ox false o.op base E⟩ (o.dst.getD 0) o.op) λd vc v obs=>pS d vc v obs (vB tb ops base Q (L4 d obs E) ((d,v) :: env))
def Oi:EN->St->St
 | [],σ=>σ
 | (d,v,obs) :: r,σ=>Oi r ⟨(d,v) :: σ.env,obs++σ.objs⟩
def VR:EN->List (Nat×Obj)->Bool
 | [],_=>true
 | (_,_,obs) :: r,objs=>(obs.all λp=>(lk p.1 objs).isNone)&&VR r (obs++objs)
def A96 (tb:Tb) (ops:List Oper) (Q:List Nat) (ens:EN) (τ:St):Prop:=∃vc:Prop,vB tb ops τ.objs Q [] τ.env=some (vc,ens)/\vc/\VR ens τ.objs=true
def qs (a:List (List Nat×Nat)) (D:List Nat):List Nat:=(a.flatMap (·.1))++D
def qB1 (ops:List Oper) (anc:List (List Nat)) (L Q:List Nat):List Nat->List Nat->Bool
 | [],_=>true
 | i :: r,pre=>(match ops[i]? with
   | some o=>o.dst.isSome&&o.guard.isNone&&((EU o).all λe=>Ad e L||Ad e pre)&&((Hr o.op).all λt=>Q.all λj=>Au ops j != some t||(Ad j (anc.getD i [])&&Ad j pre))&&(pre.all λj=>Au ops j != o.dst)&&!Ad i L&&!Ad i pre
   | none=>false)&&qB1 ops anc L Q r (i :: pre)
def VS (ops:List Oper) (anc:List (List Nat)) (p0:Nat):List Nat->List (List Nat×Nat)->List Nat->Bool
 | L,[],D=>qB1 ops anc L D D []&&((List.range p0).all λi=>Ad i L||Ad i D)&&decide (L.length+D.length=p0)&&decide (p0<=ops.length)&&(L.all λi=>decide (i<p0))&&(D.all λi=>decide (i<p0))&&((List.range ops.length).all λi=>decide (i<p0)||(List.range i).all λj=>Ad j (anc.getD i []))
 | L,(A,l) :: a,D=>qB1 ops anc L (A++qs a D) (A++qs a D) []&&(match ops[l]? with
   | some o=>o.guard.isNone&&((EU o).all λe=>Ad e L||Ad e A)&&(A.all λj=>Ad j (anc.getD l []))&&!Ad l L&&!Ad l (A++qs a D)
   | none=>false)&&(a.all λp=>Ad l (anc.getD p.2 []))&&VS ops anc p0 (l :: (A++L)) a D
def A97 (ops:List Oper) (anc:List (List Nat)):Bool :=
 (List.range ops.length).all λi=>match ops[i]? with|some o=>((EU o).all λe=>decide (e<i))&&((anc.getD i []).all λj=>Ad j (EU o)||(EU o).any λe=>Ad j (anc.getD e []))|none=>false
structure Oj (σ σ' X:St):Prop where
 env:∀s,lk s σ'.env=(lk s X.env).or (lk s σ.env)
 objs:∀n,lk n σ'.objs=(lk n X.objs).or (lk n σ.objs)
structure XIn (ens:EN) (X:St):Prop where
 env:∀s v,lk s X.env=some v->∃obs,(s,v,obs)∈ens
 objs:∀n o,lk n X.objs=some o->∃e∈ens,(n,o)∈e.2.2
def eQ (c:Cx) (o:Oper) (σ:St) (ens:EN) (N:St->Prop):Prop :=
 ∀(X σ':St),Oj σ σ' X->XIn ens X->∀(a:Act) (w:World) (next:Act->World->Prop) (Q:Exit->Act->World->Prop),c.sat σ' a w ->
  (∀τ,N τ->∀(b:Act) (w':World) (d:St),Oj τ d X->c.sat d b w'->next b w')->o.wpIn (FR c.r) 0 c.P a w next Q
def Mix (c:Cx) (ops:List Oper) (Kf:St->Prop):List (List Nat×Nat)->List Nat->EN->St->Prop
 | [],D,ens,τ=>A96 c.tb ops D ens τ/\Kf (Oi ens τ)
 | (A,l) :: a,D,ens,τ=>A96 c.tb ops (A++qs a D) ens τ/\∃o,ops[l]?=some o/\eQ c o (Oi (ens.take A.length) τ) (ens.drop A.length) (λb=>Mix c ops Kf a D (ens.drop A.length) b)
def Pd (Q:List Nat) (ens:EN) (i:Nat):En :=
 match lk i (Q.zip ens) with
 | some (_,v,obs)=>⟨true,v,obs⟩
 | none=>⟨true,.top,[]⟩
section
variable {ops:List Oper} {en:Nat->En} {τ:St}
theorem Sl:∀(l:List Nat),(Az ops en τ l).env=(Az ops en ⟨[],[]⟩ l).env++τ.env
 | []=>rfl
 | i :: r=>by
  simp only[Az];cases Au ops i with
  | none=>simp only[St.add];exact Sl r
  | some d=>simp only[St.add,ACf];rw[Sl r]
theorem pT (l:List Nat):(Az ops en τ l).objs=(Az ops en ⟨[],[]⟩ l).objs++τ.objs:=by
 rw[F8,F8];simp
theorem A20 (l:List Nat):Oj τ (Az ops en τ l) (Az ops en ⟨[],[]⟩ l) :=
 ⟨λs=>by rw[Sl,BB],λn=>by rw[pT,BB]⟩
structure Own (ops:List Oper) (en:Nat->En) (τ:St) (Q:List Nat):Prop where
 slot:∀i∈Q,∀j∈Q,∀s,Au ops i=some s->Au ops j=some s->i=j
 new:∀i∈Q,∀n o,lk n (en i).obs=some o->lk n τ.objs=none
 name:∀i∈Q,∀j∈Q,∀n o o',lk n (en i).obs=some o->lk n (en j).obs=some o'->i=j
theorem lkE {Q l:List Nat} (h:Own ops en τ Q) (c:∀i∈l,i∈Q) (s:Nat) (v:AV):lk s (Az ops en τ l).env=some v↔(∃i∈l,Au ops i=some s/\(en i).v=v)\/((∀i∈l,Au ops i≠some s)/\lk s τ.env=some v):=by
 rw[F9];cases hf:l.find? (λj=>Au ops j==some s) with
 | none =>
  have hn:∀i∈l,Au ops i≠some s:=λi hi=>by simpa using ADI.1 hf i hi
  constructor
  .grind
  grind
 | some j =>
  have b:=AD9 hf;have a:Au ops j=some s:=by simpa using AE2 hf
  constructor
  .grind
  rintro (⟨i,hi,d,rfl⟩|⟨hn,_⟩)
  .rw[h.slot i (c i hi) j (c j b) s d a]
  exact absurd a (hn j b)
theorem lkO {Q l:List Nat} (h:Own ops en τ Q) (d:∀i∈l,i∈Q) (n:Nat) (o:Obj):lk n (Az ops en τ l).objs=some o↔(∃i∈l,lk n (en i).obs=some o)\/((∀i∈l,lk n (en i).obs=none)/\lk n τ.objs=some o):=by
 rw[F8,BB];cases hf:lk n (l.flatMap λj=>(en j).obs) with
 | some e =>
  obtain⟨j,c,a⟩:=uX hf;simp only[ADL];constructor
  .grind
  rintro (⟨i,hi,b⟩|⟨hn,_⟩)
  .have:=h.name i (d i hi) j (d j c) n o e b a;subst this;rw[<-a,b]
  rw[hn j c]at a;cases a
 | none =>
  have hn:=LR hf;simp only[Option.none_or];constructor
  .grind
  grind
theorem yZ {Q l A:List Nat} (h:Own ops en τ Q) (k:∀i∈l,i∈Q) (m:∀i∈A,i∈l):Oj (Az ops en τ A) (Az ops en τ l) (Az ops en ⟨[],[]⟩ (l.filter λi=>!Ad i A)):=by
 have h0:Own ops en ⟨[],[]⟩ Q:=⟨h.slot,λ_ _ _ _ _=>rfl,h.name⟩;have hf:∀i∈l.filter (λi=>!Ad i A),i∈Q:=λi hi=>k i (Tz.1 hi).1;have p:∀i∈A,i∈Q:=λi hi=>k i (m i hi);have g:∀i,i∈l.filter (λi=>!Ad i A)↔i∈l/\i∉A:=λi=>by grind [Ah,Ad]
 refine⟨λs=>ADO λv=>?_,λn=>ADO λo=>?_⟩
 .rw[lkE h k,Option.or_eq_some_iff,lkE h0 hf,lkE h p];constructor
  .rintro (⟨i,hi,d,a⟩|⟨hn,a⟩)
   .by_cases c:i∈A
    .refine .inr ⟨?_,.inl ⟨i,c,d,a⟩⟩;cases b:lk s (Az ops en ⟨[],[]⟩ (l.filter λi=>!Ad i A)).env with
     | none=>rfl
     | some u =>
      rcases (lkE h0 hf s u).1 b with ⟨j,e,f,_⟩|⟨_,b⟩
      .have:=h.slot i (k i hi) j (hf j e) s d f;subst this;exact absurd c ((g i).1 e).2
      cases b
    exact .inl (.inl ⟨i,(g i).2 ⟨hi,c⟩,d,a⟩)
   refine .inr ⟨?_,.inr ⟨λi hi=>hn i (m i hi),a⟩⟩;cases b:lk s (Az ops en ⟨[],[]⟩ (l.filter λi=>!Ad i A)).env with
   | none=>rfl
   | some u =>
    rcases (lkE h0 hf s u).1 b with ⟨j,e,f,_⟩|⟨_,b⟩
    .exact absurd f (hn j ((g j).1 e).1)
    cases b
  rintro ((⟨i,hi,d,a⟩|⟨_,a⟩)|⟨b,⟨i,hi,d,a⟩|⟨hn,a⟩⟩)
  .grind
  .cases a
  .grind
  refine .inr ⟨λi hi d=>?_,a⟩;by_cases c:i∈A
  .exact hn i c d
  have:=(lkE h0 hf s (en i).v).2 (.inl ⟨i,(g i).2 ⟨hi,c⟩,d,rfl⟩);rw[b]at this;cases this
 rw[lkO h k,Option.or_eq_some_iff,lkO h0 hf,lkO h p];constructor
 .rintro (⟨i,hi,a⟩|⟨hn,a⟩)
  .by_cases c:i∈A
   .refine .inr ⟨?_,.inl ⟨i,c,a⟩⟩;cases b:lk n (Az ops en ⟨[],[]⟩ (l.filter λi=>!Ad i A)).objs with
    | none=>rfl
    | some u =>
     rcases (lkO h0 hf n u).1 b with ⟨j,e,f⟩|⟨_,b⟩
     .have:=h.name i (k i hi) j (hf j e) n _ _ a f;subst this;exact absurd c ((g i).1 e).2
     cases b
   exact .inl (.inl ⟨i,(g i).2 ⟨hi,c⟩,a⟩)
  refine .inr ⟨?_,.inr ⟨λi hi=>hn i (m i hi),a⟩⟩;cases b:lk n (Az ops en ⟨[],[]⟩ (l.filter λi=>!Ad i A)).objs with
  | none=>rfl
  | some u =>
   rcases (lkO h0 hf n u).1 b with ⟨j,e,f⟩|⟨_,b⟩
   .rw[hn j ((g j).1 e).1]at f;cases f
   cases b
 rintro ((⟨i,hi,a⟩|⟨_,a⟩)|⟨b,⟨i,hi,a⟩|⟨hn,a⟩⟩)
 .grind
 .cases a
 .grind
 refine .inr ⟨λi hi=>?_,a⟩;by_cases c:i∈A
 .exact hn i c
 cases d:lk n (en i).obs with
 | none=>rfl
 | some u =>
  have:=(lkO h0 hf n u).2 (.inl ⟨i,(g i).2 ⟨hi,c⟩,d⟩);rw[b]at this;cases this
end
def A23 (tb:Tb) (ops:List Oper) (τ:St) (en:Nat->En) (pre:List Nat) (i:Nat) (o:Oper):Prop :=
 ∃vc:Prop,aq tb ⟨(Az ops en τ pre).env,CK false (Hr o.op) τ.objs (ES ops en pre)⟩ (o.dst.getD 0) o.op=some (vc,(en i).v,(en i).obs)/\vc
theorem j5 {ts:List Nat} {base:List (Nat×Obj)} {d:Nat} {obs:List (Nat×Obj)} {E:List (Nat×List (Nat×Obj))}:CK false ts base (L4 d obs E)=CK false ts base ((d,obs) :: E):=by
 cases obs with
 | nil=>simp only[L4,CK,ACp];split<;>rfl
 | cons x r=>rfl
theorem A24 {o:Op} {base:List (Nat×Obj)} {E:List (Nat×List (Nat×Obj))}:Ox false o base E=CK false (Hr o) base E:=by
 cases E<;>rfl
theorem Z8 {tb:Tb} {ops:List Oper} {τ:St} {en:Nat->En}:∀ {Q:List Nat} {ens:EN} {pre:List Nat} {E:List (Nat×List (Nat×Obj))} {vc:Prop},vB tb ops τ.objs Q E (Az ops en τ pre).env=some (vc,ens)->vc ->
  (∀ts,CK false ts τ.objs E=CK false ts τ.objs (ES ops en pre))->(∀(j i:Nat) (e:Nat×AV×List (Nat×Obj)),Q[j]?=some i->ens[j]?=some e->en i=⟨true,e.2.1,e.2.2⟩) ->
  ens.length=Q.length/\∀(j i:Nat),Q[j]?=some i->∃(o:Oper) (e:Nat×AV×List (Nat×Obj)),ops[i]?=some o/\ens[j]?=some e/\Au ops i=some e.1/\A23 tb ops τ en ((Q.take j).reverse++pre) i o
 | [],ens,pre,E,vc,h,q,g,m=>by grind [vB]
 | i :: Q,ens,pre,E,vc,h,q,g,m=>by
  simp only[vB]at h;cases b:ops[i]? with
  | none=>rw[b]at h;simp[pR]at h
  | some o =>
   rw[b]at h;simp only[pR]at h;cases a:o.dst with
   | none=>rw[a]at h;simp[jZ]at h
   | some d =>
    cases c:aq tb ⟨(Az ops en τ pre).env,Ox false o.op τ.objs E⟩ (o.dst.getD 0) o.op with
    | none=>rw[c,a]at h;simp[jZ]at h
    | some r =>
     obtain⟨y,v,obs⟩:=r;rw[c,a]at h;simp only[jZ]at h;cases n:vB tb ops τ.objs Q (L4 d obs E) ((d,v) :: (Az ops en τ pre).env) with
     | none=>rw[n]at h;simp[pS]at h
     | some p =>
      obtain⟨A,z⟩:=p;rw[n]at h;simp only[pS]at h;cases h;have hi:=m 0 i (d,v,obs) rfl rfl;have l:Au ops i=some d:=by simp[Au,b,a]
      have w:(Az ops en τ (i :: pre)).env=(d,v) :: (Az ops en τ pre).env:=by simp[Az,l,St.add,hi]
      have s:=Z8 (pre:=i :: pre) (by rw[w];exact n) q.2 (λts=>by
       rw[j5];simp only[ES,SK,l,ACt,hi,CK];rw[g ts];rfl) (λj k e h1 f=>m (j+1) k e (by simpa using h1) (by simpa using f))
      refine⟨by simp[s.1],λj k hk=>?_⟩;cases j with
      | zero =>
       simp only[ACq,AAi]at hk;subst hk;refine⟨o,(d,v,obs),b,rfl,l,y,?_,q.1⟩;rw[A24,g]at c;simp only[AAB,List.reverse_nil,ACp];rw[hi];exact c
      | succ j =>
       obtain⟨x,e,h1,f,t,u⟩:=s.2 j k (by simpa using hk);refine⟨x,e,h1,by simpa using f,t,?_⟩;simpa[AAN] using u
theorem Sm:∀ {ens:EN} {objs:List (Nat×Obj)},VR ens objs=true->∀(j:Nat) (e:Nat×AV×List (Nat×Obj)),ens[j]?=some e->∀n o,lk n e.2.2=some o->lk n objs=none/\∀(b:Nat) (a:Nat×AV×List (Nat×Obj)) (c:Obj),ens[b]?=some a->lk n a.2.2=some c->j=b
 | [],objs,_,j,e,h=>by simp at h
 | (d,v,obs) :: r,objs,h,j,e,f=>by
  simp only[VR,As,No,AAA]at h;have h0:∀n o,lk n obs=some o->lk n objs=none:=λn o hn=>h.1 _ (GS hn);have g:=Sm h.2;grind [lk,BB]
end
section
open Go Go.RowKit
structure Z9 (ops:Array Oper) (anc:List (List Nat)):Prop where
 lt:∀i o,ops[i]?=some o->∀e∈EU o,e<i
 cl:∀i o,ops[i]?=some o->∀j∈anc.getD i [],j∈EU o\/∃e∈EU o,j∈anc.getD e []
theorem AAU {ops:Array Oper} {anc:List (List Nat)} (h:A97 ops.toList anc=true):Z9 ops anc:=by
 simp only[A97,No,SH]at h;have hi:∀i o,ops[i]?=some o->((EU o).all λe=>decide (e<i))=true/\((anc.getD i []).all λj=>Ad j (EU o)||(EU o).any λe=>Ad j (anc.getD e []))=true:=by grind
 refine⟨λi o a e b=>?_,λi o a j c=>?_⟩
 .grind
 grind [Ah]
section
variable {ops:Array Oper} {k:Nat} {anc:List (List Nat)} {Q:Exit->Act->World->Prop}
theorem Ud (a:Z9 ops anc) {listed:Array Bool} (g:∀i o,ops[i]?=some o->listed.getD i true=true->∀e∈EU o,listed.getD e false=true) :
  ∀i o,ops[i]?=some o->(∀e∈EU o,listed.getD e false=true)->∀j∈anc.getD i [],listed.getD j false=true:=by
 intro i;induction i using Nat.strongRecOn with
 | _ i l =>
  intro o b c j f;rcases a.cl i o b j f with h1|⟨e,d,h⟩
  .exact c j h1
  have k:=a.lt i o b e d;grind
theorem Sn {F:Fence} {P:Program} (g:Z9 ops anc) (q:∀i o,ops[i]?=some o->k<=i->∀j,j<i->j∈anc.getD i []):∀ {rest:List Oper} {p:Nat} {listed:Array Bool} {a:Act} {w:World},ops.toList.drop p=rest->k<=p->p<=ops.size->listed.size=ops.size ->
  (∀i,i<ops.size->(listed.getD i true=true↔i<p))->wpListIn F 0 P ops Q rest a w->wpAnyIn F 0 P .any ops Q rest.length listed a w
 | [],p,listed,a,w,l,C,D,m,f,c=>by
  have N:p=ops.size:=by
   have:=ACb List.length l;simp at this;omega
  refine⟨?_,c⟩;apply ADr.2;grind [Dx]
 | o :: r,p,listed,a,w,l,C,D,m,f,c=>by
  obtain⟨d,v⟩:=Z3 l;have d:ops[p]?=some o:=by simpa using d
  have E:p<ops.size:=(Tt.1 d).1;have x:∀e b,e<ops.size->listed.getD e b=listed.getD e true:=λe b h=>by grind
  have L:∀i o,ops[i]?=some o->listed.getD i true=true->∀e∈EU o,listed.getD e false=true:=by
   intro i o u h1 e h;have H:i<ops.size:=(Tt.1 u).1;have J:=(f i H).1 h1;have K:=g.lt i o u e h;grind
  have G:∀i,i∈Region.ready .any ops listed->i=p:=by grind [Dx,Ud]
  refine⟨λM=>?_,λi hi=>?_⟩
  .exfalso;have:p∈Region.ready .any ops listed:=by
    rw[Dx];refine⟨?_,o,d,λe h=>?_⟩
    .cases hh:listed.getD p true with
     | false=>rfl
     | true=>have:=(f p E).1 hh;omega
    have:=g.lt p o d e h;rw[x e false O1];exact(f e O1).2 this
   grind
  have z:=G i hi;subst z;have t:∀(j:Nat),j<ops.size->((listed.setIfInBounds i true).getD j true=true↔j<i+1):=by
   intro j A;have B:j<listed.size:=by omega
   by_cases s:j=i
   .subst s;simp[Array.getD,B]
   have h1:(listed.setIfInBounds i true).getD j true=listed.getD j true:=getD_set_ne true (λe=>s e.symm);rw[h1,f j A];omega
  unfold wpOpIn;rw[d];simp only;unfold wpListIn at c;split
  .rename_i n;rw[BY n]at c;exact Oper.wpIn_mono (λI w' y=>Sn g q v.symm O1 O1 (by simpa using m) t y) c
  rename_i n;rw[At n]at c;exact⟨c.1,Sn g q v.symm O1 O1 (by simpa using m) t c.2⟩
end
structure QOk (ops:List Oper) (anc:List (List Nat)) (L Q:List Nat):Prop where
 nodup:Q.Nodup
 pos:∀(j i:Nat),Q[j]?=some i->i∉L/\∃o,ops[i]?=some o/\o.guard=none/\(∀e∈EU o,e∈L\/e∈Q.take j)/\(∀t∈Hr o.op,∀k∈Q,Au ops k=some t->k∈anc.getD i []/\k∈Q.take j)
 slot:∀i∈Q,∀j∈Q,∀s,Au ops i=some s->Au ops j=some s->i=j
theorem j6 {ops:List Oper} {anc:List (List Nat)} {L Q:List Nat}:∀ {r pre:List Nat},qB1 ops anc L Q r pre=true ->
  (∀(j i:Nat),r[j]?=some i->i∉L/\i∉pre/\i∉r.take j/\∃o,ops[i]?=some o/\o.guard=none/\(∀e∈EU o,e∈L\/e∈pre\/e∈r.take j)/\(∀t∈Hr o.op,∀k∈Q,Au ops k=some t->k∈anc.getD i []/\(k∈pre\/k∈r.take j)) /\
   ∀k,k∈pre\/k∈r.take j->Au ops k≠Au ops i)
 | [],pre,h,j,i,a=>by simp at a
 | x :: r,pre,h,j,i,a=>by
  simp only[qB1,As]at h;obtain⟨h1,s⟩:=h;cases j with
  | zero =>
   simp only[ACq,AAi]at a;subst a;cases f:ops[x]? with
   | none=>rw[f]at h1;cases h1
   | some o =>
    rw[f]at h1;simp only[As,No,Ts,Ah,ADe,SD,AAA]at h1;obtain⟨⟨⟨⟨⟨⟨A,q⟩,B⟩,C⟩,D⟩,c⟩,d⟩:=h1;refine⟨λh=>(by rw[(Ah _ _).2 h]at c;cases c),λh=>(by rw[(Ah _ _).2 h]at d;cases d),by simp,o,rfl,q,λe v=>?_,λt w k hk u=>?_,λk hk=>?_⟩
    .grind
    .grind
    grind [Au]
  | succ j =>
   obtain⟨g,b,l,o,m,n,y,z,p⟩:=j6 s j i (by simpa using a);simp only[Do,not_or]at b;refine⟨g,b.2,by simp[AAN,b.1,l],o,m,n,λe v=>?_,λt w k hk u=>?_,λk hk=>p k ?_⟩
   .grind
   .grind
   grind
theorem j7 {α:Type} {l:List α} {i j:Nat} {x:α} (h:l[i]?=some x) (a:i<j):x∈l.take j:=by
 rw[oF];exact⟨i,by rw[Tv,BY a];exact h⟩
theorem qOk {ops:List Oper} {anc:List (List Nat)} {L Q:List Nat} (h:qB1 ops anc L Q Q []=true):QOk ops anc L Q:=by
 have hs:=j6 h;have m:∀ {i j x y:Nat},Q[i]?=some x->Q[j]?=some y->i<j->x≠y/\Au ops x≠Au ops y:=by grind [j7]
 refine⟨?_,λj i c=>?_,λi hi j c s h1 q=>?_⟩
 .rw[List.nodup_iff_pairwise_ne,SI];intro i j hi c l e;exact(m (AT hi) (AT c) l).1 e
 .obtain⟨d,_,_,o,f,g,n,p,_⟩:=hs j i c;refine⟨d,o,f,g,λe v=>?_,λt w k hk u=>?_⟩
  .grind
  grind
 obtain⟨a,ha⟩:=oF.1 hi;obtain⟨b,r⟩:=oF.1 c;grind
theorem pU:∀ {Q:List Nat} {ens:EN},Q.Nodup->∀(j i:Nat) (e:Nat×AV×List (Nat×Obj)),Q[j]?=some i->ens[j]?=some e->Pd Q ens i=⟨true,e.2.1,e.2.2⟩
 | [],ens,_,j,i,e,h,_=>by simp at h
 | x :: Q,[],_,j,i,e,_,h=>by simp at h
 | x :: Q,f :: ens,hn,j,i,e,h1,a=>by
  cases j with
  | zero =>
   simp only[ACq,AAi]at h1 a;subst h1;subst a;simp[Pd,ADF,lk]
  | succ j =>
   have h1:Q[j]?=some i:=by simpa using h1
   have b:i≠x:=λe=>by grind
   have:=pU (gO.1 hn).2 j i e h1 (by simpa using a);simp only[Pd,ADF,lk,At b]at this ⊢;exact this
structure Fr (tb:Tb) (ops:List Oper) (anc:List (List Nat)) (L Q:List Nat) (ens:EN) (τ:St):Prop where
 q:QOk ops anc L Q
 len:ens.length=Q.length
 own:Own ops (Pd Q ens) τ Q
 at_:∀(j i:Nat),Q[j]?=some i->∃(o:Oper) (e:Nat×AV×List (Nat×Obj)),ops[i]?=some o/\ens[j]?=some e/\Au ops i=some e.1/\Pd Q ens i=⟨true,e.2.1,e.2.2⟩/\A23 tb ops τ (Pd Q ens) (Q.take j).reverse i o
theorem A25 {tb:Tb} {ops:List Oper} {anc:List (List Nat)} {L Q:List Nat} {ens:EN} {τ:St} (d:QOk ops anc L Q) (h:A96 tb ops Q ens τ):Fr tb ops anc L Q ens τ:=by
 obtain⟨vc,h1,p,q⟩:=h;have u:=λ(j i:Nat) (e:Nat×AV×List (Nat×Obj))=>pU (ens:=ens) d.nodup j i e;obtain⟨t,hf⟩:=Z8 (en:=Pd Q ens) (pre:=[]) h1 p (λts=>rfl) u;have k:∀i∈Q,∃(j:Nat) (e:Nat×AV×List (Nat×Obj)),Q[j]?=some i/\ens[j]?=some e/\Pd Q ens i=⟨true,e.2.1,e.2.2⟩:=by
  intro i hi;obtain⟨j,c⟩:=oF.1 hi;grind
 refine⟨d,t,⟨d.slot,λi hi n o hn=>?_,λi hi j c n o x f g=>?_⟩,λj i c=>?_⟩
 .grind [Sm]
 .obtain⟨a,e,ha,r,v⟩:=k i hi;obtain⟨b,m,l,s,w⟩:=k j c;rw[v]at f;rw[w]at g;have:=(Sm q a e r n o f).2 b m x s g;subst this;rw[ha]at l;injection l
 grind
theorem y3 {ops:List Oper} {en:Nat->En} {τ:St} {Q:List Nat} (h:Own ops en τ Q) {ts pre ex:List Nat} (k:∀j∈pre,j∈Q) (e:∀j∈ex,j∈Q) (d:∀j∈pre,Ad ((Au ops j).getD 0) ts=true->j∈ex) {n:Nat} {o:Obj} :
  lk n (CK false ts τ.objs (ES ops en pre))=some o->lk n (Az ops en τ ex).objs=some o:=by
 rw[lkO h e];induction pre with
 | nil =>
  simp only[ES,ADh,CK];intro hn;refine .inr ⟨λj b=>?_,hn⟩;cases a:lk n (en j).obs with
  | none=>rfl
  | some f=>have:=h.new j (e j b) n f a;rw[this]at hn;cases hn
 | cons i r c =>
  simp only[ES,SK,CK];have c:=c (λj b=>k j (by simp[b])) (λj b=>d j (by simp[b]));split
  .rename_i g;intro hn;rw[BB]at hn;cases a:lk n (en i).obs with
   | some f =>
    rw[a]at hn;simp only[ADL]at hn;cases hn;exact .inl ⟨i,d i sc (by simpa using g),a⟩
   | none =>
    rw[a]at hn;exact c (by simpa[ES] using hn)
  exact c
theorem OH {p:Nat×Obj}:∀ {l:List (Nat×Obj)},p∈l->∃b,lk p.1 l=some b
 | (c,d) :: r,h=>by
  simp only[lk];by_cases a:p.1=c
  .simp_all
  rw[At a];rcases Do.1 h with rfl|h
  .exact absurd rfl a
  exact OH h
theorem pV {c:Cx} (y:c.Ok) {ops:List Oper} {anc:List (List Nat)} {L Q:List Nat} {ens:EN} {τ:St} (hF:Fr c.tb ops anc L Q ens τ) {ex:List Nat} (h:∀i∈ex,i∈Q) {j i:Nat} {o:Oper} (m:Q[j]?=some i) (s:ops[i]?=some o) (aj:i∉ex)
  (ad:∀k∈anc.getD i [],k∈Q->k∈ex) (I:∀d,o.dst=some d->d<c.nt) {a:Act} {w:World} {next:Act->World->Prop} {Qe:Exit->Act->World->Prop} (hs:c.sat (Az ops (Pd Q ens) τ ex) a w)
  (hn:∀A w',c.sat (Az ops (Pd Q ens) τ (i :: ex)) A w'->next A w'):o.wpIn (FR c.r) 0 c.P a w next Qe:=by
 obtain⟨l,e,D,af,ab,an,vc,U,X⟩:=hF.at_ j i m;rw[s]at D;cases D;obtain⟨_,ao,E,_,_,am⟩:=hF.q.pos j i m;rw[s]at E;cases E;have z:∀k∈(Q.take j).reverse,k∈Q:=λk hk=>iS (by simpa using hk);have S:Ops ⟨(Az ops (Pd Q ens) τ (Q.take j).reverse).env,CK false (Hr o.op) τ.objs (ES ops (Pd Q ens) (Q.take j).reverse)⟩ (Az ops (Pd Q ens) τ ex) o.op.operands.toList:=by
  intro x Y v b;cases x with
  | tmp t =>
   simp only[Am]at b ⊢;have al:t∈Hr o.op:=ACO.2 ⟨_,Y,rfl⟩;rw[lkE hF.own z]at b;rw[lkE hF.own h];rcases b with ⟨k,hk,ag,ah⟩|⟨ak,b⟩
   .grind
   grind
  | const ap=>exact b
  | global g=>exact b
  | func f=>exact b
 have R:iU ⟨(Az ops (Pd Q ens) τ (Q.take j).reverse).env,CK false (Hr o.op) τ.objs (ES ops (Pd Q ens) (Q.take j).reverse)⟩ (Az ops (Pd Q ens) τ ex):=by
  intro n l hn;refine y3 hF.own z h (λk hk ai=>?_) hn;obtain⟨Z,J⟩:=oF.1 (z k hk);obtain⟨_,aa,_,_,ae,_⟩:=hF.at_ Z k J;grind [Ah]
 have V:=Vk R S U;have C:=tO m;have B:Br (Pd Q ens i).obs (Az ops (Pd Q ens) τ ex)=true:=by
  simp only[Br,No,AAA];intro p T;obtain⟨l,F⟩:=OH T;cases N:lk p.1 (Az ops (Pd Q ens) τ ex).objs with
  | none=>rfl
  | some u =>
   rcases (lkO hF.own h p.1 u).1 N with ⟨k,hk,M⟩|⟨_,hu⟩
   .have:=hF.own.name i C k (h k hk) p.1 l u F M;grind
   rw[hF.own.new i C p.1 l F]at hu;cases hu
 obtain⟨ρ,G⟩:=hs;refine uN (A6l y G) V X B λu ρ' w' W=>hn _ _ ?_;have H:Au ops i=o.dst:=by simp[Au,s]
 simp only[Az,H];exact⟨ρ',G.add y.K y.O I B W⟩
end
section
open Go Go.RowKit
theorem M3:∀ {l l':List Nat},l.Nodup->(∀x∈l,x∈l')->l.length<=l'.length
 | [],_,_,_=>by simp
 | x :: l,l',hn,h=>by
  have b:=h x sc;have:=M3 (l:=l) (l':=l'.erase x) (gO.1 hn).2 (λy a=>by
   have:y≠x:=λe=>(gO.1 hn).1 (e▸a);exact(ADv this).2 (h y (by simp[a])))
  grind
theorem JY (A:List Nat) (l:Nat) (a:List (List Nat×Nat)) (D:List Nat):qs ((A,l) :: a) D=A++qs a D:=by simp[qs]
structure AAV (ops:List Oper) (anc:List (List Nat)) (p0:Nat) (L:List Nat) (ps:List (List Nat×Nat)) (D:List Nat):Prop where
 all:∀i,i<p0->i∈L\/i∈qs ps D\/i∈ps.map (·.2)
 back:∀i,p0<=i->i<ops.length->∀j,j<i->j∈anc.getD i []
 L:∀i∈L,i<p0
 Q:∀i∈qs ps D,i<p0
 lo:∀p∈ps,p.2<p0
 p0:p0<=ops.length
theorem XK {ops:List Oper} {anc:List (List Nat)} {p0:Nat} {L D:List Nat} (h:VS ops anc p0 L [] D=true):QOk ops anc L D/\(∀i,i<p0->i∈L\/i∈D)/\L.length+D.length=p0/\p0<=ops.length/\(∀i∈L,i<p0)/\(∀i∈D,i<p0)/\(∀i,p0<=i->i<ops.length->∀j,j<i->j∈anc.getD i []):=by
 simp only[VS,As,No,SH,Ts,NO,Ah]at h;grind [qOk]
theorem KR {ops:List Oper} {anc:List (List Nat)} {p0:Nat} {L D A:List Nat} {l:Nat} {b:List (List Nat×Nat)} (h:VS ops anc p0 L ((A,l) :: b) D=true):QOk ops anc L (A++qs b D)/\(∃o,ops[l]?=some o/\o.guard=none/\(∀e∈EU o,e∈L\/e∈A))/\(∀j∈A,j∈anc.getD l [])/\l∉L/\l∉A++qs b D/\(∀p∈b,l∈anc.getD p.2 [])/\VS ops anc p0 (l :: (A++L)) b D=true:=by
 simp only[VS,As,No,Ah]at h;obtain⟨⟨⟨h1,a⟩,m⟩,n⟩:=h;cases f:ops[l]? with
 | none=>rw[f]at a;cases a
 | some o =>
  rw[f]at a;simp only[As,No,Ts,Ah,SD,AAA]at a;obtain⟨⟨⟨⟨g,i⟩,k⟩,c⟩,d⟩:=a;exact⟨qOk h1,⟨o,rfl,g,i⟩,k,λh=>(by rw[(Ah _ _).2 h]at c;cases c),λh=>(by rw[(Ah _ _).2 h]at d;cases d),m,n⟩
theorem XL {ops:List Oper} {anc:List (List Nat)} {p0:Nat}:∀ {c:List (List Nat×Nat)} {L D:List Nat},VS ops anc p0 L c D=true->AAV ops anc p0 L c D
 | [],L,D,h=>by
  obtain⟨_,h1,j,d,e,f,g⟩:=XK h;refine⟨λi hi=>?_,g,e,by simpa[qs] using f,by simp,d⟩;grind [qs]
 | (A,l) :: c,L,D,h=>by
  obtain⟨_,_,_,_,_,_,h1⟩:=KR h;have a:=XL h1;refine⟨λi hi=>?_,a.back,λi hi=>a.L i (by simp[hi]),λi hi=>?_,λp b=>?_,a.p0⟩
  .rcases a.all i hi with h|h|h
   .grind [JY]
   .grind [JY]
   grind
  .rw[JY,ON]at hi;rcases hi with hi|hi
   .exact a.L i (by simp[hi])
   exact a.Q i hi
  rcases Do.1 b with rfl|b
  .exact a.L l sc
  exact a.lo p b
theorem eU {ops:List Oper} {en:Nat->En} {τ:St}:∀ {Q:List Nat} {ens:EN} {pre:List Nat},ens.length=Q.length->(∀(j i:Nat) (e:Nat×AV×List (Nat×Obj)),Q[j]?=some i->ens[j]?=some e->Au ops i=some e.1/\en i=⟨true,e.2.1,e.2.2⟩) ->
  Oi ens (Az ops en τ pre)=Az ops en τ (Q.reverse++pre)
 | [],[],pre,_,_=>rfl
 | [],_ :: _,_,h,_=>by simp at h
 | _ :: _,[],_,h,_=>by simp at h
 | i :: Q,(d,v,obs) :: ens,pre,f,h=>by
  obtain⟨h1,a⟩:=h 0 i (d,v,obs) rfl rfl;have:(⟨(d,v) :: (Az ops en τ pre).env,obs++(Az ops en τ pre).objs⟩:St)=Az ops en τ (i :: pre):=by simp[Az,h1,a,St.add]
  simp only[Oi];rw[this,eU (by simpa using f) (λj k e b c=>h (j+1) k e (by simpa using b) (by simpa using c))];simp
section
variable {c:Cx} {ops:Array Oper} {anc:List (List Nat)} {p0:Nat} {Kf:St->Prop} {Qe:Exit->Act->World->Prop}
theorem A26 {a:List (List Nat×Nat)} {L D:List Nat} {ens:EN} {τ:St} (b:VS ops.toList anc p0 L a D=true) (d:Mix c ops.toList Kf a D ens τ):Fr c.tb ops.toList anc L (qs a D) ens τ:=by
 cases a with
 | nil =>
  have:qs [] D=D:=rfl;rw[this];exact A25 (XK b).1 d.1
 | cons p a =>
  obtain⟨A,l⟩:=p;rw[JY];exact A25 (KR b).1 d.1
theorem aA (x:Z9 ops anc) {a:List (List Nat×Nat)} {L D:List Nat} {ex:List Nat} {listed:Array Bool} (w:VS ops.toList anc p0 L a D=true) (v:QOk ops.toList anc L (qs a D)) (u:∀i∈ex,i∈qs a D) (I:listed.size=ops.size)
  (H:∀i,i<ops.size->(listed.getD i true=true↔i∈L\/i∈ex)) (hf:¬(a=[]/\∀i∈qs a D,i∈ex)):∃i,i∈Region.ready .any ops listed:=by
 have C:∀e b,e<ops.size->listed.getD e b=listed.getD e true:=λe b c=>by grind
 have mk:∀i o,ops[i]?=some o->i∉L->i∉ex->(∀e∈EU o,e∈L\/e∈ex)->i∈Region.ready .any ops listed:=by
  intro i o f h1 k E;have J:i<ops.size:=(Tt.1 f).1;rw[Dx];refine⟨?_,o,f,λe c=>?_⟩
  .grind
  have F:=x.lt i o f e c;grind
 by_cases t:∀i∈qs a D,i∈ex
 .cases a with
  | nil=>exact absurd ⟨rfl,t⟩ hf
  | cons p a =>
   obtain⟨A,l⟩:=p;rw[JY]at t u;obtain⟨_,⟨o,f,_,y⟩,_,h1,k,_,_⟩:=KR w;refine⟨l,mk l o (by simpa using f) h1 (λh=>k (u l h)) λe c=>?_⟩;rcases y e c with h|h
   .exact .inl h
   grind
 have key:∀(n j:Nat),j<=n->(∃i,(qs a D)[j]?=some i/\i∉ex)->∃i,i∈Region.ready .any ops listed:=by
  intro n;induction n with
  | zero =>
   rintro j s ⟨i,hi,d⟩;have:j=0:=by omega
   subst this;obtain⟨m,o,q,_,r,_⟩:=v.pos 0 i hi;refine⟨i,mk i o (by simpa using q) m d λe c=>?_⟩;rcases r e c with h|h
   .exact .inl h
   simp at h
  | succ n B =>
   rintro j s ⟨i,hi,d⟩;by_cases z:∃g,g<j/\∃i',(qs a D)[g]?=some i'/\i'∉ex
   .obtain⟨g,h1,k⟩:=z;exact B g O1 k
   obtain⟨m,o,q,_,r,_⟩:=v.pos j i hi;refine⟨i,mk i o (by simpa using q) m d λe c=>?_⟩;rcases r e c with h|h
   .exact .inl h
   right;obtain⟨g,G⟩:=oF.1 h;grind
 have:∃i,i∈qs a D/\i∉ex:=by grind
 obtain⟨i,hi,d⟩:=this;obtain⟨j,s⟩:=oF.1 hi;exact key j j (OR _) ⟨i,s,d⟩
theorem aB (G:Z9 ops anc) (hT:∀τ,Kf τ->∀a w,c.sat τ a w->wpListIn (FR c.r) 0 c.P ops Qe (ops.toList.drop p0) a w) {m:Nat} {L D:List Nat} {ens:EN} {τ:St} {ex:List Nat} {listed:Array Bool} {a:Act} {w:World}
  (C:VS ops.toList anc p0 L [] D=true) (g:Mix c ops.toList Kf [] D ens τ) (M:(L++ex).Nodup) (b:∀i∈ex,i∈D) (W:m+L.length+ex.length=ops.size) (J:listed.size=ops.size) (I:∀i,i<ops.size->(listed.getD i true=true↔i∈L\/i∈ex))
  (hs:c.sat (Az ops.toList (Pd D ens) τ ex) a w) (d:∀i∈D,i∈ex):wpAnyIn (FR c.r) 0 c.P .any ops Qe m listed a w:=by
 obtain⟨q,h1,S,y,T,U,z⟩:=XK C;have hF:=A25 q g.1;have V:ex.length=D.length:=ACA (M3 (ABU.1 M).2.1 b) (M3 q.nodup d);have K:m=(ops.toList.drop p0).length:=by grind
 have E:Oi ens τ=Az ops.toList (Pd D ens) τ D.reverse:=by
  have:=eU (ops:=ops.toList) (en:=Pd D ens) (τ:=τ) (pre:=[]) hF.len (λj i e A B=>by
   obtain⟨o,R,_,f,u,x,_⟩:=hF.at_ j i A;rw[B]at f;cases f;exact⟨u,x⟩)
  simpa[Az] using this
 have O:c.sat (Oi ens τ) a w:=by
  rw[E];have t:∀i∈D.reverse,i∈D:=λi hi=>by simpa using hi
  have l:∀i,i∈ex↔i∈D.reverse:=λi=>⟨λh=>by simpa using b i h,λh=>d i (by simpa using h)⟩;refine XD (λs=>ADO λv=>?_) (λn=>ADO λo=>?_) hs
  .rw[lkE hF.own t,lkE hF.own b];simp only[l]
  rw[lkO hF.own t,lkO hF.own b];simp only[l]
 have:=Sn (Q:=Qe) (F:=FR c.r) (P:=c.P) G (k:=p0) (λi o N hi j H=>z i hi (by have:=(Tt.1 N).1;simpa using this) j H) (rest:=ops.toList.drop p0) (p:=p0) (listed:=listed) (a:=a) (w:=w) rfl (OR _) (by simpa using y) J
  (λi hi=>by
   rw[I i hi];constructor
   .grind
   intro h;rcases h1 i h with h|h
   .exact .inl h
   exact .inr (d i h)) (hT _ g.2 a w O)
 rw[K];exact this
theorem A6w (ci:c.Ok) (bz:∀o∈ops.toList,IV c.nt o=true) (ab:Z9 ops anc) (hT:∀τ,Kf τ->∀a w,c.sat τ a w->wpListIn (FR c.r) 0 c.P ops Qe (ops.toList.drop p0) a w) :
  ∀(m:Nat) (f:List (List Nat×Nat)) (L D:List Nat) (ens:EN) (τ:St) (ex:List Nat) (listed:Array Bool) (a:Act) (w:World),VS ops.toList anc p0 L f D=true->Mix c ops.toList Kf f D ens τ->(L++ex).Nodup->(∀i∈ex,i∈qs f D) ->
   m+L.length+ex.length=ops.size->listed.size=ops.size->(∀i,i<ops.size->(listed.getD i true=true↔i∈L\/i∈ex))->(∀i o,ops[i]?=some o->(i∈L\/i∈ex)->∀e∈EU o,e∈L\/e∈ex) ->
   c.sat (Az ops.toList (Pd (qs f D) ens) τ ex) a w->wpAnyIn (FR c.r) 0 c.P .any ops Qe m listed a w:=by
 intro m;induction m with
 | zero =>
  intro f L D ens τ ex listed a w C T H B ax U O ae hs;have hF:=A26 C T;by_cases hf:f=[]/\∀i∈qs f D,i∈ex
  .obtain⟨rfl,aq⟩:=hf;exact aB ab hT C T H B ax U O hs aq
  exfalso;obtain⟨i,hi⟩:=aA ab C hF.q B U O hf;rw[Dx]at hi;obtain⟨h1,o,E,_⟩:=hi;have X:i<ops.size:=(Tt.1 E).1;have I:i∉L++ex:=λh=>by grind
  have N:=XL C;have:=Ed ops.size (i :: (L++ex)) (gO.2 ⟨I,H⟩) (λj d=>by
   have ay:=N.p0;simp only[ADd]at ay;rcases Do.1 d with rfl|d
   .exact X
   rcases ON.1 d with d|d
   .have:=N.L j d;omega
   have:=N.Q j (B j d);omega)
  grind
 | succ m bk =>
  intro f L D ens τ ex listed a w C T H B ax U O ae hs;have hF:=A26 C T;have N:=XL C;have bo:∀e b,e<ops.size->listed.getD e b=listed.getD e true:=λe b F=>by grind
  by_cases hf:f=[]/\∀i∈qs f D,i∈ex
  .obtain⟨rfl,aq⟩:=hf;exact aB ab hT C T H B ax U O hs aq
  refine⟨λcw=>?_,λi hi=>?_⟩
  .obtain⟨i,hi⟩:=aA ab C hF.q B U O hf;grind
  rw[Dx]at hi;obtain⟨h1,o,E,cr⟩:=hi;have X:i<ops.size:=(Tt.1 E).1;have I:¬(i∈L\/i∈ex):=λh=>by rw[(O i X).2 h]at h1;cases h1
  have ba:∀e∈EU o,e∈L\/e∈ex:=λe F=>by grind
  have ad:∀j∈anc.getD i [],j∈L\/j∈ex:=by
   have cu:∀i o,ops[i]?=some o->listed.getD i true=true->∀e∈EU o,listed.getD e false=true:=by
    intro i o E h1 e F;have X:i<ops.size:=(Tt.1 E).1;have Y:=ab.lt i o E e F;rw[bo e false O1];exact(O e O1).2 (ae i o E ((O i X).1 h1) e F)
   grind [Ud]
  have ag:ops.toList[i]?=some o:=by simpa using E
  have cg:o∈ops.toList:=tO ag;have bx:=B2 (bz o cg);have be:∀(S:List Nat),(∀j,j∈S↔j=i\/j∈L\/j∈ex)->∀j,j<ops.size->((listed.setIfInBounds i true).getD j true=true↔j∈S):=by
   intro S bv j d;have ce:j<listed.size:=by omega
   rw[bv];by_cases aw:j=i
   .subst aw;simp[Array.getD,ce]
   have Y:(listed.setIfInBounds i true).getD j true=listed.getD j true:=getD_set_ne true (λe=>aw e.symm);rw[Y,O j d];simp[aw]
  have bj:∀ {g:Option (Nat×Bool)},g=none->o.guard=g->Region.wanted o (yielded ops a.tmps)=true:=by
   intro g au e;simp[Region.wanted,e,au]
  by_cases af:i∈qs f D
  .obtain⟨j,d⟩:=oF.1 af;obtain⟨_,cz,bf,au,_,_⟩:=hF.q.pos j i d;rw[ag]at bf;cases bf;unfold wpOpIn;rw[E];simp only;rw[BY (bj rfl au)];refine pV ci hF B d ag (λh=>I (.inr h)) (λk hk cf=>?_) bx hs λak w' cj=>?_
   .rcases ad k hk with h|h
    .obtain⟨u,R⟩:=oF.1 cf;exact absurd h (hF.q.pos u k R).1
    exact h
   refine bk f L D ens τ (i :: ex) _ ak w' C T ?_ (λk hk=>?_) (by simp only[Is];omega) (by simpa using U) (λk hk=>?_) (λi' W G av e F=>?_) cj
   .rw[ABU]at H ⊢;refine⟨H.1,gO.2 ⟨λh=>I (.inr h),H.2.1⟩,λx t y V=>?_⟩;rcases Do.1 V with rfl|V
    .exact λe=>I (.inl (e▸t))
    exact H.2.2 x t y V
   .rcases Do.1 hk with rfl|hk
    .exact af
    exact B k hk
   .rw[be (i :: (L++ex)) (λj=>by simp) k hk];simp only[Do,ON];constructor
    .rintro (h|h|h)
     .exact .inr (.inl h)
     .exact .inl h
     exact .inr (.inr h)
    rintro (h|h|h)
    .exact .inr (.inl h)
    .exact .inl h
    exact .inr (.inr h)
   have:e∈L\/e∈ex:=by
    rcases av with h|h
    .exact ae i' W G (.inl h) e F
    rcases Do.1 h with rfl|h
    .rw[E]at G;cases G;exact ba e F
    exact ae i' W G (.inr h) e F
   rcases this with h|h
   .exact .inl h
   exact .inr (by simp[h])
  . -- no operation of the front
   have cx:¬p0<=i:=by
    intro cb;have az:=N.back i cb (by simpa using X);cases f with
    | nil =>
     refine hf ⟨rfl,λj d=>?_⟩;have Y:=N.Q j d;rcases ad j (az j O1) with h|h
     .obtain⟨u,R⟩:=oF.1 d;exact absurd h (hF.q.pos u j R).1
     exact h
    | cons p f =>
     obtain⟨A,l⟩:=p;obtain⟨_,_,_,am,an,_,_⟩:=KR C;have Y:=N.lo (A,l) sc;simp only at Y;rcases ad l (az l O1) with h|h
     .exact am h
     exact an (by rw[<-JY A l];exact B l h)
   cases f with
   | nil =>
    rcases N.all i O1 with h|h|h
    .exact absurd (.inl h) I
    .exact absurd h af
    cases h
   | cons p f =>
    obtain⟨A,l⟩:=p;obtain⟨_,⟨ol,bg,cc,cv⟩,br,am,an,bp,bs⟩:=KR C;have cd:i=l:=by
     rcases N.all i O1 with h|h|h
     .exact absurd (.inl h) I
     .exact absurd h af
     simp only[SK,Do,DO]at h;rcases h with h|⟨p,ay,rfl⟩
     .exact h
     rcases ad l (bp p ay) with h|h
     .exact absurd h am
     exact absurd (B l h) (by rw[JY];exact an)
    subst cd;rw[ag]at bg;cases bg;rw[JY]at hF B hs af;obtain⟨ct,W,G,bt⟩:=T;rw[ag]at G;cases G;have Z:∀j∈A,j∈ex:=λj d=>by
     rcases ad j (br j d) with h|h
     .obtain⟨u,R⟩:=oF.1 (show j∈A++qs f D by simp[d]);exact absurd h (hF.q.pos u j R).1
     exact h
    have ao:A.Nodup/\(qs f D).Nodup/\∀x∈A,∀y∈qs f D,x≠y:=ABU.1 hF.q.nodup;have bw:Oi (ens.take A.length) τ=Az ops.toList (Pd (A++qs f D) ens) τ A.reverse:=by
     have:=eU (ops:=ops.toList) (en:=Pd (A++qs f D) ens) (τ:=τ) (pre:=[]) (Q:=A) (ens:=ens.take A.length) (by have:=hF.len;simp only[F3]at this;simp only[OF];omega) (λj i e M z=>by
      have bd:j<A.length:=(R8.1 M).1;obtain⟨o,cq,_,J,K,al,_⟩:=hF.at_ j i (by rw[TO bd];exact M);rw[Tv,BY bd,J]at z;cases z;exact⟨K,al⟩)
     simpa[Az] using this
    have bi:=yZ (A:=A.reverse) hF.own B (λj d=>Z j (by simpa using d));rw[<-bw]at bi;have aj:∀j,j∈ex.filter (λj=>!Ad j A.reverse)↔j∈ex/\j∉A:=λj=>by
     rw[Tz];have:=Ah j A.reverse;constructor
     .rintro⟨M,z⟩;exact⟨M,λJ=>by rw[this.2 (by simpa using J)]at z;cases z⟩
     rintro⟨M,z⟩;refine⟨M,?_⟩;cases ch:Ad j A.reverse with
     | false=>rfl
     | true=>exact absurd (by simpa using this.1 ch) z
    have aa:∀j∈ex.filter (λj=>!Ad j A.reverse),j∈qs f D:=λj d=>by
     have:=B j ((aj j).1 d).1;rcases ON.1 this with h|h
     .exact absurd h ((aj j).1 d).2
     exact h
    have ar:∀j∈qs f D,∃(u:Nat) (e:Nat×AV×List (Nat×Obj)),(qs f D)[u]?=some j/\(ens.drop A.length)[u]?=some e/\Au ops.toList j=some e.1/\Pd (A++qs f D) ens j=⟨true,e.2.1,e.2.2⟩:=by
     intro j d;obtain⟨u,R⟩:=oF.1 d;obtain⟨o,e,_,J,K,al,_⟩:=hF.at_ (A.length+u) j (by rw[SL O1,ADk];exact R);exact⟨u,e,R,by rw[oS];exact J,K,al⟩
    have bh:Own ops.toList (Pd (A++qs f D) ens) ⟨[],[]⟩ (A++qs f D):=⟨hF.own.slot,λ_ _ _ _ _=>rfl,hF.own.name⟩;have bb:∀j∈ex.filter (λj=>!Ad j A.reverse),j∈A++qs f D:=λj d=>by simp[aa j d]
    unfold wpOpIn;rw[E];simp only;rw[BY (bj rfl cc)];refine bt _ _ bi ⟨λs v ah=>?_,λn W hn=>?_⟩ a w _ _ hs λbn bu ak w' da bc ck=>?_
    .rcases (lkE bh bb s v).1 ah with ⟨j,d,ai,rfl⟩|⟨_,ah⟩
     .obtain⟨u,e,_,z,J,K⟩:=ar j (aa j d);rw[ai]at J;cases J;rw[K];exact⟨e.2.2,tO z⟩
     cases ah
    .rcases (lkO bh bb n W).1 hn with ⟨j,d,ai⟩|⟨_,ah⟩
     .obtain⟨u,e,_,z,J,K⟩:=ar j (aa j d);rw[K]at ai;exact⟨e,tO z,GS ai⟩
     cases ah
    have cs:ex.length=A.length+(ex.filter (λj=>!Ad j A.reverse)).length:=by
     have cl:∀l:List Nat,l.length=(l.filter (λj=>Ad j A.reverse)).length+(l.filter (λj=>!Ad j A.reverse)).length:=by
      intro l;induction l with
      | nil=>rfl
      | cons x r cy =>
       simp only[Tu,Is];cases Ad x A.reverse<;>simp<;>omega
     rw[cl ex];have ca:=(ABU.1 H).2.1;have M:(ex.filter (λj=>Ad j A.reverse)).length<=A.length:=M3 (ca.filter _) λx t=>by
      have:=(Ah _ _).1 (Tz.1 t).2;simpa using this
     have z:A.length<=(ex.filter (λj=>Ad j A.reverse)).length:=M3 ao.1 λx t=>Tz.2 ⟨Z x t,(Ah _ _).2 (by simpa using t)⟩;omega
    have ap:∀x,(x∈i :: (A++L)\/x∈ex.filter (λj=>!Ad j A.reverse))↔x=i\/x∈L\/x∈ex:=by
     intro x;rw[aj];simp only[Do,ON];constructor
     .rintro ((h|h|h)|h)
      .exact .inl h
      .exact .inr (.inr (Z x h))
      .exact .inr (.inl h)
      exact .inr (.inr h.1)
     rintro (h|h|h)
     .exact .inl (.inl h)
     .exact .inl (.inr (.inr h))
     by_cases t:x∈A
     .exact .inl (.inr (.inl t))
     exact .inr ⟨h,t⟩
    refine bk f (i :: (A++L)) D (ens.drop A.length) bn (ex.filter λj=>!Ad j A.reverse) _ ak w' bs bu ?_ aa (by simp only[Is,F3];omega) (by simpa using U) (λk hk=>?_) (λi' W G av e F=>?_) ?_
    .obtain⟨n1,co,bl⟩:=ABU.1 H;have bq:∀x∈A,x∉L:=λx t cm=>bl x cm x (Z x t) rfl;rw[ABU];refine⟨gO.2 ⟨λh=>?_,ABU.2 ⟨ao.1,n1,λx t y V e=>bq x t (e▸V)⟩⟩,co.filter _,λx t y V e=>?_⟩
     .rcases ON.1 h with h|h
      .exact I (.inr (Z i h))
      exact I (.inl h)
     subst e;obtain⟨bm,cp⟩:=(aj x).1 V;rcases Do.1 t with rfl|t
     .exact I (.inr bm)
     rcases ON.1 t with t|t
     .exact cp t
     exact bl x t x bm rfl
    .rw[ap k,be (i :: (L++ex)) (λj=>by simp) k hk];simp
    .rw[ap];have:e∈L\/e∈ex:=by
      rcases (ap i').1 av with rfl|h
      .rw[E]at G;cases G;exact ba e F
      exact ae i' W G h e F
     exact .inr this
    have cn:∀j∈ex.filter (λj=>!Ad j A.reverse),Pd (qs f D) (ens.drop A.length) j=Pd (A++qs f D) ens j:=λj d=>by
     obtain⟨u,e,M,z,_,K⟩:=ar j (aa j d);rw[K];exact pU ao.2.1 u j e M z
    have t:=A20 (ops:=ops.toList) (en:=Pd (qs f D) (ens.drop A.length)) (τ:=bn) (ex.filter λj=>!Ad j A.reverse);rw[LQ (en:=Pd (A++qs f D) ens) (σ0:=⟨[],[]⟩) cn]at t;exact XD (λs=>by rw[t.env,bc.env]) (λn=>by rw[t.objs,bc.objs]) ck
end
section
variable {c:Cx} {R:Exit->Act->World->Prop} {k:List Dg} {σ:St}
theorem Fv (j:c.P.follows .mixedOrders=true) (g:c.Ok) {id:Nat} {l:List Oper} (p0:Nat) (d:List (List Nat×Nat)) (D:List Nat) (b:(A97 l (A1P l)&&VS l (A1P l) p0 [] d D)=true) {ens:EN}
  (h:Mix c l (fun τ=>JK c R k l.toArray (l.drop p0) τ) d D ens σ):Ev c R (.run (.region id l.toArray true)) k σ:=by
 intro h1 e a w hs;simp only[IW,B3,No]at h1;simp only[As]at b;refine wpIn_region_any j ?_;have hk:∀τ,JK c R k l.toArray (l.drop p0) τ->∀a w,c.sat τ a w->wpListIn (FR c.r) 0 c.P l.toArray (Ws c R k) (l.toArray.toList.drop p0) a w:=fun τ f a w hs=>f (λo m=>h1 o (by simpa using ACE m)) e a w hs;exact A6w (ops:=l.toArray) (anc:=A1P l) g (by simpa using h1) (AAU (by simpa using b.1)) hk l.toArray.size d [] D ens σ [] (Array.replicate l.toArray.size false) a { w with drawn:=w.drawn+1 } (by simpa using b.2) (by simpa using h) sc sc sc sc (λi hi=>by simp at hi;simp[Array.getD,hi]) (λi o _ hi=>by simp at hi) (jU hs)
end
end
section
open Go Go.RowKit
section
variable {n:Nat} {ns:List Nat}
theorem HB {m:Nat} (hn:n∈ns) (h:¬Ad m ns=true):¬m=n:=λe=>h ((Ah _ _).2 (e▸hn))
mutual
theorem XM (hn:n∈ns) {e:Ty} {xs:List e.den}:∀(x:AV),x.fgt ns=x->x.frz n e xs=x
 | .sr m e' lo hi,h=>by grind [AV.fgt,AV.frz,HB]
 | .ep m e' i path off,h=>by grind [AV.fgt,AV.frz,HB]
 | .nin m e' i len,h=>by grind [AV.fgt,AV.frz,HB]
 | .ag l,h=>by
  simp only[AV.fgt,AV.ag.injEq]at h
  simp only[AV.frz,frzs_of_fgt hn l h]
 | .tup l,h=>by
  simp only[AV.fgt,AV.tup.injEq]at h
  simp only[AV.frz,frzs_of_fgt hn l h]
 | .p _ _,_=>rfl
 | .pc _ _,_=>rfl
 | .raw _,_=>rfl
 | .ip _ _,_=>rfl
 | .bp _ _ _,_=>rfl
 | .fn _,_=>rfl
 | .clo _ _,_=>rfl
 | .mp _,_=>rfl
 | .yl _,_=>rfl
 | .top,_=>rfl
theorem frzs_of_fgt (hn:n∈ns) {e:Ty} {xs:List e.den}:∀(l:List AV),AV.fgts ns l=l->AV.frzs n e xs l=l
 | [],_=>rfl
 | x :: r,h=>by
  simp only[AV.fgts,ACJ]at h
  simp only[AV.frzs,XM hn x h.1,frzs_of_fgt hn r h.2]
end
mutual
theorem XN (hn:n∈ns):∀(x:AV),x.fgt ns=x->x.drp n=x
 | .sr m e' lo hi,h=>by grind [AV.fgt,AV.drp,HB]
 | .ep m e' i path off,h=>by grind [AV.fgt,AV.drp,HB]
 | .nin m e' i len,h=>by grind [AV.fgt,AV.drp,HB]
 | .ag l,h=>by
  simp only[AV.fgt,AV.ag.injEq]at h
  simp only[AV.drp,drps_of_fgt hn l h]
 | .tup l,h=>by
  simp only[AV.fgt,AV.tup.injEq]at h
  simp only[AV.drp,drps_of_fgt hn l h]
 | .p _ _,_=>rfl
 | .pc _ _,_=>rfl
 | .raw _,_=>rfl
 | .ip _ _,_=>rfl
 | .bp _ _ _,_=>rfl
 | .fn _,_=>rfl
 | .clo _ _,_=>rfl
 | .mp _,_=>rfl
 | .yl _,_=>rfl
 | .top,_=>rfl
theorem drps_of_fgt (hn:n∈ns):∀(l:List AV),AV.fgts ns l=l->AV.drps n l=l
 | [],_=>rfl
 | x :: r,h=>by
  simp only[AV.fgts,ACJ]at h
  simp only[AV.drps,XN hn x h.1,drps_of_fgt hn r h.2]
end
end
section
variable {n:Nat} {ns tl:List Nat}
theorem EV (a:∀n,n∈tl->n∈ns) {m:Nat} (h:¬Ad m ns=true):¬Ad m tl=true:=λh1=>h ((Ah _ _).2 (a _ ((Ah _ _).1 h1)))
theorem vC (a:∀n,n∈tl->n∈ns) {l:List Nat} (h:¬(l.any λm=>Ad m ns)=true):¬(l.any λm=>Ad m tl)=true:=λh1=>by grind [Ah]
mutual
theorem XO (htl:∀n,n∈tl->n∈ns):∀(x:AV),x.fgt ns=x->x.fgt tl=x
 | .sr m e' lo hi,h=>by grind [AV.fgt,EV]
 | .ep m e' i path off,h=>by grind [AV.fgt,EV]
 | .nin m e' i len,h=>by grind [AV.fgt,EV]
 | .bp m path off,h=>by grind [AV.fgt,EV]
 | .mp m,h=>by grind [AV.fgt,EV]
 | .yl m,h=>by grind [AV.fgt,EV]
 | .clo f cs,h=>by
  simp only[AV.fgt]at h
  split at h
  .cases h
  rename_i hm;simp only[AV.fgt,At (vC htl hm)]
 | .ag l,h=>by
  simp only[AV.fgt,AV.ag.injEq]at h
  simp only[AV.fgt,fgts_of_fgt htl l h]
 | .tup l,h=>by
  simp only[AV.fgt,AV.tup.injEq]at h
  simp only[AV.fgt,fgts_of_fgt htl l h]
 | .p _ _,_=>rfl
 | .pc _ _,_=>rfl
 | .raw _,_=>rfl
 | .ip _ _,_=>rfl
 | .fn _,_=>rfl
 | .top,_=>rfl
theorem fgts_of_fgt (htl:∀n,n∈tl->n∈ns):∀(l:List AV),AV.fgts ns l=l->AV.fgts tl l=l
 | [],_=>rfl
 | x :: r,h=>by
  simp only[AV.fgts,ACJ]at h
  simp only[AV.fgts,XO htl x h.1,fgts_of_fgt htl r h.2]
end
mutual
theorem XP (hn:n∈ns) (htl:∀n,n∈tl->n∈ns):∀(x:AV),x.fgt ns=x->x.trn n tl=x
 | .sr m e' lo hi,h=>by grind [AV.fgt,AV.trn,EV]
 | .ep m e' i path off,h=>by grind [AV.fgt,AV.trn,EV]
 | .nin m e' i len,h=>by grind [AV.fgt,AV.trn,HB,EV]
 | .bp m path off,h=>by grind [AV.fgt,AV.trn,EV]
 | .mp m,h=>by grind [AV.fgt,AV.trn,EV]
 | .yl m,h=>by grind [AV.fgt,AV.trn,EV]
 | .clo f cs,h=>by
  simp only[AV.fgt]at h
  split at h
  .cases h
  rename_i hm;simp only[AV.trn,At (vC htl hm)]
 | .ag l,h=>by
  simp only[AV.fgt,AV.ag.injEq]at h
  simp only[AV.trn,trns_of_fgt hn htl l h]
 | .tup l,h=>by
  simp only[AV.fgt,AV.tup.injEq]at h
  simp only[AV.trn,trns_of_fgt hn htl l h]
 | .p _ _,_=>rfl
 | .pc _ _,_=>rfl
 | .raw _,_=>rfl
 | .ip _ _,_=>rfl
 | .fn _,_=>rfl
 | .top,_=>rfl
theorem trns_of_fgt (hn:n∈ns) (htl:∀n,n∈tl->n∈ns):∀(l:List AV),AV.fgts ns l=l->AV.trns n tl l=l
 | [],_=>rfl
 | x :: r,h=>by
  simp only[AV.fgts,ACJ]at h
  simp only[AV.trns,XP hn htl x h.1,trns_of_fgt hn htl r h.2]
end
end
def LS:AV->Bool
 | .raw _=>true
 | .p _ _=>true
 | _=>false
def M4:Obj->Bool
 | .arr _ _ _=>true
 | .box _ _ fs=>fs.all LS
 | _=>false
theorem XQ {n:Nat} {e:Ty} {xs:List e.den}:∀fs:List AV,fs.all LS=true->AV.frzs n e xs fs=fs
 | [],_=>rfl
 | x :: r,h=>by
  rw[ACy,As]at h;simp only[AV.frzs,XQ r h.2];cases x<;>first|rfl|(have:=h.1;simp[LS]at this)
theorem XR {n:Nat}:∀fs:List AV,fs.all LS=true->AV.drps n fs=fs
 | [],_=>rfl
 | x :: r,h=>by
  rw[ACy,As]at h;simp only[AV.drps,XR r h.2];cases x<;>first|rfl|(have:=h.1;simp[LS]at this)
theorem y4 {n:Nat} {e:Ty} {xs:List e.den} {o:Obj} (h:M4 o=true):Obj.frz n e xs o=o:=by
 cases o with
 | box et st fs=>simp only[Obj.frz,XQ fs h]
 | arr et a ys=>rfl
 | _=>cases h
theorem y5 {n:Nat} {o:Obj} (h:M4 o=true):Obj.drp n o=o:=by
 cases o with
 | box et st fs=>simp only[Obj.drp,XR fs h]
 | arr et a ys=>rfl
 | _=>cases h
theorem XS {hs:List Nat}:∀fs:List AV,fs.all LS=true->AV.fgts hs fs=fs
 | [],_=>rfl
 | x :: r,h=>by
  rw[ACy,As]at h;simp only[AV.fgts,XS r h.2];cases x<;>first|rfl|(have:=h.1;simp[LS]at this)
theorem aC {hs:List Nat} {o:Obj} (h:M4 o=true):Obj.fgt hs o=o:=by
 cases o with
 | box et st fs=>simp only[Obj.fgt,XS fs h]
 | arr et a ys=>rfl
 | _=>cases h
theorem XT {n:Nat} {hs:List Nat}:∀fs:List AV,fs.all LS=true->AV.trns n hs fs=fs
 | [],_=>rfl
 | x :: r,h=>by
  rw[ACy,As]at h;simp only[AV.trns,XT r h.2];cases x<;>first|rfl|(have:=h.1;simp[LS]at this)
theorem aD {n:Nat} {hs:List Nat} {o:Obj} (h:M4 o=true):Obj.trn n hs o=o:=by
 cases o with
 | box et st fs=>simp only[Obj.trn,XT fs h]
 | arr et a ys=>rfl
 | _=>cases h
structure Ia (X σ:St) (ns:List Nat):Prop where
 env:∀s v,lk s X.env=some v->v.fgt ns=v
 arr:∀n o,lk n X.objs=some o->M4 o=true
 new:∀n o,lk n X.objs=some o->lk n σ.objs=none
 nm:∀n o,lk n X.objs=some o->n∉ns
section
variable {σ σ' X:St} {ns:List Nat}
theorem Oj.lkn (b:Oj σ σ' X) (ha:Ia X σ ns) {n:Nat} (hn:n∈ns):lk n σ'.objs=lk n σ.objs:=by
 rw[b.objs];cases a:lk n X.objs with
 | none=>rfl
 | some o=>exact absurd hn (ha.nm n o a)
theorem Oj.obs (b:Oj σ σ' X) (ha:Ia X σ ns):iU σ σ':=by
 intro n o hn;rw[b.objs];cases a:lk n X.objs with
 | none=>exact hn
 | some c=>rw[ha.new n c a]at hn;cases hn
theorem A6x {n:Nat} (c:Oj σ σ' X) (ha:Ia X σ ns) (hn:n∈ns):Oj (frz n σ) (frz n σ') X/\Ia X (frz n σ) ns:=by
 unfold frz;split
 .exact⟨c,ha⟩
 have core:∀(e:Ty) (xs:List e.den),Oj ⟨Du n e xs σ.env,BM n e xs (del n σ.objs)⟩ ⟨Du n e xs σ'.env,BM n e xs (del n σ'.objs)⟩ X/\Ia X ⟨Du n e xs σ.env,BM n e xs (del n σ.objs)⟩ ns:=by
  intro e xs;refine⟨⟨λs=>?_,λm=>?_⟩,ha.env,ha.arr,λm o b=>?_,ha.nm⟩
  .simp only[Ny,c.env];cases a:lk s X.env with
   | none=>rfl
   | some v=>simp[XM hn v (ha.env s v a)]
  .simp only[Cf,SY];by_cases b:m=n
   .subst b;cases a:lk m X.objs with
    | none=>simp
    | some o=>exact absurd hn (ha.nm m o a)
   simp only[At b,c.objs];cases a:lk m X.objs with
   | none=>rfl
   | some o=>exact ACb some (y4 (ha.arr m o a))
  simp only[Cf,SY];split
  .rfl
  rw[ha.new m o b];rfl
 rw[c.lkn ha hn];unfold yB;grind
theorem XU:∀ {l:List Nat} {σ σ':St},Oj σ σ' X->Ia X σ ns->(∀n∈l,n∈ns)->Oj (DN l σ) (DN l σ') X/\Ia X (DN l σ) ns
 | [],_,_,a,ha,_=>⟨a,ha⟩
 | n :: l,σ,σ',a,ha,h=>by
  obtain⟨h1,b⟩:=A6x a ha (h n sc);have:=XU (l:=l) h1 b λm c=>h m (by simp[c]);exact this
def pW (σ σ':St) (xs:List Operand):Prop:=∀x∈xs,Am σ' x=Am σ x
theorem Vs (b:Oj σ σ' X) {xs:List Operand} (h:∀t∈xs.filterMap Ua,lk t X.env=none):pW σ σ' xs:=by
 intro x a;cases x with
 | tmp t =>
  simp only[Am,b.env];rw[h t (ACO.2 ⟨_,a,rfl⟩)];rfl
 | const v=>rfl
 | global g=>rfl
 | func f=>rfl
theorem M5:∀ {l:List (Nat×Operand)},pW σ σ' (l.map (·.2))->EC σ' l=EC σ l
 | [],_=>rfl
 | (i,x) :: r,h=>by
  simp only[EC];rw[h x sc,M5 (λy a=>h y (by simp only[SK,Do];exact .inr a))]
theorem Qt:∀ {l:List (Nat×Operand)},pW σ σ' (l.map (·.2))->GR σ' l=GR σ l
 | [],_=>rfl
 | (i,x) :: r,h=>by
  simp only[GR];rw[h x sc,Qt (λy a=>h y (by simp only[SK,Do];exact .inr a))]
theorem pX (b:Oj σ σ' X) (ha:Ia X σ ns) (n:Nat):DM (lk n σ'.objs)=DM (lk n σ.objs):=by
 rw[b.objs];cases a:lk n X.objs with
 | none=>rfl
 | some o =>
  rw[ha.new n o a];have:=ha.arr n o a;cases o<;>first|rfl|cases this
theorem j8 (a:Oj σ σ' X) (ha:Ia X σ ns) {op:Op} (h:pW σ σ' op.operands.toList):Ca σ' op=Ca σ op:=by
 cases op<;>simp only[Ca];case buildSlice t n parts =>
  exact M5 (λx a=>h x (by simpa[Op.operands] using a))
 case build t parts =>
  exact Qt (λx a=>h x (by simpa[Op.operands] using a))
 case store t x y =>
  rw[h x (by simp[Op.operands]),h y (by simp[Op.operands])];unfold De;split
  .rw[pX a ha]
  rfl
 case mapUpdate t m x y =>
  rw[h m (by simp[Op.operands]),h x (by simp[Op.operands]),h y (by simp[Op.operands])]
def L6 (σ:St):Option AV->Option AV->List Nat
 | some (.sr n _ _ _),some (.sr m _ _ _)=>if DM (lk n σ.objs)=true then [n,m] else [n]
 | some (.sr n _ _ _),_=>[n]
 | some (.nin n _ _ _),_=>[n]
 | some (.raw _),some (.sr m _ _ _)=>if DM (lk m σ.objs)=true then [m] else []
 | _,_=>[]
def pY (σ:St):Option AV->Option AV->List Nat
 | some (.ep n _ _ _ _),some (.sr m _ _ _)=>if DM (lk n σ.objs)=true then [n,m] else []
 | _,_=>[]
def j9 (σ:St):Op->List Nat
 | .call c=>match c.callee,c.args.toList with
  | .builtin .append,[x,y]=>L6 σ (Am σ x) (Am σ y)
  | _,_=>[]
 | .store _ x y=>pY σ (Am σ x) (Am σ y)
 | _=>[]
theorem A27 {n:Nat} {e:Ty} {lo hi:Nat} {v:AV}:n∈L6 σ (some (.sr n e lo hi)) (some v):=by
 cases v<;>first|(simp[L6];done)|(simp only[L6];split<;>simp)
theorem vD (f:Oj σ σ' X) (ha:Ia X σ ns) {tl:List Nat} (e:∀n,n∈tl->n∈ns) {d b:Nat} {v:AV} {g:Obj} (i:lk d X.env=none) (j:lk b X.objs=none) :
  Oj ⟨(d,v) :: CA tl σ.env,(b,g) :: Ar tl tl σ.objs⟩ ⟨(d,v) :: CA tl σ'.env,(b,g) :: Ar tl tl σ'.objs⟩ X:=by
 refine⟨λs=>?_,λm=>?_⟩
 .simp only[lk];by_cases hs:s=d
  .grind
  rw[At hs,At hs,Ec,Ec,f.env];cases a:lk s X.env with
  | none=>rfl
  | some w=>simp[XO e w (ha.env s w a)]
 simp only[lk];by_cases c:m=b
 .grind
 rw[At c,At c,Bm,Bm,f.objs];cases a:lk m X.objs with
 | none=>rfl
 | some w =>
  rw[At λh=>ha.nm m w a (e _ ((Ah _ _).1 h))];exact ACb some (aC (ha.arr m w a))
theorem vE (c:Oj σ σ' X) (ha:Ia X σ ns) {n:Nat} {tl:List Nat} (hn:n∈ns) (b:∀n,n∈tl->n∈ns) {en:List (Nat×AV)} {new:List (Nat×Obj)} (d:∀s v,lk s en=some v->lk s X.env=none) (f:∀m o,lk m new=some o->lk m X.objs=none) :
  Oj ⟨en++Ey n tl σ.env,new++DF n tl σ.objs⟩ ⟨en++Ey n tl σ'.env,new++DF n tl σ'.objs⟩ X:=by
 refine⟨λs=>?_,λm=>?_⟩
 .simp only[BB];cases hs:lk s en with
  | some v=>rw[d s v hs];rfl
  | none =>
   rw[F7,F7,c.env];cases a:lk s X.env with
   | none=>rfl
   | some w=>simp[XP hn b w (ha.env s w a)]
 simp only[BB];cases e:lk m new with
 | some o=>rw[f m o e];rfl
 | none =>
  rw[Df,Df,c.objs];cases a:lk m X.objs with
  | none=>rfl
  | some w =>
   rw[At λh=>ha.nm m w a (by
    rcases Do.1 ((Ah _ _).1 h) with rfl|h
    .exact hn
    exact b _ h)]
   exact ACb some (aD (ha.arr m w a))
theorem eX {n:Nat} {o d:Obj} (c:Oj σ σ' X) (ha:Ia X σ ns) (hn:lk n σ.objs=some o) {env b:List (Nat×AV)} (f:∀s,lk s b=(lk s X.env).or (lk s env)):Oj ⟨env,upd n d σ.objs⟩ ⟨b,upd n d σ'.objs⟩ X:=by
 refine⟨f,λm=>?_⟩;simp only[G8];have e:lk n X.objs=none:=by
  cases h:lk n X.objs with
  | none=>rfl
  | some u=>rw[ha.new n u h]at hn;cases hn
 by_cases a:m=n
 .subst a;rw[BY rfl,BY rfl,c.objs,e];rfl
 rw[At a,At a,c.objs]
theorem Oj.some_lk (a:Oj σ σ' X) (ha:Ia X σ ns) {n:Nat} {o:Obj} (h:lk n σ.objs=some o):lk n σ'.objs=some o:=a.obs ha n o h
theorem y6 {tb:Tb} {op:Op} {d:Option Nat} {vc:Prop} {τ:St} (a:Oj σ σ' X) (ha:Ia X σ ns) (K:pW σ σ' op.operands.toList) (A:∀n∈j9 σ op,n∈ns) (U:∀t,d=some t->lk t X.env=none) (T:∀n,(∃u,lk n τ.objs=some u)->lk n X.objs=none) (h:GQ tb σ d op=some (vc,τ)) :
  (∃ak,GQ tb σ' d op=some (vc,ak)/\Oj τ ak X)/\∀k,aq tb σ' k op=none:=by
 have R:=a.obs ha;cases op<;>simp only[GQ]at h<;>try(cases h;done)
 case store t x y =>
  refine⟨?_,λ_=>rfl⟩;simp only[GQ];have A:∀n∈pY σ (Am σ x) (Am σ y),n∈ns:=A;rw[K x (by simp[Op.operands]),K y (by simp[Op.operands])];cases d with
  | some d=>simp[Eo]at h
  | none =>
   simp only[Eo]at h ⊢;generalize Am σ x=al at h A ⊢;generalize Am σ y=am at h A ⊢;unfold Jq at h ⊢;split at h
   .rename_i ti n aw off v Z;try simp only
    unfold EA at h ⊢;split at h
    .rename_i et st fs f;rw[a.some_lk ha f];try simp only
     unfold GN at h ⊢;split at h
     .rename_i u az h1 G;try rw[h1,G]
      try simp only
      split at h
      .rename_i B;rw[BY B];cases h;exact⟨_,rfl,eX a ha f a.env⟩
      cases h
     cases h
    cases h
   .rename_i ti n e i aw off v Z;try simp only
    unfold EB at h ⊢;split at h
    .rename_i et ae xs f;rw[a.some_lk ha f];try simp only
     cases aa:MQ false σ ti.ty v with
     | none=>rw[aa]at h;unfold FY at h;split at h<;>first|(cases h;done)|(rename_i G;cases G)
     | some w =>
      rw[Fb R aa];rw[aa]at h;unfold FY at h ⊢;split at h
      .rename_i ys w' h1 G;cases G;try rw[h1]
       try simp only
       unfold HW at h ⊢;split at h
       .rename_i z P;try rw[P]
        try simp only
        split at h
        .rename_i B;rw[BY B];cases h;exact⟨_,rfl,eX a ha f a.env⟩
        cases h
       cases h
      cases h
    .rename_i et ad k F xs j f;rw[a.some_lk ha f];try simp only
     split at h
     .rename_i m E hi;try simp only
      split at h
      .rename_i B;rw[BY B];unfold PM at h ⊢;split at h
       .rename_i J;rw[BY J];unfold PJ at h ⊢;split at h
        .rename_i bb af ys D;rw[a.some_lk ha D];try simp only
         split at h
         .rename_i ap;rw[BY ap];unfold Md at h ⊢;split at h
          .rename_i aj ab;try rw[ab]
           try simp only
           cases h;have ai:∀q,q∈[n,m]->q∈ns:=λq c=>A q (by simp only[pY,f,DM,AAt];exact c);refine⟨_,rfl,vE (en:=[]) (new:=[(n,_)]) a ha (ai n sc) (λq c=>ai q (by simp at c;simp[c])) (λs v h=>by cases h) (λq o c=>T q ⟨o,?_⟩)⟩;simp only[lk]at c ⊢;split at c
           .rename_i F;cases c;rw[BY F]
           cases c
          cases h
         cases h
        cases h
       cases h
      cases h
     cases h
    cases h
   cases h
 case mapUpdate t m x y =>
  refine⟨?_,λ_=>rfl⟩;simp only[GQ];rw[K m (by simp[Op.operands]),K x (by simp[Op.operands]),K y (by simp[Op.operands])];cases d with
  | some d=>simp[Eo]at h
  | none =>
   simp only[Eo]at h ⊢;generalize Am σ m=ax at h ⊢;generalize Am σ x=al at h ⊢;generalize Am σ y=am at h ⊢;unfold Mf at h ⊢;split at h
   .try simp only
    unfold HO at h ⊢;split at h
    .rename_i bf bh l f;rw[a.some_lk ha f];try simp only
     split at h
     .rename_i B;rw[BY B];unfold H7 at h ⊢;split at h
      .rename_i bd v1 h1 G;rw[Fb R h1,Fb R G];try simp only
       split at h
       .rename_i J;rw[BY J];cases h;exact⟨_,rfl,eX a ha f a.env⟩
       cases h
      cases h
     cases h
    cases h
   cases h
 case call cl =>
  obtain⟨callee,⟨args⟩,⟨argTypes⟩⟩:=cl;cases callee with
  | value g=>simp[Ds]at h
  | invoke r m=>simp[Ds]at h
  | builtin b =>
   simp only[Ds]at h;unfold ER at h;split at h
   .rename_i x y t u;have O:Am σ' x=Am σ x:=K x (by simp[Op.operands,Call.operands]);have S:Am σ' y=Am σ y:=K y (by simp[Op.operands,Call.operands]);have A:∀n∈L6 σ (Am σ x) (Am σ y),n∈ns:=λn hn=>A n (by simpa[j9] using hn);unfold Dr at h;split at h
    .rename_i n e hi v C I;rw[C,I]at A;refine⟨?_,λk=>by simp[aq,DW,Dv,DG,O,C]⟩;simp only[GQ,Ds,ER,Dr,O,C,S,I];split at h
     .rename_i p ;have L:=U p rfl;have M:n∈ns:=A n A27;try simp only
      split at h
      .rename_i N;rw[BY N];unfold FZ at h ⊢;split at h
       .rename_i af av el b2 Y;try rw[Y]
        try simp only
        split at h
        .rename_i W;rw[BY W];unfold Cy at h ⊢;split at h
         .rename_i ti et ae xs h1 f;try rw[h1]
          try rw[a.some_lk ha f]
          try simp only
          split at h
          .rename_i ar;rw[BY ar];unfold GP at h ⊢;split at h
           .rename_i aj ys G P;try rw[G]
            rw[Mv R P];try simp only
            cases h;refine⟨_,rfl,⟨λs=>?_,λm=>?_⟩⟩
            .simp only[lk];by_cases hs:s=p
             .subst hs;rw[BY rfl,BY rfl,L];rfl
             rw[At hs,At hs,KL,KL,a.env];cases H:lk s X.env with
             | none=>rfl
             | some w=>simp[XN M w (ha.env s w H)]
            simp only[G8,B1];have ao:lk n X.objs=none:=by
             cases H:lk n X.objs with
             | none=>rfl
             | some w=>exact absurd M (ha.nm n w H)
            by_cases D:m=n
            .subst D;rw[BY rfl,BY rfl,a.objs,ao];rfl
            rw[At D,At D,a.objs];cases H:lk m X.objs with
            | none=>rfl
            | some w=>exact ACb some (y5 (ha.arr m w H))
           cases h
          cases h
         .rename_i ti et ad k ae xs h1 f;try rw[h1]
          try rw[a.some_lk ha f]
          try simp only
          split at h
          .rename_i B;rw[BY B];unfold We at h ⊢;split at h
           .rename_i m E au;try simp only
            unfold PK at h ⊢;split at h
            .rename_i an ba be ay ys D;rw[a.some_lk ha D];try simp only
             split at h
             .rename_i J;rw[BY J];unfold Me at h ⊢;split at h
              .rename_i aj ab;try rw[ab]
               try simp only
               cases h;refine⟨_,rfl,vD a ha (λq c=>A q (by simp only[L6,f,DM,AAt];exact c)) L ?_⟩;cases H:lk n X.objs with
               | none=>rfl
               | some w=>exact absurd M (ha.nm n w H)
              cases h
             cases h
            cases h
           cases h
          cases h
         cases h
        cases h
       cases h
      cases h
     cases h
    .rename_i n e i len v C I;rw[C,I]at A;refine⟨?_,λk=>by simp[aq,DW,Dv,DG,O,C]⟩;simp only[GQ,Ds,ER,Dr,O,C,S,I];split at h
     .rename_i p ;have L:=U p rfl;have M:n∈ns:=A n (by simp[L6]);try simp only
      split at h
      .rename_i N;rw[BY N];unfold QL at h ⊢;split at h
       .rename_i af av el b2 Y;try rw[Y]
        try simp only
        split at h
        .rename_i W;rw[BY W];unfold UG at h ⊢;split at h
         .rename_i ti et ad k F xs h1 f;try rw[h1]
          try rw[a.some_lk ha f]
          try simp only
          split at h
          .rename_i B;rw[BY B];unfold Ot at h ⊢;split at h
           .rename_i ys P;rw[Mv R P];try simp only
            split at h
            .rename_i ag;have Q:lk p X.objs=none:=by
              refine T p ?_;cases h;exact⟨_,by simp only[lk,AAt];rfl⟩
             have V:(lk p σ'.objs).isNone=true/\ys.isEmpty=false:=⟨by rw[a.objs,Q];exact ag.1,ag.2⟩;rw[BY V];cases h;refine⟨_,rfl,vE (en:=[(p,_)]) (new:=[(p,_),(n,_)]) a ha M (λq c=>by cases c) (λs v h=>?_) (λq o c=>?_)⟩
             .simp only[lk]at h;split at h
              .rename_i F;rw[F];exact L
              cases h
             simp only[lk]at c;split at c
             .rename_i F;rw[F];exact Q
             split at c
             .rename_i F;rw[F];cases H:lk n X.objs with
              | none=>rfl
              | some w=>exact absurd M (ha.nm n w H)
             cases c
            cases h
           cases h
          cases h
         cases h
        cases h
       cases h
      cases h
     cases h
    .rename_i v C I;rw[C,I]at A;split at h
     .rename_i p ;have L:=U p rfl;split at h
      .rename_i N;unfold iZ at h;split at h
       .rename_i m E au bg offs el b Z;unfold UI at h;split at h
        .rename_i ti an ad k e ys h1 D;split at h
         .rename_i B;unfold UH at h;split at h
          .rename_i J;have Q:lk p X.objs=none:=by
            refine T p ?_;cases h;exact⟨_,by simp only[lk,AAt];rfl⟩
           have V:(lk p σ'.objs).isNone=true:=by rw[a.objs,Q];exact J.1
           have ah:=a.some_lk ha D;refine⟨?_,λbc=>by simp[aq,DW,Dv,DG,O,C,S,I,N,FX,ST,ah,DM];split<;>simp[GL]⟩;cases h;simp only[GQ,Ds,ER,Dr,O,C,S,I,iZ,UI,UH];rw[BY N,Z];simp only;rw[ah,h1];simp only;rw[BY B,BY ⟨V,J.2⟩];exact⟨_,rfl,vD a ha (λq c=>A q (by simp only[L6,D,DM,AAt];exact c)) L Q⟩
          cases h
         cases h
        cases h
       cases h
      cases h
     cases h
    cases h
   cases h
end
end
section
open Go Go.RowKit
def A28 (o:Obj):Bool:=M4 o
def LT (o:Oper):EN->Bool
 | []=>true
 | (d,_,_) :: r=>!Ad d (Hr o.op)&&!Ad d o.dst.toList&&LT o r
def Vt (ns:List Nat) (σ:List (Nat×Obj)):List (Nat×Obj)->Bool
 | []=>true
 | (n,o) :: r=>(lk n σ).isNone&&!Ad n ns&&A28 o&&Vt ns σ r
def J5 (ns:List Nat) (σ:List (Nat×Obj)):EN->Bool
 | []=>true
 | (_,_,obs) :: r=>Vt ns σ obs&&J5 ns σ r
def eY (τ:List (Nat×Obj)):List (Nat×Obj)->Bool
 | []=>true
 | (n,_) :: r=>(lk n τ).isNone&&eY τ r
def Qu (τ:List (Nat×Obj)):EN->Bool
 | []=>true
 | (_,_,obs) :: r=>eY τ obs&&Qu τ r
def L7 (ns:List Nat):EN->EN
 | []=>[]
 | (d,v,obs) :: r=>(d,v.fgt ns,obs) :: L7 ns r
def tn (σ:St) (o:Op):List Nat:=Ca σ o++j9 (DN (Ca σ o) σ) o
theorem E1 {o:Oper}:∀ {ens:EN},LT o ens=true->∀e∈ens,e.1∉Hr o.op/\o.dst≠some e.1
 | [],_,e,a=>by cases a
 | (d,v,obs) :: r,h,e,a=>by
  simp only[LT,As,SD]at h;rcases Do.1 a with rfl|a
  .grind [Ah,Ad]
  exact E1 h.2 e a
theorem Qv {ns:List Nat} {σ:List (Nat×Obj)}:∀ {l:List (Nat×Obj)},Vt ns σ l=true->∀p∈l,lk p.1 σ=none/\p.1∉ns/\A28 p.2=true
 | [],_,e,b=>by cases b
 | (n,o) :: r,h,p,a=>by
  simp only[Vt,As,SD,AAA]at h;rcases Do.1 a with rfl|a
  .grind [Ah]
  exact Qv h.2 p a
theorem GA {ns:List Nat} {σ:List (Nat×Obj)}:∀ {ens:EN},J5 ns σ ens=true->∀e∈ens,∀p∈e.2.2,lk p.1 σ=none/\p.1∉ns/\A28 p.2=true
 | [],_,e,a=>by cases a
 | (d,v,obs) :: r,h,e,a=>by
  simp only[J5,As]at h;rcases Do.1 a with rfl|a
  .exact Qv h.1
  exact GA h.2 e a
theorem Ue {τ:List (Nat×Obj)}:∀ {l:List (Nat×Obj)},eY τ l=true->∀p∈l,lk p.1 τ=none
 | [],_,e,b=>by cases b
 | (n,o) :: r,h,p,a=>by
  simp only[eY,As,AAA]at h;rcases Do.1 a with rfl|a
  .exact h.1
  exact Ue h.2 p a
theorem LU {τ:List (Nat×Obj)}:∀ {ens:EN},Qu τ ens=true->∀e∈ens,∀p∈e.2.2,lk p.1 τ=none
 | [],_,e,a=>by cases a
 | (d,v,obs) :: r,h,e,a=>by
  simp only[Qu,As]at h;rcases Do.1 a with rfl|a
  .exact Ue h.1
  exact LU h.2 e a
theorem Pe {ns:List Nat}:∀ {ens:EN},L7 ns ens=ens->∀e∈ens,e.2.1.fgt ns=e.2.1
 | [],_,e,a=>by cases a
 | (d,v,obs) :: r,h,e,a=>by
  simp only[L7,ACJ,ADx,and_true,true_and]at h;rcases Do.1 a with rfl|a
  .exact h.1
  exact Pe h.2 e a
section
variable {c:Cx} {o:Oper} {σ:St} {ens:EN} {N:St->Prop}
theorem A29 {X:St} {ns:List Nat} (b:XIn ens X) (hn:J5 ns σ.objs ens=true) (hf:L7 ns ens=ens):Ia X σ ns:=by
 refine⟨λs v hs=>?_,λn o a=>?_,λn o a=>?_,λn o a=>?_⟩
 .obtain⟨obs,d⟩:=b.env s v hs;exact Pe hf _ d
 all_goals
  obtain⟨e,c,f⟩:=b.objs n o a;have:=GA hn e c _ f
 .exact this.2.2
 .exact this.1
 exact this.2.1
theorem y7 (ad:c.Ok) {τ:St} {vc:Prop} (ns:List Nat) (h:HX c.tb o σ=some (vc,τ)) (V:tn σ o.op=ns) (M:LT o ens=true) (hn:J5 ns σ.objs ens=true) (T:Qu τ.objs ens=true) (hf:L7 ns ens=ens) (ae:IV c.nt o=true) (af:vc) (ab:N τ):eQ c o σ ens N:=by
 subst V;intro X σ' j k a w next Q hs hk
 have ha:=A29 k hn hf;have G:∀t∈Hr o.op,lk t X.env=none:=λt B=>by
  cases g:lk t X.env with
  | none=>rfl
  | some v=>obtain⟨obs,f⟩:=k.env t v g;exact absurd B (E1 M _ f).1
 have E:∀t,o.dst=some t->lk t X.env=none:=λt B=>by
  cases g:lk t X.env with
  | none=>rfl
  | some v=>obtain⟨obs,f⟩:=k.env t v g;exact absurd B (E1 M _ f).2
 have H:∀n,(∃u,lk n τ.objs=some u)->lk n X.objs=none:=λn hu=>by
  cases g:lk n X.objs with
  | none=>rfl
  | some v =>
   obtain⟨e,S,q⟩:=k.objs n v g;obtain⟨u,hu⟩:=hu;rw[LU T e S _ q]at hu;cases hu
 have Z:=j8 j ha (op:=o.op) (Vs j G);obtain⟨b,z⟩:=XU (l:=Ca σ o.op) j ha (λm f=>by simp[tn,f]);have key:∃y,HX c.tb o σ'=some (vc,y)/\Oj τ y X:=by
  have I:∀n∈j9 (DN (Ca σ o.op) σ) o.op,n∈tn σ o.op:=λm f=>by simp[tn,f]
  unfold HX UJ at h ⊢;rw[Z];generalize DN (Ca σ o.op) σ=C at h b z I;generalize DN (Ca σ o.op) σ'=D at b;have L:=Vs b G;cases A:aq c.tb C (o.dst.getD 0) o.op with
  | some r =>
   obtain⟨ag,v,obs⟩:=r;rw[A]at h;have Y:=Vk (b.obs z) (λx j v aa=>by rw[L x j];exact aa) A;rw[Y];simp only[Mh]at h ⊢;split at h
   .rename_i J;cases h;have K:∀n,lk n (C.add v obs o.dst).objs=(lk n obs).or (lk n C.objs):=λn=>by cases o.dst<;>simp only[St.add,BB]
    have W:∀n,lk n (D.add v obs o.dst).objs=(lk n obs).or (lk n D.objs):=λn=>by cases o.dst<;>simp only[St.add,BB]
    have F:∀n u,lk n obs=some u->lk n X.objs=none:=λn u hu=>H n ⟨u,by rw[K,hu];rfl⟩;have U:Br obs D=true:=by
     simp only[Br,No,AAA]at J ⊢;intro p q;obtain⟨u,hu⟩:=OH q;rw[b.objs,F _ u hu,J p q];rfl
    rw[BY U];refine⟨_,rfl,λs=>?_,λn=>?_⟩
    .cases R:o.dst with
     | none=>simp only[St.add];exact b.env s
     | some d =>
      simp only[St.add,lk];by_cases i:s=d
      .rw[BY i,BY i,i,E d R];rfl
      rw[At i,At i];exact b.env s
    rw[K,W,b.objs];cases hu:lk n obs with
    | none=>rfl
    | some u=>rw[F n u hu];rfl
   cases h
  | none =>
   rw[A]at h;simp only[Mh]at h;obtain⟨⟨y,h1,O⟩,P⟩:=y6 b z L I E H h;rw[P];simp only[Mh];exact⟨y,h1,O⟩
 grind [Qd,B2]
theorem kA {σ σ':St}:∀ {xs:List Operand},pW σ σ' xs->J0 σ' xs=J0 σ xs
 | [],_=>rfl
 | x :: r,h=>by
  simp only[J0];rw[h x sc,kA (λy a=>h y (by simp[a]))]
theorem eZ {σ σ':St} (h:iU σ σ') {ren:List (Nat×CB)} {x y:AV} (a:IY σ ren x y):IY σ' ren x y:=by
 cases y<;>first|exact a|exact Fb h a
theorem Oy {σ σ':St} (h:iU σ σ') {ren:List (Nat×CB)}:∀ {l r:List AV},Bc σ ren l r->Bc σ' ren l r
 | [],[],_=>trivial
 | [],_ :: _,a=>a.elim
 | _ :: _,[],a=>a.elim
 | _ :: _,_ :: _,a=>⟨eZ h a.1,Oy h a.2⟩
theorem Oz {l l':List (Nat×Obj)} (h:∀n o,lk n l=some o->lk n l'=some o) {ren:List (Nat×CB)}:∀ {r:List (Nat×Obj)},Ai l ren r->Ai l' ren r
 | [],_=>trivial
 | (m,o) :: r,a=>by
  refine⟨?_,Oz h a.2⟩;have h1:=a.1;cases hf:lk m ren with
  | none=>rw[hf]at h1;exact h1.elim
  | some f =>
   rw[hf]at h1;cases f with
   | nil=>exact h1
   | nm n =>
    simp only[Hq]at h1 ⊢;cases hn:lk n l with
    | none=>rw[hn]at h1;simp only[Jw]at h1
    | some x=>rw[h n x hn,<-hn];exact h1
theorem y8 (ag:c.Ok) {dst:Option Nat} {g:Operand} {xs:List Operand} {ts:Array TypeId} {ty:TypeId} {pos:String} {after:Array Edge}
  {f:FuncId} {E:List Nat} (ak:Dy (Am σ g)=some (f,E)) {as:List AV} (af:J0 σ xs=some as)
  {A:List AV} {objs:List (Nat×Obj)} {stay:List Nat} {post:AV->List (Nat×Obj)->Prop} (ab:Bb c.P f A objs stay post)
  (ren:List (Nat×CB)) (hs:List Nat) (h1:CM ren=true) (W:Cc objs ren=true) (an:(c.ds.pin.all λp=>!Ad p.1 hs)=true)
  (J:LT ⟨dst,.call ⟨.value g,xs.toArray,ts⟩,ty,pos,after,none⟩ ens=true) (hn:J5 (Ao ren) σ.objs ens=true) (hf:L7 hs ens=ens) (ah:IV c.nt ⟨dst,.call ⟨.value g,xs.toArray,ts⟩,ty,pos,after,none⟩=true)
  (aa:Bc σ ren (as++E.map λn=>AV.bp n [] 0) A) (ad:Ai σ.objs ren objs)
  (hk:∀res x,post res x->∃(m:List (Nat×CB)) (z:AV) (j:List (Nat×Obj)),CM m=true/\Cc j m=true/\Ai x m j/\B9 m res z /\
   JV ren m stay hs=true/\Fu (Ao ren) j σ.objs=true/\Qu j ens=true/\N (Cg σ (Ao ren) hs dst z j)) :
  eQ c ⟨dst,.call ⟨.value g,xs.toArray,ts⟩,ty,pos,after,none⟩ σ ens N:=by
 intro X σ' r l a w next Q ap am
 have ai:∀s v,lk s X.env=some v->v.fgt hs=v:=λs v hs=>by
  obtain⟨obs,q⟩:=l.env s v hs;exact Pe hf _ q
 have H:iU σ σ':=by
  intro n o B;rw[r.objs];cases b:lk n X.objs with
  | none=>exact B
  | some ar =>
   obtain⟨e,k,i⟩:=l.objs n ar b;rw[(GA hn e k _ i).1]at B;cases B
 have al:∀n o,lk n X.objs=some o->n∉Ao ren:=λn o C=>by
  obtain⟨e,k,i⟩:=l.objs n o C;exact(GA hn e k _ i).2.1
 have ae:∀t∈(g :: xs).filterMap Ua,lk t X.env=none:=λt D=>by
  cases b:lk t X.env with
  | none=>rfl
  | some v =>
   obtain⟨obs,q⟩:=l.env t v b;refine absurd ?_ (E1 J _ q).1;simpa[Hr,Op.operands,Call.operands] using D
 have au:∀t,dst=some t->lk t X.env=none:=λt D=>by
  cases b:lk t X.env with
  | none=>rfl
  | some v=>obtain⟨obs,q⟩:=l.env t v b;exact absurd D (E1 J _ q).2
 have I:=Vs r ae;refine eO ag (xs:=xs) (ts:=ts) rfl rfl (by rw[I g sc];exact ak) (by rw[kA (λy aq=>I y (by simp[aq]))];exact af) ab ren h1 W (Oy H aa) (Oz H ad) hs an ap (B2 ah) λres x i=>?_;obtain⟨m,z,j,M,O,R,S,T,F,U,V⟩:=hk res x i;have G:∀n o,lk n X.objs=some o->lk n j=none:=λn o C=>by
  obtain⟨e,k,i⟩:=l.objs n o C;exact LU U e k _ i
 refine⟨m,z,j,M,O,R,S,T,?_,λL w' ao=>am _ V L w' _ ⟨λs=>?_,λn=>?_⟩ ao⟩
 .simp only[Fu,No,Ts,AAA]at F ⊢;intro p i;rcases F p i with h|h
  .exact .inl h
  right;rw[r.objs,h];cases b:lk p.1 X.objs with
  | none=>rfl
  | some u =>
   obtain⟨aw,K⟩:=OH i;rw[G _ u b]at K;cases K
 .have aj:lk s (CA hs σ'.env)=(lk s X.env).or (lk s (CA hs σ.env)):=by
   rw[Ec,Ec,r.env];cases b:lk s X.env with
   | none=>rfl
   | some v=>simp[ai s v b]
  simp only[Cg];cases dst with
  | none=>exact aj
  | some d =>
   simp only[M0,lk];by_cases av:s=d
   .grind
   grind
 simp only[Cg,BB,Bm,r.objs];cases b:lk n X.objs with
 | none=>simp
 | some u =>
  have Z:M4 u=true:=by
   obtain⟨e,k,i⟩:=l.objs n u b;exact(GA hn e k _ i).2.2
  have Y:¬Ad n (Ao ren)=true:=λh=>al n _ b ((Ah _ _).1 h);rw[G n _ b,At Y];exact ACb some (aC Z)
end
section
variable {c:Cx} {ops:List Oper} {Kf:St->Prop} {τ:St} {ens:EN} {vc:Prop}
theorem A2a {D:List Nat} (h:vB c.tb ops τ.objs D [] τ.env=some (vc,ens)) (b:vc) (a:VR ens τ.objs=true) (hk:Kf (Oi ens τ)):Mix c ops Kf [] D ens τ:=⟨⟨vc,h,b,a⟩,hk⟩
theorem A2b {A D:List Nat} {l:Nat} {b:List (List Nat×Nat)} {o:Oper} {d:St} {a:EN} (h:vB c.tb ops τ.objs (A++qs b D) [] τ.env=some (vc,ens)) (j:vc) (g:VR ens τ.objs=true) (i:ops[l]?=some o) (k:Oi (ens.take A.length) τ=d) (f:ens.drop A.length=a)
  (e:eQ c o d a (λm=>Mix c ops Kf b D a m)):Mix c ops Kf ((A,l) :: b) D ens τ:=by
 subst k f;exact⟨⟨vc,h,j,g⟩,o,i,e⟩
end
end
section
open Go
attribute [local go_sem] uW AL List.toList_toArray CC evG evK Za Fq Mi JT IB HX UJ Mh Ca EC QM De DN frz yB Ho Du BM G0 Bw AV.frz AV.frzs AV.drp AV.drps AV.names AV.namess aq Hp MW MX Wb Kw B6 CD Lx FO Kz FP LA K0 LB ZY UB IQ Nt G7 FF ZZ VM qUn Ly KH PH GK Em LC MZ FW Wd DG FX GL VN KI QK GM QJ UD VO Oq LD Ma Dv DW GQ Eo Jq EA GN EB FY HW De DM ST VL SW H6 Ky Kx MY QL UG Ot PM PJ Md We PK Me iZ UI UH AV.trn AV.trns Ey DF Obj.trn L6 pY Ds ER Dr FZ Cy GP Am lk JN Hy Jo bin yA dS yD Wc zf1 zfs pfs AV.cells CW Lv SV Mc UF Cj QH Ty.cell1 Kv Ft El HT MQ Ex MP Oo SU HS H5 PG WZ ZX Og MO iW o4 Wa QI Dd Lw RV.flat Ty.flat Ty.size St.add upd del Br Value.oneCell' MV Ty.dflt Kt Vj KO Vp List.take_succ_cons List.take_zero List.length_cons u3 u4 Vo My Qr KQ OG A6r IC Qg Qh Qi Qj Wx Wy Qk LN eI Option.map_some Option.map_none Option.bind_some Option.getD_some Option.getD_none Option.isNone_none Option.isNone_some Bool.and_true Bool.true_and Bool.and_false Bool.false_and Bool.not_true Bool.not_false if_true if_false List.length_cons List.length_nil and_true true_and and_self List.all_cons List.all_nil List.append_nil List.nil_append List.cons_append List.getElem?_cons_zero List.getElem?_cons_succ List.getElem?_nil List.map_cons List.map_nil List.set_cons_zero List.set_cons_succ List.isEmpty_nil List.isEmpty_cons decide_true decide_false beq_self_eq_true bne_self_eq_false Nat.zero_add Nat.add_zero Nat.sub_zero Int.toNat_natCast Int.toNat_zero Int.toNat_one List.take_length List.length_append List.length_singleton true_or or_true or_self false_or or_false Ty.agg.injEq Ty.slice.injEq Ty.prod.injEq Ty.int.injEq Option.some.injEq beq_iff_eq MT evMG evMQ opM Jy Ox CK L5 Hr Ua L4 Jx LO OD Mw Sf Qn Sg W9 Qm Vl Vm OC Ad Au Op.operands Call.operands List.filterMap_cons List.filterMap_nil List.append_eq Bool.cond_false_right Bool.cond_true_left cond_true cond_false implies_true decide_eq_true_eq beq_true beq_false Bool.or_true Bool.or_false Bool.true_or Bool.false_or Option.isSome_some Array.empty_append List.append_toArray G2 QN GR JO iY UE HV IL IK KJ Jp Mb PI dT yC JH inB Mf HO H7 Mg A6 u9 List.drop_zero EE JW jX Cg M0 CA AV.fgt AV.fgts Obj.fgt Ar Ao Ad Dy J0 Bc IY List.any_cons List.any_nil vB pR jZ pS Oi VR qs List.flatMap_cons List.flatMap_nil List.cons_append tn j9 L7 List.take_succ_cons List.drop_succ_cons CM Cc Ai GV Mr B9 GU Ep Jv LM Hq Jw
end
end Go.Proofs.YtapkhdkbkodbjaaGreat.Fw
