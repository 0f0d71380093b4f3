/- Regions in which operations on memory float among quiet ones. -/
import Derived.Test.YtapkhdkbkodbjaaGreatIZG
set_option linter.unusedVariables false
set_option linter.unusedSimpArgs false
namespace Go.Proofs.YtapkhdkbkodbjaaGreat.Fw
section
open Go Go.RowKit
abbrev EN:=List (Nat×AV×List (Nat×Obj))
def jK (x:Option Oper) (f:Oper->Option (Prop×EN)):Option (Prop×EN) :=
 match x with
 | some o=>f o
 | none=>none
def eC (d:Option Nat) (r:Bc) (f:Nat->Prop->AV->List (Nat×Obj)->Option (Prop×EN)):Option (Prop×EN) :=
 match d,r with
 | some d,some (vc,v,obs)=>f d vc v obs
 | _,_=>none
def jL (d:Nat) (vc:Prop) (v:AV) (obs:List (Nat×Obj)) (r:Option (Prop×EN)):Option (Prop×EN) :=
 match r with
 | some (a,l)=>some (vc/\a,(d,v,obs) :: l)
 | none=>none
def oT (tb:Tb) (ops:List Oper) (base:List (Nat×Obj)):List Nat->List (Nat×List (Nat×Obj))->List (Nat×AV)->Option (Prop×EN)
 | [],_,_=>some (True,[])
 | i :: Q,E,env=>jK (ops[i]?) λo=>eC o.dst (aq tb ⟨env,Mc false o.op base E⟩ (o.dst.getD 0) o.op) λd vc v obs=>jL d vc v obs (oT tb ops base Q (KI d obs E) ((d,v) :: env))
def Mi:EN->St->St
 | [],σ=>σ
 | (d,v,obs) :: r,σ=>Mi r ⟨(d,v) :: σ.env,obs++σ.objs⟩
def Sn:EN->List (Nat×Obj)->Bool
 | [],_=>true
 | (_,_,obs) :: r,objs=>(obs.all λp=>(lk p.1 objs).isNone)&&Sn r (obs++objs)
def AAN (tb:Tb) (ops:List Oper) (Q:List Nat) (ens:EN) (τ:St):Prop:=∃vc:Prop,oT tb ops τ.objs Q [] τ.env=some (vc,ens)/\vc/\Sn ens τ.objs=true
def qs (a:List (List Nat×Nat)) (D:List Nat):List Nat:=(a.flatMap (·.1))++D
def qB1 (ops:List Oper) (anc:List (List Nat)) (L Q:List Nat):List Nat->List Nat->Bool
 | [],_=>true
 | i :: r,pre=>(match ops[i]? with
   | some o=>o.dst.isSome&&o.guard.isNone&&((ER o).all λe=>Ad e L||Ad e pre)&&((He o.op).all λt=>Q.all λj=>Al ops j != some t||(Ad j (anc.getD i [])&&Ad j pre))&&(pre.all λj=>Al ops j != o.dst)&&!Ad i L&&!Ad i pre
   | none=>false)&&qB1 ops anc L Q r (i :: pre)
def Uz (ops:List Oper) (anc:List (List Nat)) (p0:Nat):List Nat->List (List Nat×Nat)->List Nat->Bool
 | L,[],D=>qB1 ops anc L D D []&&((List.range p0).all λi=>Ad i L||Ad i D)&&decide (L.length+D.length=p0)&&decide (p0<=ops.length)&&(L.all λi=>decide (i<p0))&&(D.all λi=>decide (i<p0))&&((List.range ops.length).all λi=>decide (i<p0)||(List.range i).all λj=>Ad j (anc.getD i []))
 | L,(A,l) :: a,D=>qB1 ops anc L (A++qs a D) (A++qs a D) []&&(match ops[l]? with
   | some o=>o.guard.isNone&&((ER o).all λe=>Ad e L||Ad e A)&&(A.all λj=>Ad j (anc.getD l []))&&!Ad l L&&!Ad l (A++qs a D)
   | none=>false)&&(a.all λp=>Ad l (anc.getD p.2 []))&&Uz ops anc p0 (l :: (A++L)) a D
def AAO (ops:List Oper) (anc:List (List Nat)):Bool :=
 (List.range ops.length).all λi=>match ops[i]? with|some o=>((ER o).all λe=>decide (e<i))&&((anc.getD i []).all λj=>Ad j (ER o)||(ER o).any λe=>Ad j (anc.getD e []))|none=>false
structure SS (σ σ' X:St):Prop where
 env:∀s,lk s σ'.env=(lk s X.env).or (lk s σ.env)
 objs:∀n,lk n σ'.objs=(lk n X.objs).or (lk n σ.objs)
structure XIn (ens:EN) (X:St):Prop where
 env:∀s v,lk s X.env=some v->∃obs,(s,v,obs)∈ens
 objs:∀n o,lk n X.objs=some o->∃e∈ens,(n,o)∈e.2.2
def oU (c:Cx) (o:Oper) (σ:St) (ens:EN) (N:St->Prop):Prop :=
 ∀(X σ':St),SS σ σ' X->XIn ens X->∀(a:Act) (w:World) (next:Act->World->Prop) (Q:Exit->Act->World->Prop),c.sat σ' a w ->
  (∀τ,N τ->∀(b:Act) (w':World) (d:St),SS τ d X->c.sat d b w'->next b w')->o.wpIn (FR c.r) 0 c.P a w next Q
def Mix (c:Cx) (ops:List Oper) (Kf:St->Prop):List (List Nat×Nat)->List Nat->EN->St->Prop
 | [],D,ens,τ=>AAN c.tb ops D ens τ/\Kf (Mi ens τ)
 | (A,l) :: a,D,ens,τ=>AAN c.tb ops (A++qs a D) ens τ/\∃o,ops[l]?=some o/\oU c o (Mi (ens.take A.length) τ) (ens.drop A.length) (λb=>Mix c ops Kf a D (ens.drop A.length) b)
def PN (Q:List Nat) (ens:EN) (i:Nat):En :=
 match lk i (Q.zip ens) with
 | some (_,v,obs)=>⟨true,v,obs⟩
 | none=>⟨true,.top,[]⟩
section
variable {ops:List Oper} {en:Nat->En} {τ:St}
theorem So:∀(l:List Nat),(Av ops en τ l).env=(Av ops en ⟨[],[]⟩ l).env++τ.env
 | []=>rfl
 | i :: r=>by
  simp only[Av];cases Al ops i with
  | none=>simp only[St.add];exact So r
  | some d=>simp only[St.add,oF];rw[So r]
theorem oV (l:List Nat):(Av ops en τ l).objs=(Av ops en ⟨[],[]⟩ l).objs++τ.objs:=by
 rw[Fz,Fz];simp
theorem A3H (l:List Nat):SS τ (Av ops en τ l) (Av ops en ⟨[],[]⟩ l) :=
 ⟨λs=>by rw[So,BC],λn=>by rw[oV,BC]⟩
structure Own (ops:List Oper) (en:Nat->En) (τ:St) (Q:List Nat):Prop where
 slot:∀i∈Q,∀j∈Q,∀s,Al ops i=some s->Al ops j=some s->i=j
 new:∀i∈Q,∀n o,lk n (en i).obs=some o->lk n τ.objs=none
 name:∀i∈Q,∀j∈Q,∀n o o',lk n (en i).obs=some o->lk n (en j).obs=some o'->i=j
theorem lkE {Q l:List Nat} (h:Own ops en τ Q) (c:∀i∈l,i∈Q) (s:Nat) (v:AV):lk s (Av ops en τ l).env=some v↔(∃i∈l,Al ops i=some s/\(en i).v=v)\/((∀i∈l,Al ops i≠some s)/\lk s τ.env=some v):=by
 rw[F0];cases hf:l.find? (λj=>Al ops j==some s) with
 | none =>
  have hn:∀i∈l,Al ops i≠some s:=λi hi=>by simpa using AG9.1 hf i hi
  constructor
  .grind
  grind
 | some j =>
  have b:=AFt hf;have a:Al ops j=some s:=by simpa using AGr hf
  constructor
  .grind
  rintro (⟨i,hi,d,rfl⟩|⟨hn,_⟩)
  .rw[h.slot i (c i hi) j (c j b) s d a]
  exact absurd a (hn j b)
theorem lkO {Q l:List Nat} (h:Own ops en τ Q) (d:∀i∈l,i∈Q) (n:Nat) (o:Obj):lk n (Av ops en τ l).objs=some o↔(∃i∈l,lk n (en i).obs=some o)\/((∀i∈l,lk n (en i).obs=none)/\lk n τ.objs=some o):=by
 rw[Fz,BC];cases hf:lk n (l.flatMap λj=>(en j).obs) with
 | some e =>
  obtain⟨j,c,a⟩:=tG hf;simp only[AGc];constructor
  .grind
  rintro (⟨i,hi,b⟩|⟨hn,_⟩)
  .have:=h.name i (d i hi) j (d j c) n o e b a;subst this;rw[<-a,b]
  rw[hn j c]at a;cases a
 | none =>
  have hn:=LN hf;simp only[Option.none_or];constructor
  .grind
  grind
theorem A11 {Q l A:List Nat} (h:Own ops en τ Q) (k:∀i∈l,i∈Q) (m:∀i∈A,i∈l):SS (Av ops en τ A) (Av ops en τ l) (Av ops en ⟨[],[]⟩ (l.filter λi=>!Ad i A)):=by
 have h0:Own ops en ⟨[],[]⟩ Q:=⟨h.slot,λ_ _ _ _ _=>rfl,h.name⟩;have hf:∀i∈l.filter (λi=>!Ad i A),i∈Q:=λi hi=>k i (VW.1 hi).1;have p:∀i∈A,i∈Q:=λi hi=>k i (m i hi);have g:∀i,i∈l.filter (λi=>!Ad i A)↔i∈l/\i∉A:=λi=>by grind [Ao,Ad]
 refine⟨λs=>AGe λv=>?_,λn=>AGe λo=>?_⟩
 .rw[lkE h k,Option.or_eq_some_iff,lkE h0 hf,lkE h p];constructor
  .rintro (⟨i,hi,d,a⟩|⟨hn,a⟩)
   .by_cases c:i∈A
    .refine .inr ⟨?_,.inl ⟨i,c,d,a⟩⟩;cases b:lk s (Av ops en ⟨[],[]⟩ (l.filter λi=>!Ad i A)).env with
     | none=>rfl
     | some u =>
      rcases (lkE h0 hf s u).1 b with ⟨j,e,f,_⟩|⟨_,b⟩
      .have:=h.slot i (k i hi) j (hf j e) s d f;subst this;exact absurd c ((g i).1 e).2
      cases b
    exact .inl (.inl ⟨i,(g i).2 ⟨hi,c⟩,d,a⟩)
   refine .inr ⟨?_,.inr ⟨λi hi=>hn i (m i hi),a⟩⟩;cases b:lk s (Av ops en ⟨[],[]⟩ (l.filter λi=>!Ad i A)).env with
   | none=>rfl
   | some u =>
    rcases (lkE h0 hf s u).1 b with ⟨j,e,f,_⟩|⟨_,b⟩
    .exact absurd f (hn j ((g j).1 e).1)
    cases b
  rintro ((⟨i,hi,d,a⟩|⟨_,a⟩)|⟨b,⟨i,hi,d,a⟩|⟨hn,a⟩⟩)
  .grind
  .cases a
  .grind
  refine .inr ⟨λi hi d=>?_,a⟩;by_cases c:i∈A
  .exact hn i c d
  have:=(lkE h0 hf s (en i).v).2 (.inl ⟨i,(g i).2 ⟨hi,c⟩,d,rfl⟩);rw[b]at this;cases this
 rw[lkO h k,Option.or_eq_some_iff,lkO h0 hf,lkO h p];constructor
 .rintro (⟨i,hi,a⟩|⟨hn,a⟩)
  .by_cases c:i∈A
   .refine .inr ⟨?_,.inl ⟨i,c,a⟩⟩;cases b:lk n (Av ops en ⟨[],[]⟩ (l.filter λi=>!Ad i A)).objs with
    | none=>rfl
    | some u =>
     rcases (lkO h0 hf n u).1 b with ⟨j,e,f⟩|⟨_,b⟩
     .have:=h.name i (k i hi) j (hf j e) n _ _ a f;subst this;exact absurd c ((g i).1 e).2
     cases b
   exact .inl (.inl ⟨i,(g i).2 ⟨hi,c⟩,a⟩)
  refine .inr ⟨?_,.inr ⟨λi hi=>hn i (m i hi),a⟩⟩;cases b:lk n (Av ops en ⟨[],[]⟩ (l.filter λi=>!Ad i A)).objs with
  | none=>rfl
  | some u =>
   rcases (lkO h0 hf n u).1 b with ⟨j,e,f⟩|⟨_,b⟩
   .rw[hn j ((g j).1 e).1]at f;cases f
   cases b
 rintro ((⟨i,hi,a⟩|⟨_,a⟩)|⟨b,⟨i,hi,a⟩|⟨hn,a⟩⟩)
 .grind
 .cases a
 .grind
 refine .inr ⟨λi hi=>?_,a⟩;by_cases c:i∈A
 .exact hn i c
 cases d:lk n (en i).obs with
 | none=>rfl
 | some u =>
  have:=(lkO h0 hf n u).2 (.inl ⟨i,(g i).2 ⟨hi,c⟩,d⟩);rw[b]at this;cases this
end
def A3K (tb:Tb) (ops:List Oper) (τ:St) (en:Nat->En) (pre:List Nat) (i:Nat) (o:Oper):Prop :=
 ∃vc:Prop,aq tb ⟨(Av ops en τ pre).env,B9 false (He o.op) τ.objs (ES ops en pre)⟩ (o.dst.getD 0) o.op=some (vc,(en i).v,(en i).obs)/\vc
theorem jM {ts:List Nat} {base:List (Nat×Obj)} {d:Nat} {obs:List (Nat×Obj)} {E:List (Nat×List (Nat×Obj))}:B9 false ts base (KI d obs E)=B9 false ts base ((d,obs) :: E):=by
 cases obs with
 | nil=>simp only[KI,B9,ABz];split<;>rfl
 | cons x r=>rfl
theorem A3L {o:Op} {base:List (Nat×Obj)} {E:List (Nat×List (Nat×Obj))}:Mc false o base E=B9 false (He o) base E:=by
 cases E<;>rfl
theorem Z1 {tb:Tb} {ops:List Oper} {τ:St} {en:Nat->En}:∀ {Q:List Nat} {ens:EN} {pre:List Nat} {E:List (Nat×List (Nat×Obj))} {vc:Prop},oT tb ops τ.objs Q E (Av ops en τ pre).env=some (vc,ens)->vc ->
  (∀ts,B9 false ts τ.objs E=B9 false ts τ.objs (ES ops en pre))->(∀(j i:Nat) (e:Nat×AV×List (Nat×Obj)),Q[j]?=some i->ens[j]?=some e->en i=⟨true,e.2.1,e.2.2⟩) ->
  ens.length=Q.length/\∀(j i:Nat),Q[j]?=some i->∃(o:Oper) (e:Nat×AV×List (Nat×Obj)),ops[i]?=some o/\ens[j]?=some e/\Al ops i=some e.1/\A3K tb ops τ en ((Q.take j).reverse++pre) i o
 | [],ens,pre,E,vc,h,q,g,m=>by grind [oT]
 | i :: Q,ens,pre,E,vc,h,q,g,m=>by
  simp only[oT]at h;cases b:ops[i]? with
  | none=>rw[b]at h;simp[jK]at h
  | some o =>
   rw[b]at h;simp only[jK]at h;cases a:o.dst with
   | none=>rw[a]at h;simp[eC]at h
   | some d =>
    cases c:aq tb ⟨(Av ops en τ pre).env,Mc false o.op τ.objs E⟩ (o.dst.getD 0) o.op with
    | none=>rw[c,a]at h;simp[eC]at h
    | some r =>
     obtain⟨y,v,obs⟩:=r;rw[c,a]at h;simp only[eC]at h;cases n:oT tb ops τ.objs Q (KI d obs E) ((d,v) :: (Av ops en τ pre).env) with
     | none=>rw[n]at h;simp[jL]at h
     | some p =>
      obtain⟨A,z⟩:=p;rw[n]at h;simp only[jL]at h;cases h;have hi:=m 0 i (d,v,obs) rfl rfl;have l:Al ops i=some d:=by simp[Al,b,a]
      have w:(Av ops en τ (i :: pre)).env=(d,v) :: (Av ops en τ pre).env:=by simp[Av,l,St.add,hi]
      have s:=Z1 (pre:=i :: pre) (by rw[w];exact n) q.2 (λts=>by
       rw[jM];simp only[ES,QM,l,AFR,hi,B9];rw[g ts];rfl) (λj k e h1 f=>m (j+1) k e (by simpa using h1) (by simpa using f))
      refine⟨by simp[s.1],λj k hk=>?_⟩;cases j with
      | zero =>
       simp only[AFd,ZE]at hk;subst hk;refine⟨o,(d,v,obs),b,rfl,l,y,?_,q.1⟩;rw[A3L,g]at c;simp only[ZH,List.reverse_nil,ABz];rw[hi];exact c
      | succ j =>
       obtain⟨x,e,h1,f,t,u⟩:=s.2 j k (by simpa using hk);refine⟨x,e,h1,by simpa using f,t,?_⟩;simpa[VZ] using u
theorem Sp:∀ {ens:EN} {objs:List (Nat×Obj)},Sn ens objs=true->∀(j:Nat) (e:Nat×AV×List (Nat×Obj)),ens[j]?=some e->∀n o,lk n e.2.2=some o->lk n objs=none/\∀(b:Nat) (a:Nat×AV×List (Nat×Obj)) (c:Obj),ens[b]?=some a->lk n a.2.2=some c->j=b
 | [],objs,_,j,e,h=>by simp at h
 | (d,v,obs) :: r,objs,h,j,e,f=>by
  simp only[Sn,AT,If,VY]at h;have h0:∀n o,lk n obs=some o->lk n objs=none:=λn o hn=>h.1 _ (GK hn);have g:=Sp h.2;grind [lk,BC]
end
section
open Go Go.RowKit
structure Z2 (ops:Array Oper) (anc:List (List Nat)):Prop where
 lt:∀i o,ops[i]?=some o->∀e∈ER o,e<i
 cl:∀i o,ops[i]?=some o->∀j∈anc.getD i [],j∈ER o\/∃e∈ER o,j∈anc.getD e []
theorem AC9 {ops:Array Oper} {anc:List (List Nat)} (h:AAO ops.toList anc=true):Z2 ops anc:=by
 simp only[AAO,If,QJ]at h;have hi:∀i o,ops[i]?=some o->((ER o).all λe=>decide (e<i))=true/\((anc.getD i []).all λj=>Ad j (ER o)||(ER o).any λe=>Ad j (anc.getD e []))=true:=by grind
 refine⟨λi o a e b=>?_,λi o a j c=>?_⟩
 .grind
 grind [Ao]
section
variable {ops:Array Oper} {k:Nat} {anc:List (List Nat)} {Q:Exit->Act->World->Prop}
theorem UM (a:Z2 ops anc) {listed:Array Bool} (g:∀i o,ops[i]?=some o->listed.getD i true=true->∀e∈ER o,listed.getD e false=true) :
  ∀i o,ops[i]?=some o->(∀e∈ER o,listed.getD e false=true)->∀j∈anc.getD i [],listed.getD j false=true:=by
 intro i;induction i using Nat.strongRecOn with
 | _ i l =>
  intro o b c j f;rcases a.cl i o b j f with h1|⟨e,d,h⟩
  .exact c j h1
  have k:=a.lt i o b e d;grind
theorem Sq {F:Fence} {P:Program} (g:Z2 ops anc) (q:∀i o,ops[i]?=some o->k<=i->∀j,j<i->j∈anc.getD i []):∀ {rest:List Oper} {p:Nat} {listed:Array Bool} {a:Act} {w:World},ops.toList.drop p=rest->k<=p->p<=ops.size->listed.size=ops.size ->
  (∀i,i<ops.size->(listed.getD i true=true↔i<p))->wpListIn F 0 P ops Q rest a w->wpAnyIn F 0 P .any ops Q rest.length listed a w
 | [],p,listed,a,w,l,C,D,m,f,c=>by
  have hp:p=ops.size:=by
   have:=bY List.length l;simp at this;omega
  refine⟨?_,c⟩;apply AFP.2;grind [Du]
 | o :: r,p,listed,a,w,l,C,D,m,f,c=>by
  obtain⟨d,v⟩:=Zw l;have d:ops[p]?=some o:=by simpa using d
  have E:p<ops.size:=(SG.1 d).1;have x:∀e b,e<ops.size->listed.getD e b=listed.getD e true:=λe b h=>by grind
  have L:∀i o,ops[i]?=some o->listed.getD i true=true->∀e∈ER o,listed.getD e false=true:=by
   intro i o u h1 e h;have H:i<ops.size:=(SG.1 u).1;have J:=(f i H).1 h1;have K:=g.lt i o u e h;grind
  have G:∀i,i∈Region.ready .any ops listed->i=p:=by grind [Du,UM]
  refine⟨λM=>?_,λi hi=>?_⟩
  .exfalso;have:p∈Region.ready .any ops listed:=by
    rw[Du];refine⟨?_,o,d,λe h=>?_⟩
    .cases hh:listed.getD p true with
     | false=>rfl
     | true=>have:=(f p E).1 hh;omega
    have:=g.lt p o d e h;rw[x e false (by omega)];exact(f e (by omega)).2 this
   grind
  have z:=G i hi;subst z;have t:∀(j:Nat),j<ops.size->((listed.setIfInBounds i true).getD j true=true↔j<i+1):=by
   intro j A;have B:j<listed.size:=by omega
   by_cases s:j=i
   .subst s;simp[Array.getD,B]
   have h1:(listed.setIfInBounds i true).getD j true=listed.getD j true:=getD_set_ne true (λe=>s e.symm);rw[h1,f j A];omega
  unfold wpOpIn;rw[d];simp only;unfold wpListIn at c;split
  .rename_i n;rw[BY n]at c;exact Oper.wpIn_mono (λI w' y=>Sq g q v.symm (by omega) (by omega) (by simpa using m) t y) c
  rename_i n;rw[An n]at c;exact⟨c.1,Sq g q v.symm (by omega) (by omega) (by simpa using m) t c.2⟩
end
structure QOk (ops:List Oper) (anc:List (List Nat)) (L Q:List Nat):Prop where
 nodup:Q.Nodup
 pos:∀(j i:Nat),Q[j]?=some i->i∉L/\∃o,ops[i]?=some o/\o.guard=none/\(∀e∈ER o,e∈L\/e∈Q.take j)/\(∀t∈He o.op,∀k∈Q,Al ops k=some t->k∈anc.getD i []/\k∈Q.take j)
 slot:∀i∈Q,∀j∈Q,∀s,Al ops i=some s->Al ops j=some s->i=j
theorem jN {ops:List Oper} {anc:List (List Nat)} {L Q:List Nat}:∀ {r pre:List Nat},qB1 ops anc L Q r pre=true ->
  (∀(j i:Nat),r[j]?=some i->i∉L/\i∉pre/\i∉r.take j/\∃o,ops[i]?=some o/\o.guard=none/\(∀e∈ER o,e∈L\/e∈pre\/e∈r.take j)/\(∀t∈He o.op,∀k∈Q,Al ops k=some t->k∈anc.getD i []/\(k∈pre\/k∈r.take j)) /\
   ∀k,k∈pre\/k∈r.take j->Al ops k≠Al ops i)
 | [],pre,h,j,i,a=>by simp at a
 | x :: r,pre,h,j,i,a=>by
  simp only[qB1,AT]at h;obtain⟨h1,s⟩:=h;cases j with
  | zero =>
   simp only[AFd,ZE]at a;subst a;cases f:ops[x]? with
   | none=>rw[f]at h1;cases h1
   | some o =>
    rw[f]at h1;simp only[AT,If,QO,Ao,AFB,Px,VY]at h1;obtain⟨⟨⟨⟨⟨⟨A,q⟩,B⟩,C⟩,D⟩,c⟩,d⟩:=h1;refine⟨λh=>(by rw[(Ao _ _).2 h]at c;cases c),λh=>(by rw[(Ao _ _).2 h]at d;cases d),by simp,o,rfl,q,λe v=>?_,λt w k hk u=>?_,λk hk=>?_⟩
    .grind
    .grind
    grind [Al]
  | succ j =>
   obtain⟨g,b,l,o,m,n,y,z,p⟩:=jN s j i (by simpa using a);simp only[DO,not_or]at b;refine⟨g,b.2,by simp[VZ,b.1,l],o,m,n,λe v=>?_,λt w k hk u=>?_,λk hk=>p k ?_⟩
   .grind
   .grind
   grind
theorem jO {α:Type} {l:List α} {i j:Nat} {x:α} (h:l[i]?=some x) (a:i<j):x∈l.take j:=by
 rw[VH];exact⟨i,by rw[SF,BY a];exact h⟩
theorem qOk {ops:List Oper} {anc:List (List Nat)} {L Q:List Nat} (h:qB1 ops anc L Q Q []=true):QOk ops anc L Q:=by
 have hs:=jN h;have m:∀ {i j x y:Nat},Q[i]?=some x->Q[j]?=some y->i<j->x≠y/\Al ops x≠Al ops y:=by grind [jO]
 refine⟨?_,λj i c=>?_,λi hi j c s h1 q=>?_⟩
 .rw[List.nodup_iff_pairwise_ne,QG];intro i j hi c l e;exact(m (At hi) (At c) l).1 e
 .obtain⟨d,_,_,o,f,g,n,p,_⟩:=hs j i c;refine⟨d,o,f,g,λe v=>?_,λt w k hk u=>?_⟩
  .grind
  grind
 obtain⟨a,ha⟩:=VH.1 hi;obtain⟨b,r⟩:=VH.1 c;grind
theorem oW:∀ {Q:List Nat} {ens:EN},Q.Nodup->∀(j i:Nat) (e:Nat×AV×List (Nat×Obj)),Q[j]?=some i->ens[j]?=some e->PN Q ens i=⟨true,e.2.1,e.2.2⟩
 | [],ens,_,j,i,e,h,_=>by simp at h
 | x :: Q,[],_,j,i,e,_,h=>by simp at h
 | x :: Q,f :: ens,hn,j,i,e,h1,a=>by
  cases j with
  | zero =>
   simp only[AFd,ZE]at h1 a;subst h1;subst a;simp[PN,AG4,lk]
  | succ j =>
   have h1:Q[j]?=some i:=by simpa using h1
   have b:i≠x:=λe=>by grind
   have:=oW (TO.1 hn).2 j i e h1 (by simpa using a);simp only[PN,AG4,lk,An b]at this ⊢;exact this
structure Fr (tb:Tb) (ops:List Oper) (anc:List (List Nat)) (L Q:List Nat) (ens:EN) (τ:St):Prop where
 q:QOk ops anc L Q
 len:ens.length=Q.length
 own:Own ops (PN Q ens) τ Q
 at_:∀(j i:Nat),Q[j]?=some i->∃(o:Oper) (e:Nat×AV×List (Nat×Obj)),ops[i]?=some o/\ens[j]?=some e/\Al ops i=some e.1/\PN Q ens i=⟨true,e.2.1,e.2.2⟩/\A3K tb ops τ (PN Q ens) (Q.take j).reverse i o
theorem A3M {tb:Tb} {ops:List Oper} {anc:List (List Nat)} {L Q:List Nat} {ens:EN} {τ:St} (d:QOk ops anc L Q) (h:AAN tb ops Q ens τ):Fr tb ops anc L Q ens τ:=by
 obtain⟨vc,h1,p,q⟩:=h;have u:=λ(j i:Nat) (e:Nat×AV×List (Nat×Obj))=>oW (ens:=ens) d.nodup j i e;obtain⟨t,hf⟩:=Z1 (en:=PN Q ens) (pre:=[]) h1 p (λts=>rfl) u;have k:∀i∈Q,∃(j:Nat) (e:Nat×AV×List (Nat×Obj)),Q[j]?=some i/\ens[j]?=some e/\PN Q ens i=⟨true,e.2.1,e.2.2⟩:=by
  intro i hi;obtain⟨j,c⟩:=VH.1 hi;grind
 refine⟨d,t,⟨d.slot,λi hi n o hn=>?_,λi hi j c n o x f g=>?_⟩,λj i c=>?_⟩
 .grind [Sp]
 .obtain⟨a,e,ha,r,v⟩:=k i hi;obtain⟨b,m,l,s,w⟩:=k j c;rw[v]at f;rw[w]at g;have:=(Sp q a e r n o f).2 b m x s g;subst this;rw[ha]at l;injection l
 grind
theorem A12 {ops:List Oper} {en:Nat->En} {τ:St} {Q:List Nat} (h:Own ops en τ Q) {ts pre ex:List Nat} (hp:∀j∈pre,j∈Q) (e:∀j∈ex,j∈Q) (d:∀j∈pre,Ad ((Al ops j).getD 0) ts=true->j∈ex) {n:Nat} {o:Obj} :
  lk n (B9 false ts τ.objs (ES ops en pre))=some o->lk n (Av ops en τ ex).objs=some o:=by
 rw[lkO h e];induction pre with
 | nil =>
  simp only[ES,AFN,B9];intro hn;refine .inr ⟨λj b=>?_,hn⟩;cases a:lk n (en j).obs with
  | none=>rfl
  | some f=>have:=h.new j (e j b) n f a;rw[this]at hn;cases hn
 | cons i r c =>
  simp only[ES,QM,B9];have c:=c (λj b=>hp j (by simp[b])) (λj b=>d j (by simp[b]));split
  .rename_i g;intro hn;rw[BC]at hn;cases a:lk n (en i).obs with
   | some f =>
    rw[a]at hn;simp only[AGc]at hn;cases hn;exact .inl ⟨i,d i (by simp) (by simpa using g),a⟩
   | none =>
    rw[a]at hn;exact c (by simpa[ES] using hn)
  exact c
theorem Nm {p:Nat×Obj}:∀ {l:List (Nat×Obj)},p∈l->∃b,lk p.1 l=some b
 | (c,d) :: r,h=>by
  simp only[lk];by_cases a:p.1=c
  .simp_all
  rw[An a];rcases DO.1 h with rfl|h
  .exact absurd rfl a
  exact Nm h
theorem oX {c:Cx} (y:c.Ok) {ops:List Oper} {anc:List (List Nat)} {L Q:List Nat} {ens:EN} {τ:St} (hF:Fr c.tb ops anc L Q ens τ) {ex:List Nat} (h:∀i∈ex,i∈Q) {j i:Nat} {o:Oper} (m:Q[j]?=some i) (s:ops[i]?=some o) (ai:i∉ex)
  (ab:∀k∈anc.getD i [],k∈Q->k∈ex) (I:∀d,o.dst=some d->d<c.nt) {a:Act} {w:World} {next:Act->World->Prop} {Qe:Exit->Act->World->Prop} (hs:c.sat (Av ops (PN Q ens) τ ex) a w)
  (hn:∀A w',c.sat (Av ops (PN Q ens) τ (i :: ex)) A w'->next A w'):o.wpIn (FR c.r) 0 c.P a w next Qe:=by
 obtain⟨l,e,D,ae,aa,am,vc,T,W⟩:=hF.at_ j i m;rw[s]at D;cases D;obtain⟨_,an,E,_,_,al⟩:=hF.q.pos j i m;rw[s]at E;cases E;have z:∀k∈(Q.take j).reverse,k∈Q:=λk hk=>VM (by simpa using hk);have S:Ops ⟨(Av ops (PN Q ens) τ (Q.take j).reverse).env,B9 false (He o.op) τ.objs (ES ops (PN Q ens) (Q.take j).reverse)⟩ (Av ops (PN Q ens) τ ex) o.op.operands.toList:=by
  intro x X v b;cases x with
  | tmp t =>
   simp only[Ap]at b ⊢;have ak:t∈He o.op:=AG8.2 ⟨_,X,rfl⟩;rw[lkE hF.own z]at b;rw[lkE hF.own h];rcases b with ⟨k,hk,af,ag⟩|⟨aj,b⟩
   .grind
   grind
  | const ao=>exact b
  | global g=>exact b
  | func f=>exact b
 have R:iD ⟨(Av ops (PN Q ens) τ (Q.take j).reverse).env,B9 false (He o.op) τ.objs (ES ops (PN Q ens) (Q.take j).reverse)⟩ (Av ops (PN Q ens) τ ex):=by
  intro n l hn;refine A12 hF.own z h (λk hk ah=>?_) hn;obtain⟨Y,J⟩:=VH.1 (z k hk);obtain⟨_,Z,_,_,ad,_⟩:=hF.at_ Y k J;grind [Ao]
 have U:=Vm R S T;have C:=VN m;have B:Bl (PN Q ens i).obs (Av ops (PN Q ens) τ ex)=true:=by
  simp only[Bl,If,VY];intro p hp;obtain⟨l,F⟩:=Nm hp;cases N:lk p.1 (Av ops (PN Q ens) τ ex).objs with
  | none=>rfl
  | some u =>
   rcases (lkO hF.own h p.1 u).1 N with ⟨k,hk,M⟩|⟨_,hu⟩
   .have:=hF.own.name i C k (h k hk) p.1 l u F M;grind
   rw[hF.own.new i C p.1 l F]at hu;cases hu
 obtain⟨ρ,G⟩:=hs;refine s7 (A75 y G) U W B λu ρ' w' V=>hn _ _ ?_;have H:Al ops i=o.dst:=by simp[Al,s]
 simp only[Av,H];exact⟨ρ',G.add y.K y.O I B V⟩
end
section
open Go Go.RowKit
theorem Mj:∀ {l l':List Nat},l.Nodup->(∀x∈l,x∈l')->l.length<=l'.length
 | [],_,_,_=>by simp
 | x :: l,l',hn,h=>by
  have b:=h x (by simp);have:=Mj (l:=l) (l':=l'.erase x) (TO.1 hn).2 (λy a=>by
   have:y≠x:=λe=>(TO.1 hn).1 (e▸a);exact(AFV this).2 (h y (by simp[a])))
  grind
theorem JS (A:List Nat) (l:Nat) (a:List (List Nat×Nat)) (D:List Nat):qs ((A,l) :: a) D=A++qs a D:=by simp[qs]
structure ACa (ops:List Oper) (anc:List (List Nat)) (p0:Nat) (L:List Nat) (ps:List (List Nat×Nat)) (D:List Nat):Prop where
 all:∀i,i<p0->i∈L\/i∈qs ps D\/i∈ps.map (·.2)
 back:∀i,p0<=i->i<ops.length->∀j,j<i->j∈anc.getD i []
 L:∀i∈L,i<p0
 Q:∀i∈qs ps D,i<p0
 lo:∀p∈ps,p.2<p0
 p0:p0<=ops.length
theorem W8 {ops:List Oper} {anc:List (List Nat)} {p0:Nat} {L D:List Nat} (h:Uz ops anc p0 L [] D=true):QOk ops anc L D/\(∀i,i<p0->i∈L\/i∈D)/\L.length+D.length=p0/\p0<=ops.length/\(∀i∈L,i<p0)/\(∀i∈D,i<p0)/\(∀i,p0<=i->i<ops.length->∀j,j<i->j∈anc.getD i []):=by
 simp only[Uz,AT,If,QJ,QO,By,Ao]at h;grind [qOk]
theorem KO {ops:List Oper} {anc:List (List Nat)} {p0:Nat} {L D A:List Nat} {l:Nat} {b:List (List Nat×Nat)} (h:Uz ops anc p0 L ((A,l) :: b) D=true):QOk ops anc L (A++qs b D)/\(∃o,ops[l]?=some o/\o.guard=none/\(∀e∈ER o,e∈L\/e∈A))/\(∀j∈A,j∈anc.getD l [])/\l∉L/\l∉A++qs b D/\(∀p∈b,l∈anc.getD p.2 [])/\Uz ops anc p0 (l :: (A++L)) b D=true:=by
 simp only[Uz,AT,If,Ao]at h;obtain⟨⟨⟨h1,a⟩,m⟩,n⟩:=h;cases f:ops[l]? with
 | none=>rw[f]at a;cases a
 | some o =>
  rw[f]at a;simp only[AT,If,QO,Ao,Px,VY]at a;obtain⟨⟨⟨⟨g,i⟩,k⟩,c⟩,d⟩:=a;exact⟨qOk h1,⟨o,rfl,g,i⟩,k,λh=>(by rw[(Ao _ _).2 h]at c;cases c),λh=>(by rw[(Ao _ _).2 h]at d;cases d),m,n⟩
theorem W9 {ops:List Oper} {anc:List (List Nat)} {p0:Nat}:∀ {b:List (List Nat×Nat)} {L D:List Nat},Uz ops anc p0 L b D=true->ACa ops anc p0 L b D
 | [],L,D,h=>by
  obtain⟨_,h1,g,c,d,e,f⟩:=W8 h;refine⟨λi hi=>?_,f,d,by simpa[qs] using e,by simp,c⟩;grind [qs]
 | (A,l) :: b,L,D,h=>by
  obtain⟨_,_,_,_,_,_,h1⟩:=KO h;have a:=W9 h1;refine⟨λi hi=>?_,a.back,λi hi=>a.L i (by simp[hi]),λi hi=>?_,λp hp=>?_,a.p0⟩
  .rcases a.all i hi with h|h|h
   .grind [JS]
   .grind [JS]
   grind
  .rw[JS,OF]at hi;rcases hi with hi|hi
   .exact a.L i (by simp[hi])
   exact a.Q i hi
  rcases DO.1 hp with rfl|hp
  .exact a.L l (by simp)
  exact a.lo p hp
theorem eD {ops:List Oper} {en:Nat->En} {τ:St}:∀ {Q:List Nat} {ens:EN} {pre:List Nat},ens.length=Q.length->(∀(j i:Nat) (e:Nat×AV×List (Nat×Obj)),Q[j]?=some i->ens[j]?=some e->Al ops i=some e.1/\en i=⟨true,e.2.1,e.2.2⟩) ->
  Mi ens (Av ops en τ pre)=Av ops en τ (Q.reverse++pre)
 | [],[],pre,_,_=>rfl
 | [],_ :: _,_,h,_=>by simp at h
 | _ :: _,[],_,h,_=>by simp at h
 | i :: Q,(d,v,obs) :: ens,pre,f,h=>by
  obtain⟨h1,a⟩:=h 0 i (d,v,obs) rfl rfl;have:(⟨(d,v) :: (Av ops en τ pre).env,obs++(Av ops en τ pre).objs⟩:St)=Av ops en τ (i :: pre):=by simp[Av,h1,a,St.add]
  simp only[Mi];rw[this,eD (by simpa using f) (λj k e b c=>h (j+1) k e (by simpa using b) (by simpa using c))];simp
section
variable {c:Cx} {ops:Array Oper} {anc:List (List Nat)} {p0:Nat} {Kf:St->Prop} {Qe:Exit->Act->World->Prop}
theorem A3N {a:List (List Nat×Nat)} {L D:List Nat} {ens:EN} {τ:St} (b:Uz ops.toList anc p0 L a D=true) (d:Mix c ops.toList Kf a D ens τ):Fr c.tb ops.toList anc L (qs a D) ens τ:=by
 cases a with
 | nil =>
  have:qs [] D=D:=rfl;rw[this];exact A3M (W8 b).1 d.1
 | cons p a =>
  obtain⟨A,l⟩:=p;rw[JS];exact A3M (KO b).1 d.1
theorem Z3 (x:Z2 ops anc) {a:List (List Nat×Nat)} {L D:List Nat} {ex:List Nat} {listed:Array Bool} (w:Uz ops.toList anc p0 L a D=true) (v:QOk ops.toList anc L (qs a D)) (u:∀i∈ex,i∈qs a D) (I:listed.size=ops.size)
  (H:∀i,i<ops.size->(listed.getD i true=true↔i∈L\/i∈ex)) (hf:¬(a=[]/\∀i∈qs a D,i∈ex)):∃i,i∈Region.ready .any ops listed:=by
 have C:∀e b,e<ops.size->listed.getD e b=listed.getD e true:=λe b c=>by grind
 have mk:∀i o,ops[i]?=some o->i∉L->i∉ex->(∀e∈ER o,e∈L\/e∈ex)->i∈Region.ready .any ops listed:=by
  intro i o f h1 k E;have J:i<ops.size:=(SG.1 f).1;rw[Du];refine⟨?_,o,f,λe c=>?_⟩
  .grind
  have F:=x.lt i o f e c;grind
 by_cases t:∀i∈qs a D,i∈ex
 .cases a with
  | nil=>exact absurd ⟨rfl,t⟩ hf
  | cons p a =>
   obtain⟨A,l⟩:=p;rw[JS]at t u;obtain⟨_,⟨o,f,_,y⟩,_,h1,k,_,_⟩:=KO w;refine⟨l,mk l o (by simpa using f) h1 (λh=>k (u l h)) λe c=>?_⟩;rcases y e c with h|h
   .exact .inl h
   grind
 have key:∀(n j:Nat),j<=n->(∃i,(qs a D)[j]?=some i/\i∉ex)->∃i,i∈Region.ready .any ops listed:=by
  intro n;induction n with
  | zero =>
   rintro j s ⟨i,hi,d⟩;have:j=0:=by omega
   subst this;obtain⟨m,o,q,_,r,_⟩:=v.pos 0 i hi;refine⟨i,mk i o (by simpa using q) m d λe c=>?_⟩;rcases r e c with h|h
   .exact .inl h
   simp at h
  | succ n B =>
   rintro j s ⟨i,hi,d⟩;by_cases z:∃g,g<j/\∃i',(qs a D)[g]?=some i'/\i'∉ex
   .obtain⟨g,h1,k⟩:=z;exact B g (by omega) k
   obtain⟨m,o,q,_,r,_⟩:=v.pos j i hi;refine⟨i,mk i o (by simpa using q) m d λe c=>?_⟩;rcases r e c with h|h
   .exact .inl h
   right;obtain⟨g,G⟩:=VH.1 h;grind
 have:∃i,i∈qs a D/\i∉ex:=by grind
 obtain⟨i,hi,d⟩:=this;obtain⟨j,s⟩:=VH.1 hi;exact key j j (Is _) ⟨i,s,d⟩
theorem Z4 (G:Z2 ops anc) (hT:∀τ,Kf τ->∀a w,c.sat τ a w->wpListIn (FR c.r) 0 c.P ops Qe (ops.toList.drop p0) a w) {m:Nat} {L D:List Nat} {ens:EN} {τ:St} {ex:List Nat} {listed:Array Bool} {a:Act} {w:World}
  (C:Uz ops.toList anc p0 L [] D=true) (g:Mix c ops.toList Kf [] D ens τ) (M:(L++ex).Nodup) (b:∀i∈ex,i∈D) (W:m+L.length+ex.length=ops.size) (J:listed.size=ops.size) (I:∀i,i<ops.size->(listed.getD i true=true↔i∈L\/i∈ex))
  (hs:c.sat (Av ops.toList (PN D ens) τ ex) a w) (d:∀i∈D,i∈ex):wpAnyIn (FR c.r) 0 c.P .any ops Qe m listed a w:=by
 obtain⟨q,h1,S,y,T,U,z⟩:=W8 C;have hF:=A3M q g.1;have V:ex.length=D.length:=AF7 (Mj (f8.1 M).2.1 b) (Mj q.nodup d);have K:m=(ops.toList.drop p0).length:=by grind
 have E:Mi ens τ=Av ops.toList (PN D ens) τ D.reverse:=by
  have:=eD (ops:=ops.toList) (en:=PN D ens) (τ:=τ) (pre:=[]) hF.len (λj i e A B=>by
   obtain⟨o,R,_,f,u,x,_⟩:=hF.at_ j i A;rw[B]at f;cases f;exact⟨u,x⟩)
  simpa[Av] using this
 have O:c.sat (Mi ens τ) a w:=by
  rw[E];have t:∀i∈D.reverse,i∈D:=λi hi=>by simpa using hi
  have l:∀i,i∈ex↔i∈D.reverse:=λi=>⟨λh=>by simpa using b i h,λh=>d i (by simpa using h)⟩;refine Ws (λs=>AGe λv=>?_) (λn=>AGe λo=>?_) hs
  .rw[lkE hF.own t,lkE hF.own b];simp only[l]
  rw[lkO hF.own t,lkO hF.own b];simp only[l]
 have:=Sq (Q:=Qe) (F:=FR c.r) (P:=c.P) G (k:=p0) (λi o N hi j H=>z i hi (by have:=(SG.1 N).1;simpa using this) j H) (rest:=ops.toList.drop p0) (p:=p0) (listed:=listed) (a:=a) (w:=w) rfl (Is _) (by simpa using y) J
  (λi hi=>by
   rw[I i hi];constructor
   .grind
   intro h;rcases h1 i h with h|h
   .exact .inl h
   exact .inr (d i h)) (hT _ g.2 a w O)
 rw[K];exact this
theorem A7d (ch:c.Ok) (bx:∀o∈ops.toList,KF c.nt o=true) (ab:Z2 ops anc) (hT:∀τ,Kf τ->∀a w,c.sat τ a w->wpListIn (FR c.r) 0 c.P ops Qe (ops.toList.drop p0) a w) :
  ∀(m:Nat) (f:List (List Nat×Nat)) (L D:List Nat) (ens:EN) (τ:St) (ex:List Nat) (listed:Array Bool) (a:Act) (w:World),Uz ops.toList anc p0 L f D=true->Mix c ops.toList Kf f D ens τ->(L++ex).Nodup->(∀i∈ex,i∈qs f D) ->
   m+L.length+ex.length=ops.size->listed.size=ops.size->(∀i,i<ops.size->(listed.getD i true=true↔i∈L\/i∈ex))->(∀i o,ops[i]?=some o->(i∈L\/i∈ex)->∀e∈ER o,e∈L\/e∈ex) ->
   c.sat (Av ops.toList (PN (qs f D) ens) τ ex) a w->wpAnyIn (FR c.r) 0 c.P .any ops Qe m listed a w:=by
 intro m;induction m with
 | zero =>
  intro f L D ens τ ex listed a w C T H B ax U O ae hs;have hF:=A3N C T;by_cases hf:f=[]/\∀i∈qs f D,i∈ex
  .obtain⟨rfl,aq⟩:=hf;exact Z4 ab hT C T H B ax U O hs aq
  exfalso;obtain⟨i,hi⟩:=Z3 ab C hF.q B U O hf;rw[Du]at hi;obtain⟨h1,o,E,_⟩:=hi;have X:i<ops.size:=(SG.1 E).1;have I:i∉L++ex:=λh=>by grind
  have N:=W9 C;have:=EX ops.size (i :: (L++ex)) (TO.2 ⟨I,H⟩) (λj d=>by
   have hp:=N.p0;simp only[AG0]at hp;rcases DO.1 d with rfl|d
   .exact X
   rcases OF.1 d with d|d
   .have:=N.L j d;omega
   have:=N.Q j (B j d);omega)
  grind
 | succ m bj =>
  intro f L D ens τ ex listed a w C T H B ax U O ae hs;have hF:=A3N C T;have N:=W9 C;have bn:∀e b,e<ops.size->listed.getD e b=listed.getD e true:=λe b F=>by grind
  by_cases hf:f=[]/\∀i∈qs f D,i∈ex
  .obtain⟨rfl,aq⟩:=hf;exact Z4 ab hT C T H B ax U O hs aq
  refine⟨λcv=>?_,λi hi=>?_⟩
  .obtain⟨i,hi⟩:=Z3 ab C hF.q B U O hf;grind
  rw[Du]at hi;obtain⟨h1,o,E,cq⟩:=hi;have X:i<ops.size:=(SG.1 E).1;have I:¬(i∈L\/i∈ex):=λh=>by rw[(O i X).2 h]at h1;cases h1
  have az:∀e∈ER o,e∈L\/e∈ex:=λe F=>by grind
  have ad:∀j∈anc.getD i [],j∈L\/j∈ex:=by
   have ct:∀i o,ops[i]?=some o->listed.getD i true=true->∀e∈ER o,listed.getD e false=true:=by
    intro i o E h1 e F;have X:i<ops.size:=(SG.1 E).1;have Y:=ab.lt i o E e F;rw[bn e false (by omega)];exact(O e (by omega)).2 (ae i o E ((O i X).1 h1) e F)
   grind [UM]
  have ag:ops.toList[i]?=some o:=by simpa using E
  have cf:o∈ops.toList:=VN ag;have bw:=CP (bx o cf);have bd:∀(S:List Nat),(∀j,j∈S↔j=i\/j∈L\/j∈ex)->∀j,j<ops.size->((listed.setIfInBounds i true).getD j true=true↔j∈S):=by
   intro S bu j d;have cd:j<listed.size:=by omega
   rw[bu];by_cases aw:j=i
   .subst aw;simp[Array.getD,cd]
   have Y:(listed.setIfInBounds i true).getD j true=listed.getD j true:=getD_set_ne true (λe=>aw e.symm);rw[Y,O j d];simp[aw]
  have bi:∀ {g:Option (Nat×Bool)},g=none->o.guard=g->Region.wanted o (yielded ops a.tmps)=true:=by
   intro g au e;simp[Region.wanted,e,au]
  by_cases af:i∈qs f D
  .obtain⟨j,d⟩:=VH.1 af;obtain⟨_,cy,be,au,_,_⟩:=hF.q.pos j i d;rw[ag]at be;cases be;unfold wpOpIn;rw[E];simp only;rw[BY (bi rfl au)];refine oX ch hF B d ag (λh=>I (.inr h)) (λk hk ce=>?_) bw hs λak w' ci=>?_
   .rcases ad k hk with h|h
    .obtain⟨u,R⟩:=VH.1 ce;exact absurd h (hF.q.pos u k R).1
    exact h
   refine bj f L D ens τ (i :: ex) _ ak w' C T ?_ (λk hk=>?_) (by simp only[Of];omega) (by simpa using U) (λk hk=>?_) (λi' W G av e F=>?_) ci
   .rw[f8]at H ⊢;refine⟨H.1,TO.2 ⟨λh=>I (.inr h),H.2.1⟩,λx t y V=>?_⟩;rcases DO.1 V with rfl|V
    .exact λe=>I (.inl (e▸t))
    exact H.2.2 x t y V
   .rcases DO.1 hk with rfl|hk
    .exact af
    exact B k hk
   .rw[bd (i :: (L++ex)) (λj=>by simp) k hk];simp only[DO,OF];constructor
    .rintro (h|h|h)
     .exact .inr (.inl h)
     .exact .inl h
     exact .inr (.inr h)
    rintro (h|h|h)
    .exact .inr (.inl h)
    .exact .inl h
    exact .inr (.inr h)
   have:e∈L\/e∈ex:=by
    rcases av with h|h
    .exact ae i' W G (.inl h) e F
    rcases DO.1 h with rfl|h
    .rw[E]at G;cases G;exact az e F
    exact ae i' W G (.inr h) e F
   rcases this with h|h
   .exact .inl h
   exact .inr (by simp[h])
  . -- no operation of the front
   have cw:¬p0<=i:=by
    intro ca;have ay:=N.back i ca (by simpa using X);cases f with
    | nil =>
     refine hf ⟨rfl,λj d=>?_⟩;have Y:=N.Q j d;rcases ad j (ay j (by omega)) with h|h
     .obtain⟨u,R⟩:=VH.1 d;exact absurd h (hF.q.pos u j R).1
     exact h
    | cons p f =>
     obtain⟨A,l⟩:=p;obtain⟨_,_,_,am,an,_,_⟩:=KO C;have Y:=N.lo (A,l) (by simp);simp only at Y;rcases ad l (ay l (by omega)) with h|h
     .exact am h
     exact an (by rw[<-JS A l];exact B l h)
   cases f with
   | nil =>
    rcases N.all i (by omega) with h|h|h
    .exact absurd (.inl h) I
    .exact absurd h af
    cases h
   | cons p f =>
    obtain⟨A,l⟩:=p;obtain⟨_,⟨ol,bf,cb,cu⟩,bq,am,an,bo,br⟩:=KO C;have cc:i=l:=by
     rcases N.all i (by omega) with h|h|h
     .exact absurd (.inl h) I
     .exact absurd h af
     simp only[QM,DO,Do]at h;rcases h with h|⟨p,hp,rfl⟩
     .exact h
     rcases ad l (bo p hp) with h|h
     .exact absurd h am
     exact absurd (B l h) (by rw[JS];exact an)
    subst cc;rw[ag]at bf;cases bf;rw[JS]at hF B hs af;obtain⟨cs,W,G,bs⟩:=T;rw[ag]at G;cases G;have Z:∀j∈A,j∈ex:=λj d=>by
     rcases ad j (bq j d) with h|h
     .obtain⟨u,R⟩:=VH.1 (show j∈A++qs f D by simp[d]);exact absurd h (hF.q.pos u j R).1
     exact h
    have ao:A.Nodup/\(qs f D).Nodup/\∀x∈A,∀y∈qs f D,x≠y:=f8.1 hF.q.nodup;have bv:Mi (ens.take A.length) τ=Av ops.toList (PN (A++qs f D) ens) τ A.reverse:=by
     have:=eD (ops:=ops.toList) (en:=PN (A++qs f D) ens) (τ:=τ) (pre:=[]) (Q:=A) (ens:=ens.take A.length) (by have:=hF.len;simp only[IF]at this;simp only[OS];omega) (λj i e M z=>by
      have bc:j<A.length:=(QA.1 M).1;obtain⟨o,cp,_,J,K,al,_⟩:=hF.at_ j i (by rw[QN bc];exact M);rw[SF,BY bc,J]at z;cases z;exact⟨K,al⟩)
     simpa[Av] using this
    have bh:=A11 (A:=A.reverse) hF.own B (λj d=>Z j (by simpa using d));rw[<-bv]at bh;have aj:∀j,j∈ex.filter (λj=>!Ad j A.reverse)↔j∈ex/\j∉A:=λj=>by
     rw[VW];have:=Ao j A.reverse;constructor
     .rintro⟨M,z⟩;exact⟨M,λJ=>by rw[this.2 (by simpa using J)]at z;cases z⟩
     rintro⟨M,z⟩;refine⟨M,?_⟩;cases cg:Ad j A.reverse with
     | false=>rfl
     | true=>exact absurd (by simpa using this.1 cg) z
    have aa:∀j∈ex.filter (λj=>!Ad j A.reverse),j∈qs f D:=λj d=>by
     have:=B j ((aj j).1 d).1;rcases OF.1 this with h|h
     .exact absurd h ((aj j).1 d).2
     exact h
    have ar:∀j∈qs f D,∃(u:Nat) (e:Nat×AV×List (Nat×Obj)),(qs f D)[u]?=some j/\(ens.drop A.length)[u]?=some e/\Al ops.toList j=some e.1/\PN (A++qs f D) ens j=⟨true,e.2.1,e.2.2⟩:=by
     intro j d;obtain⟨u,R⟩:=VH.1 d;obtain⟨o,e,_,J,K,al,_⟩:=hF.at_ (A.length+u) j (by rw[QR (by omega),AFD];exact R);exact⟨u,e,R,by rw[ZJ];exact J,K,al⟩
    have bg:Own ops.toList (PN (A++qs f D) ens) ⟨[],[]⟩ (A++qs f D):=⟨hF.own.slot,λ_ _ _ _ _=>rfl,hF.own.name⟩;have ba:∀j∈ex.filter (λj=>!Ad j A.reverse),j∈A++qs f D:=λj d=>by simp[aa j d]
    unfold wpOpIn;rw[E];simp only;rw[BY (bi rfl cb)];refine bs _ _ bh ⟨λs v ah=>?_,λn W hn=>?_⟩ a w _ _ hs λbm bt ak w' cz bb cj=>?_
    .rcases (lkE bg ba s v).1 ah with ⟨j,d,ai,rfl⟩|⟨_,ah⟩
     .obtain⟨u,e,_,z,J,K⟩:=ar j (aa j d);rw[ai]at J;cases J;rw[K];exact⟨e.2.2,VN z⟩
     cases ah
    .rcases (lkO bg ba n W).1 hn with ⟨j,d,ai⟩|⟨_,ah⟩
     .obtain⟨u,e,_,z,J,K⟩:=ar j (aa j d);rw[K]at ai;exact⟨e,VN z,GK ai⟩
     cases ah
    have cr:ex.length=A.length+(ex.filter (λj=>!Ad j A.reverse)).length:=by
     have ck:∀l:List Nat,l.length=(l.filter (λj=>Ad j A.reverse)).length+(l.filter (λj=>!Ad j A.reverse)).length:=by
      intro l;induction l with
      | nil=>rfl
      | cons x r cx =>
       simp only[VL,Of];cases Ad x A.reverse<;>simp<;>omega
     rw[ck ex];have bz:=(f8.1 H).2.1;have M:(ex.filter (λj=>Ad j A.reverse)).length<=A.length:=Mj (bz.filter _) λx t=>by
      have:=(Ao _ _).1 (VW.1 t).2;simpa using this
     have z:A.length<=(ex.filter (λj=>Ad j A.reverse)).length:=Mj ao.1 λx t=>VW.2 ⟨Z x t,(Ao _ _).2 (by simpa using t)⟩;omega
    have ap:∀x,(x∈i :: (A++L)\/x∈ex.filter (λj=>!Ad j A.reverse))↔x=i\/x∈L\/x∈ex:=by
     intro x;rw[aj];simp only[DO,OF];constructor
     .rintro ((h|h|h)|h)
      .exact .inl h
      .exact .inr (.inr (Z x h))
      .exact .inr (.inl h)
      exact .inr (.inr h.1)
     rintro (h|h|h)
     .exact .inl (.inl h)
     .exact .inl (.inr (.inr h))
     by_cases t:x∈A
     .exact .inl (.inr (.inl t))
     exact .inr ⟨h,t⟩
    refine bj f (i :: (A++L)) D (ens.drop A.length) bm (ex.filter λj=>!Ad j A.reverse) _ ak w' br bt ?_ aa (by simp only[Of,IF];omega) (by simpa using U) (λk hk=>?_) (λi' W G av e F=>?_) ?_
    .obtain⟨n1,cn,bk⟩:=f8.1 H;have bp:∀x∈A,x∉L:=λx t cl=>bk x cl x (Z x t) rfl;rw[f8];refine⟨TO.2 ⟨λh=>?_,f8.2 ⟨ao.1,n1,λx t y V e=>bp x t (e▸V)⟩⟩,cn.filter _,λx t y V e=>?_⟩
     .rcases OF.1 h with h|h
      .exact I (.inr (Z i h))
      exact I (.inl h)
     subst e;obtain⟨bl,co⟩:=(aj x).1 V;rcases DO.1 t with rfl|t
     .exact I (.inr bl)
     rcases OF.1 t with t|t
     .exact co t
     exact bk x t x bl rfl
    .rw[ap k,bd (i :: (L++ex)) (λj=>by simp) k hk];simp
    .rw[ap];have:e∈L\/e∈ex:=by
      rcases (ap i').1 av with rfl|h
      .rw[E]at G;cases G;exact az e F
      exact ae i' W G h e F
     exact .inr this
    have cm:∀j∈ex.filter (λj=>!Ad j A.reverse),PN (qs f D) (ens.drop A.length) j=PN (A++qs f D) ens j:=λj d=>by
     obtain⟨u,e,M,z,_,K⟩:=ar j (aa j d);rw[K];exact oW ao.2.1 u j e M z
    have t:=A3H (ops:=ops.toList) (en:=PN (qs f D) (ens.drop A.length)) (τ:=bm) (ex.filter λj=>!Ad j A.reverse);rw[LM (en:=PN (A++qs f D) ens) (σ0:=⟨[],[]⟩) cm]at t;exact Ws (λs=>by rw[t.env,bb.env]) (λn=>by rw[t.objs,bb.objs]) cj
end
section
variable {c:Cx} {R:Exit->Act->World->Prop} {k:List DT} {σ:St}
theorem CQ (j:c.P.follows .mixedOrders=true) (g:c.Ok) {id:Nat} {l:List Oper} (p0:Nat) (d:List (List Nat×Nat)) (D:List Nat) (b:(AAO l (A3v l)&&Uz l (A3v l) p0 [] d D)=true) {ens:EN}
  (h:Mix c l (fun τ=>KL c R k l.toArray (l.drop p0) τ) d D ens σ):Ev c R (.run (.region id l.toArray true)) k σ:=by
 intro h1 e a w hs;simp only[Hm,Bi,If]at h1;simp only[AT]at b;refine wpIn_region_any j ?_;have hk:∀τ,KL c R k l.toArray (l.drop p0) τ->∀a w,c.sat τ a w->wpListIn (FR c.r) 0 c.P l.toArray (Vj c R k) (l.toArray.toList.drop p0) a w:=fun τ f a w hs=>f (λo m=>h1 o (by simpa using ABK m)) e a w hs;exact A7d (ops:=l.toArray) (anc:=A3v l) g (by simpa using h1) (AC9 (by simpa using b.1)) hk l.toArray.size d [] D ens σ [] (Array.replicate l.toArray.size false) a { w with drawn:=w.drawn+1 } (by simpa using b.2) (by simpa using h) (by simp) (by simp) (by simp) (by simp) (λi hi=>by simp at hi;simp[Array.getD,hi]) (λi o _ hi=>by simp at hi) (jE hs)
end
end
section
open Go Go.RowKit
section
variable {n:Nat} {ns:List Nat}
theorem Gt {m:Nat} (hn:n∈ns) (h:¬Ad m ns=true):¬m=n:=λe=>h ((Ao _ _).2 (e▸hn))
mutual
theorem XA (hn:n∈ns) {e:Ty} {xs:List e.den}:∀(x:AV),x.fgt ns=x->x.frz n e xs=x
 | .sr m e' lo hi,h=>by grind [AV.fgt,AV.frz,Gt]
 | .ep m e' i path off,h=>by grind [AV.fgt,AV.frz,Gt]
 | .nin m e' i len,h=>by grind [AV.fgt,AV.frz,Gt]
 | .ag l,h=>by
  simp only[AV.fgt,AV.ag.injEq]at h
  simp only[AV.frz,frzs_of_fgt hn l h]
 | .tup l,h=>by
  simp only[AV.fgt,AV.tup.injEq]at h
  simp only[AV.frz,frzs_of_fgt hn l h]
 | .p _ _,_=>rfl
 | .pc _ _,_=>rfl
 | .raw _,_=>rfl
 | .ip _ _,_=>rfl
 | .bp _ _ _,_=>rfl
 | .fn _,_=>rfl
 | .clo _ _,_=>rfl
 | .mp _,_=>rfl
 | .yl _,_=>rfl
 | .top,_=>rfl
theorem frzs_of_fgt (hn:n∈ns) {e:Ty} {xs:List e.den}:∀(l:List AV),AV.fgts ns l=l->AV.frzs n e xs l=l
 | [],_=>rfl
 | x :: r,h=>by
  simp only[AV.fgts,AF9]at h
  simp only[AV.frzs,XA hn x h.1,frzs_of_fgt hn r h.2]
end
mutual
theorem XB (hn:n∈ns):∀(x:AV),x.fgt ns=x->x.drp n=x
 | .sr m e' lo hi,h=>by grind [AV.fgt,AV.drp,Gt]
 | .ep m e' i path off,h=>by grind [AV.fgt,AV.drp,Gt]
 | .nin m e' i len,h=>by grind [AV.fgt,AV.drp,Gt]
 | .ag l,h=>by
  simp only[AV.fgt,AV.ag.injEq]at h
  simp only[AV.drp,drps_of_fgt hn l h]
 | .tup l,h=>by
  simp only[AV.fgt,AV.tup.injEq]at h
  simp only[AV.drp,drps_of_fgt hn l h]
 | .p _ _,_=>rfl
 | .pc _ _,_=>rfl
 | .raw _,_=>rfl
 | .ip _ _,_=>rfl
 | .bp _ _ _,_=>rfl
 | .fn _,_=>rfl
 | .clo _ _,_=>rfl
 | .mp _,_=>rfl
 | .yl _,_=>rfl
 | .top,_=>rfl
theorem drps_of_fgt (hn:n∈ns):∀(l:List AV),AV.fgts ns l=l->AV.drps n l=l
 | [],_=>rfl
 | x :: r,h=>by
  simp only[AV.fgts,AF9]at h
  simp only[AV.drps,XB hn x h.1,drps_of_fgt hn r h.2]
end
end
section
variable {n:Nat} {ns tl:List Nat}
theorem ET (a:∀n,n∈tl->n∈ns) {m:Nat} (h:¬Ad m ns=true):¬Ad m tl=true:=λh1=>h ((Ao _ _).2 (a _ ((Ao _ _).1 h1)))
theorem tN (a:∀n,n∈tl->n∈ns) {l:List Nat} (h:¬(l.any λm=>Ad m ns)=true):¬(l.any λm=>Ad m tl)=true:=λh1=>by grind [Ao]
mutual
theorem XC (htl:∀n,n∈tl->n∈ns):∀(x:AV),x.fgt ns=x->x.fgt tl=x
 | .sr m e' lo hi,h=>by grind [AV.fgt,ET]
 | .ep m e' i path off,h=>by grind [AV.fgt,ET]
 | .nin m e' i len,h=>by grind [AV.fgt,ET]
 | .bp m path off,h=>by grind [AV.fgt,ET]
 | .mp m,h=>by grind [AV.fgt,ET]
 | .yl m,h=>by grind [AV.fgt,ET]
 | .clo f cs,h=>by
  simp only[AV.fgt]at h
  split at h
  .cases h
  rename_i hm;simp only[AV.fgt,An (tN htl hm)]
 | .ag l,h=>by
  simp only[AV.fgt,AV.ag.injEq]at h
  simp only[AV.fgt,fgts_of_fgt htl l h]
 | .tup l,h=>by
  simp only[AV.fgt,AV.tup.injEq]at h
  simp only[AV.fgt,fgts_of_fgt htl l h]
 | .p _ _,_=>rfl
 | .pc _ _,_=>rfl
 | .raw _,_=>rfl
 | .ip _ _,_=>rfl
 | .fn _,_=>rfl
 | .top,_=>rfl
theorem fgts_of_fgt (htl:∀n,n∈tl->n∈ns):∀(l:List AV),AV.fgts ns l=l->AV.fgts tl l=l
 | [],_=>rfl
 | x :: r,h=>by
  simp only[AV.fgts,AF9]at h
  simp only[AV.fgts,XC htl x h.1,fgts_of_fgt htl r h.2]
end
mutual
theorem XD (hn:n∈ns) (htl:∀n,n∈tl->n∈ns):∀(x:AV),x.fgt ns=x->x.trn n tl=x
 | .sr m e' lo hi,h=>by grind [AV.fgt,AV.trn,ET]
 | .ep m e' i path off,h=>by grind [AV.fgt,AV.trn,ET]
 | .nin m e' i len,h=>by grind [AV.fgt,AV.trn,Gt,ET]
 | .bp m path off,h=>by grind [AV.fgt,AV.trn,ET]
 | .mp m,h=>by grind [AV.fgt,AV.trn,ET]
 | .yl m,h=>by grind [AV.fgt,AV.trn,ET]
 | .clo f cs,h=>by
  simp only[AV.fgt]at h
  split at h
  .cases h
  rename_i hm;simp only[AV.trn,An (tN htl hm)]
 | .ag l,h=>by
  simp only[AV.fgt,AV.ag.injEq]at h
  simp only[AV.trn,trns_of_fgt hn htl l h]
 | .tup l,h=>by
  simp only[AV.fgt,AV.tup.injEq]at h
  simp only[AV.trn,trns_of_fgt hn htl l h]
 | .p _ _,_=>rfl
 | .pc _ _,_=>rfl
 | .raw _,_=>rfl
 | .ip _ _,_=>rfl
 | .fn _,_=>rfl
 | .top,_=>rfl
theorem trns_of_fgt (hn:n∈ns) (htl:∀n,n∈tl->n∈ns):∀(l:List AV),AV.fgts ns l=l->AV.trns n tl l=l
 | [],_=>rfl
 | x :: r,h=>by
  simp only[AV.fgts,AF9]at h
  simp only[AV.trns,XD hn htl x h.1,trns_of_fgt hn htl r h.2]
end
end
def LP:AV->Bool
 | .raw _=>true
 | .p _ _=>true
 | _=>false
def Mk:Obj->Bool
 | .arr _ _ _=>true
 | .box _ _ fs=>fs.all LP
 | _=>false
theorem XE {n:Nat} {e:Ty} {xs:List e.den}:∀fs:List AV,fs.all LP=true->AV.frzs n e xs fs=fs
 | [],_=>rfl
 | x :: r,h=>by
  rw[AAS,AT]at h;simp only[AV.frzs,XE r h.2];cases x<;>first|rfl|(have:=h.1;simp[LP]at this)
theorem XF {n:Nat}:∀fs:List AV,fs.all LP=true->AV.drps n fs=fs
 | [],_=>rfl
 | x :: r,h=>by
  rw[AAS,AT]at h;simp only[AV.drps,XF r h.2];cases x<;>first|rfl|(have:=h.1;simp[LP]at this)
theorem A13 {n:Nat} {e:Ty} {xs:List e.den} {o:Obj} (h:Mk o=true):Obj.frz n e xs o=o:=by
 cases o with
 | box et st fs=>simp only[Obj.frz,XE fs h]
 | arr et a ys=>rfl
 | _=>cases h
theorem A14 {n:Nat} {o:Obj} (h:Mk o=true):Obj.drp n o=o:=by
 cases o with
 | box et st fs=>simp only[Obj.drp,XF fs h]
 | arr et a ys=>rfl
 | _=>cases h
theorem XG {hs:List Nat}:∀fs:List AV,fs.all LP=true->AV.fgts hs fs=fs
 | [],_=>rfl
 | x :: r,h=>by
  rw[AAS,AT]at h;simp only[AV.fgts,XG r h.2];cases x<;>first|rfl|(have:=h.1;simp[LP]at this)
theorem Z5 {hs:List Nat} {o:Obj} (h:Mk o=true):Obj.fgt hs o=o:=by
 cases o with
 | box et st fs=>simp only[Obj.fgt,XG fs h]
 | arr et a ys=>rfl
 | _=>cases h
theorem XH {n:Nat} {hs:List Nat}:∀fs:List AV,fs.all LP=true->AV.trns n hs fs=fs
 | [],_=>rfl
 | x :: r,h=>by
  rw[AAS,AT]at h;simp only[AV.trns,XH r h.2];cases x<;>first|rfl|(have:=h.1;simp[LP]at this)
theorem A15 {n:Nat} {hs:List Nat} {o:Obj} (h:Mk o=true):Obj.trn n hs o=o:=by
 cases o with
 | box et st fs=>simp only[Obj.trn,XH fs h]
 | arr et a ys=>rfl
 | _=>cases h
structure IY (X σ:St) (ns:List Nat):Prop where
 env:∀s v,lk s X.env=some v->v.fgt ns=v
 arr:∀n o,lk n X.objs=some o->Mk o=true
 new:∀n o,lk n X.objs=some o->lk n σ.objs=none
 nm:∀n o,lk n X.objs=some o->n∉ns
section
variable {σ σ' X:St} {ns:List Nat}
theorem SS.lkn (b:SS σ σ' X) (ha:IY X σ ns) {n:Nat} (hn:n∈ns):lk n σ'.objs=lk n σ.objs:=by
 rw[b.objs];cases a:lk n X.objs with
 | none=>rfl
 | some o=>exact absurd hn (ha.nm n o a)
theorem SS.obs (b:SS σ σ' X) (ha:IY X σ ns):iD σ σ':=by
 intro n o hn;rw[b.objs];cases a:lk n X.objs with
 | none=>exact hn
 | some c=>rw[ha.new n c a]at hn;cases hn
theorem A7e {n:Nat} (c:SS σ σ' X) (ha:IY X σ ns) (hn:n∈ns):SS (frz n σ) (frz n σ') X/\IY X (frz n σ) ns:=by
 unfold frz;split
 .exact⟨c,ha⟩
 have core:∀(e:Ty) (xs:List e.den),SS ⟨Db n e xs σ.env,BB n e xs (del n σ.objs)⟩ ⟨Db n e xs σ'.env,BB n e xs (del n σ'.objs)⟩ X/\IY X ⟨Db n e xs σ.env,BB n e xs (del n σ.objs)⟩ ns:=by
  intro e xs;refine⟨⟨λs=>?_,λm=>?_⟩,ha.env,ha.arr,λm o b=>?_,ha.nm⟩
  .simp only[NZ,c.env];cases a:lk s X.env with
   | none=>rfl
   | some v=>simp[XA hn v (ha.env s v a)]
  .simp only[Ck,Sa];by_cases b:m=n
   .subst b;cases a:lk m X.objs with
    | none=>simp
    | some o=>exact absurd hn (ha.nm m o a)
   simp only[An b,c.objs];cases a:lk m X.objs with
   | none=>rfl
   | some o=>exact bY some (A13 (ha.arr m o a))
  simp only[Ck,Sa];split
  .rfl
  rw[ha.new m o b];rfl
 rw[c.lkn ha hn];unfold nV;grind
theorem XI:∀ {l:List Nat} {σ σ':St},SS σ σ' X->IY X σ ns->(∀n∈l,n∈ns)->SS (DK l σ) (DK l σ') X/\IY X (DK l σ) ns
 | [],_,_,a,ha,_=>⟨a,ha⟩
 | n :: l,σ,σ',a,ha,h=>by
  obtain⟨h1,b⟩:=A7e a ha (h n (by simp));have:=XI (l:=l) h1 b λm c=>h m (by simp[c]);exact this
def A16 (σ σ':St) (xs:List Operand):Prop:=∀x∈xs,Ap σ' x=Ap σ x
theorem eE (b:SS σ σ' X) {xs:List Operand} (h:∀t∈xs.filterMap Qv,lk t X.env=none):A16 σ σ' xs:=by
 intro x a;cases x with
 | tmp t =>
  simp only[Ap,b.env];rw[h t (AG8.2 ⟨_,a,rfl⟩)];rfl
 | const v=>rfl
 | global g=>rfl
 | func f=>rfl
theorem Ml:∀ {l:List (Nat×Operand)},A16 σ σ' (l.map (·.2))->Dd σ' l=Dd σ l
 | [],_=>rfl
 | (i,x) :: r,h=>by
  simp only[Dd];rw[h x (by simp),Ml (λy a=>h y (by simp only[QM,DO];exact .inr a))]
theorem Q4:∀ {l:List (Nat×Operand)},A16 σ σ' (l.map (·.2))->FZ σ' l=FZ σ l
 | [],_=>rfl
 | (i,x) :: r,h=>by
  simp only[FZ];rw[h x (by simp),Q4 (λy a=>h y (by simp only[QM,DO];exact .inr a))]
theorem oY (b:SS σ σ' X) (ha:IY X σ ns) (n:Nat):Cv (lk n σ'.objs)=Cv (lk n σ.objs):=by
 rw[b.objs];cases a:lk n X.objs with
 | none=>rfl
 | some o =>
  rw[ha.new n o a];have:=ha.arr n o a;cases o<;>first|rfl|cases this
theorem jP (a:SS σ σ' X) (ha:IY X σ ns) {op:Op} (h:A16 σ σ' op.operands.toList):DS σ' op=DS σ op:=by
 cases op<;>simp only[DS];case buildSlice t n parts =>
  exact Ml (λx a=>h x (by simpa[Op.operands] using a))
 case build t parts =>
  exact Q4 (λx a=>h x (by simpa[Op.operands] using a))
 case store t x y =>
  rw[h x (by simp[Op.operands]),h y (by simp[Op.operands])];unfold Cj;split
  .rw[oY a ha]
  rfl
 case mapUpdate t m x y =>
  rw[h m (by simp[Op.operands]),h x (by simp[Op.operands]),h y (by simp[Op.operands])]
def KP (σ:St):Option AV->Option AV->List Nat
 | some (.sr n _ _ _),some (.sr m _ _ _)=>if Cv (lk n σ.objs)=true then [n,m] else [n]
 | some (.sr n _ _ _),_=>[n]
 | some (.nin n _ _ _),_=>[n]
 | some (.raw _),some (.sr m _ _ _)=>if Cv (lk m σ.objs)=true then [m] else []
 | _,_=>[]
def jQ (σ:St):Option AV->Option AV->List Nat
 | some (.ep n _ _ _ _),some (.sr m _ _ _)=>if Cv (lk n σ.objs)=true then [n,m] else []
 | _,_=>[]
def eF (σ:St):Op->List Nat
 | .call c=>match c.callee,c.args.toList with
  | .builtin .append,[x,y]=>KP σ (Ap σ x) (Ap σ y)
  | _,_=>[]
 | .store _ x y=>jQ σ (Ap σ x) (Ap σ y)
 | _=>[]
theorem A3O {n:Nat} {e:Ty} {lo hi:Nat} {v:AV}:n∈KP σ (some (.sr n e lo hi)) (some v):=by
 cases v<;>first|(simp[KP];done)|(simp only[KP];split<;>simp)
theorem tP (f:SS σ σ' X) (ha:IY X σ ns) {tl:List Nat} (e:∀n,n∈tl->n∈ns) {d b:Nat} {v:AV} {g:Obj} (i:lk d X.env=none) (j:lk b X.objs=none) :
  SS ⟨(d,v) :: CX tl σ.env,(b,g) :: A1 tl tl σ.objs⟩ ⟨(d,v) :: CX tl σ'.env,(b,g) :: A1 tl tl σ'.objs⟩ X:=by
 refine⟨λs=>?_,λm=>?_⟩
 .simp only[lk];by_cases hs:s=d
  .grind
  rw[An hs,An hs,E8,E8,f.env];cases a:lk s X.env with
  | none=>rfl
  | some w=>simp[XC e w (ha.env s w a)]
 simp only[lk];by_cases c:m=b
 .grind
 rw[An c,An c,CF,CF,f.objs];cases a:lk m X.objs with
 | none=>rfl
 | some w =>
  rw[An λh=>ha.nm m w a (e _ ((Ao _ _).1 h))];exact bY some (Z5 (ha.arr m w a))
theorem tQ (c:SS σ σ' X) (ha:IY X σ ns) {n:Nat} {tl:List Nat} (hn:n∈ns) (b:∀n,n∈tl->n∈ns) {en:List (Nat×AV)} {new:List (Nat×Obj)} (d:∀s v,lk s en=some v->lk s X.env=none) (f:∀m o,lk m new=some o->lk m X.objs=none) :
  SS ⟨en++FN n tl σ.env,new++DR n tl σ.objs⟩ ⟨en++FN n tl σ'.env,new++DR n tl σ'.objs⟩ X:=by
 refine⟨λs=>?_,λm=>?_⟩
 .simp only[BC];cases hs:lk s en with
  | some v=>rw[d s v hs];rfl
  | none =>
   rw[H6,H6,c.env];cases a:lk s X.env with
   | none=>rfl
   | some w=>simp[XD hn b w (ha.env s w a)]
 simp only[BC];cases e:lk m new with
 | some o=>rw[f m o e];rfl
 | none =>
  rw[Ew,Ew,c.objs];cases a:lk m X.objs with
  | none=>rfl
  | some w =>
   rw[An λh=>ha.nm m w a (by
    rcases DO.1 ((Ao _ _).1 h) with rfl|h
    .exact hn
    exact b _ h)]
   exact bY some (A15 (ha.arr m w a))
theorem eG {n:Nat} {o d:Obj} (c:SS σ σ' X) (ha:IY X σ ns) (hn:lk n σ.objs=some o) {env b:List (Nat×AV)} (f:∀s,lk s b=(lk s X.env).or (lk s env)):SS ⟨env,upd n d σ.objs⟩ ⟨b,upd n d σ'.objs⟩ X:=by
 refine⟨f,λm=>?_⟩;simp only[Gn];have e:lk n X.objs=none:=by
  cases h:lk n X.objs with
  | none=>rfl
  | some u=>rw[ha.new n u h]at hn;cases hn
 by_cases a:m=n
 .subst a;rw[BY rfl,BY rfl,c.objs,e];rfl
 rw[An a,An a,c.objs]
theorem SS.some_lk (a:SS σ σ' X) (ha:IY X σ ns) {n:Nat} {o:Obj} (h:lk n σ.objs=some o):lk n σ'.objs=some o:=a.obs ha n o h
theorem A17 {tb:Tb} {op:Op} {d:Option Nat} {vc:Prop} {τ:St} (a:SS σ σ' X) (ha:IY X σ ns) (K:A16 σ σ' op.operands.toList) (A:∀n∈eF σ op,n∈ns) (U:∀t,d=some t->lk t X.env=none) (T:∀n,(∃u,lk n τ.objs=some u)->lk n X.objs=none) (h:Hl tb σ d op=some (vc,τ)) :
  (∃ak,Hl tb σ' d op=some (vc,ak)/\SS τ ak X)/\∀k,aq tb σ' k op=none:=by
 have R:=a.obs ha;cases op<;>simp only[Hl]at h<;>try(cases h;done)
 case store t x y =>
  refine⟨?_,λ_=>rfl⟩;simp only[Hl];have A:∀n∈jQ σ (Ap σ x) (Ap σ y),n∈ns:=A;rw[K x (by simp[Op.operands]),K y (by simp[Op.operands])];cases d with
  | some d=>simp[EA]at h
  | none =>
   simp only[EA]at h ⊢;generalize Ap σ x=al at h A ⊢;generalize Ap σ y=am at h A ⊢;unfold II at h ⊢;split at h
   .rename_i ti n aw off v Z;try simp only
    unfold Dp at h ⊢;split at h
    .rename_i et st fs f;rw[a.some_lk ha f];try simp only
     unfold FX at h ⊢;split at h
     .rename_i u az h1 G;try rw[h1,G]
      try simp only
      split at h
      .rename_i B;rw[BY B];cases h;exact⟨_,rfl,eG a ha f a.env⟩
      cases h
     cases h
    cases h
   .rename_i ti n e i aw off v Z;try simp only
    unfold Dq at h ⊢;split at h
    .rename_i et ae xs f;rw[a.some_lk ha f];try simp only
     cases aa:Lp false σ ti.ty v with
     | none=>rw[aa]at h;unfold Er at h;split at h<;>first|(cases h;done)|(rename_i G;cases G)
     | some w =>
      rw[Fd R aa];rw[aa]at h;unfold Er at h ⊢;split at h
      .rename_i ys w' h1 G;cases G;try rw[h1]
       try simp only
       unfold GI at h ⊢;split at h
       .rename_i z P;try rw[P]
        try simp only
        split at h
        .rename_i B;rw[BY B];cases h;exact⟨_,rfl,eG a ha f a.env⟩
        cases h
       cases h
      cases h
    .rename_i et ad k F xs j f;rw[a.some_lk ha f];try simp only
     split at h
     .rename_i m E hi;try simp only
      split at h
      .rename_i B;rw[BY B];unfold MR at h ⊢;split at h
       .rename_i J;rw[BY J];unfold MP at h ⊢;split at h
        .rename_i bb af ys D;rw[a.some_lk ha D];try simp only
         split at h
         .rename_i ap;rw[BY ap];unfold K0 at h ⊢;split at h
          .rename_i aj ab;try rw[ab]
           try simp only
           cases h;have ai:∀q,q∈[n,m]->q∈ns:=λq c=>A q (by simp only[jQ,f,Cv,ZD];exact c);refine⟨_,rfl,tQ (en:=[]) (new:=[(n,_)]) a ha (ai n (by simp)) (λq c=>ai q (by simp at c;simp[c])) (λs v h=>by cases h) (λq o c=>T q ⟨o,?_⟩)⟩;simp only[lk]at c ⊢;split at c
           .rename_i F;cases c;rw[BY F]
           cases c
          cases h
         cases h
        cases h
       cases h
      cases h
     cases h
    cases h
   cases h
 case mapUpdate t m x y =>
  refine⟨?_,λ_=>rfl⟩;simp only[Hl];rw[K m (by simp[Op.operands]),K x (by simp[Op.operands]),K y (by simp[Op.operands])];cases d with
  | some d=>simp[EA]at h
  | none =>
   simp only[EA]at h ⊢;generalize Ap σ m=ax at h ⊢;generalize Ap σ x=al at h ⊢;generalize Ap σ y=am at h ⊢;unfold LB at h ⊢;split at h
   .try simp only
    unfold GJ at h ⊢;split at h
    .rename_i bf bh l f;rw[a.some_lk ha f];try simp only
     split at h
     .rename_i B;rw[BY B];unfold HA at h ⊢;split at h
      .rename_i bd v1 h1 G;rw[Fd R h1,Fd R G];try simp only
       split at h
       .rename_i J;rw[BY J];cases h;exact⟨_,rfl,eG a ha f a.env⟩
       cases h
      cases h
     cases h
    cases h
   cases h
 case call cl =>
  obtain⟨callee,⟨args⟩,⟨argTypes⟩⟩:=cl;cases callee with
  | value g=>simp[D9]at h
  | invoke r m=>simp[D9]at h
  | builtin b =>
   simp only[D9]at h;unfold Et at h;split at h
   .rename_i x y t u;have O:Ap σ' x=Ap σ x:=K x (by simp[Op.operands,Call.operands]);have S:Ap σ' y=Ap σ y:=K y (by simp[Op.operands,Call.operands]);have A:∀n∈KP σ (Ap σ x) (Ap σ y),n∈ns:=λn hn=>A n (by simpa[eF] using hn);unfold Ef at h;split at h
    .rename_i n e hi v C I;rw[C,I]at A;refine⟨?_,λk=>by simp[aq,D8,Eq,Dn,O,C]⟩;simp only[Hl,D9,Et,Ef,O,C,S,I];split at h
     .rename_i p ;have L:=U p rfl;have M:n∈ns:=A n A3O;try simp only
      split at h
      .rename_i N;rw[BY N];unfold Es at h ⊢;split at h
       .rename_i af av el b2 Y;try rw[Y]
        try simp only
        split at h
        .rename_i W;rw[BY W];unfold Cl at h ⊢;split at h
         .rename_i ti et ae xs h1 f;try rw[h1]
          try rw[a.some_lk ha f]
          try simp only
          split at h
          .rename_i ar;rw[BY ar];unfold FY at h ⊢;split at h
           .rename_i aj ys G P;try rw[G]
            rw[Qt R P];try simp only
            cases h;refine⟨_,rfl,⟨λs=>?_,λm=>?_⟩⟩
            .simp only[lk];by_cases hs:s=p
             .subst hs;rw[BY rfl,BY rfl,L];rfl
             rw[An hs,An hs,KE,KE,a.env];cases H:lk s X.env with
             | none=>rfl
             | some w=>simp[XB M w (ha.env s w H)]
            simp only[Gn,Bx];have ao:lk n X.objs=none:=by
             cases H:lk n X.objs with
             | none=>rfl
             | some w=>exact absurd M (ha.nm n w H)
            by_cases D:m=n
            .subst D;rw[BY rfl,BY rfl,a.objs,ao];rfl
            rw[An D,An D,a.objs];cases H:lk m X.objs with
            | none=>rfl
            | some w=>exact bY some (A14 (ha.arr m w H))
           cases h
          cases h
         .rename_i ti et ad k ae xs h1 f;try rw[h1]
          try rw[a.some_lk ha f]
          try simp only
          split at h
          .rename_i B;rw[BY B];unfold Tp at h ⊢;split at h
           .rename_i m E au;try simp only
            unfold MQ at h ⊢;split at h
            .rename_i an ba be ay ys D;rw[a.some_lk ha D];try simp only
             split at h
             .rename_i J;rw[BY J];unfold LA at h ⊢;split at h
              .rename_i aj ab;try rw[ab]
               try simp only
               cases h;refine⟨_,rfl,tP a ha (λq c=>A q (by simp only[KP,f,Cv,ZD];exact c)) L ?_⟩;cases H:lk n X.objs with
               | none=>rfl
               | some w=>exact absurd M (ha.nm n w H)
              cases h
             cases h
            cases h
           cases h
          cases h
         cases h
        cases h
       cases h
      cases h
     cases h
    .rename_i n e i len v C I;rw[C,I]at A;refine⟨?_,λk=>by simp[aq,D8,Eq,Dn,O,C]⟩;simp only[Hl,D9,Et,Ef,O,C,S,I];split at h
     .rename_i p ;have L:=U p rfl;have M:n∈ns:=A n (by simp[KP]);try simp only
      split at h
      .rename_i N;rw[BY N];unfold QZ at h ⊢;split at h
       .rename_i af av el b2 Y;try rw[Y]
        try simp only
        split at h
        .rename_i W;rw[BY W];unfold Tn at h ⊢;split at h
         .rename_i ti et ad k F xs h1 f;try rw[h1]
          try rw[a.some_lk ha f]
          try simp only
          split at h
          .rename_i B;rw[BY B];unfold OV at h ⊢;split at h
           .rename_i ys P;rw[Qt R P];try simp only
            split at h
            .rename_i ag;have Q:lk p X.objs=none:=by
              refine T p ?_;cases h;exact⟨_,by simp only[lk,ZD];rfl⟩
             have V:(lk p σ'.objs).isNone=true/\ys.isEmpty=false:=⟨by rw[a.objs,Q];exact ag.1,ag.2⟩;rw[BY V];cases h;refine⟨_,rfl,tQ (en:=[(p,_)]) (new:=[(p,_),(n,_)]) a ha M (λq c=>by cases c) (λs v h=>?_) (λq o c=>?_)⟩
             .simp only[lk]at h;split at h
              .rename_i F;rw[F];exact L
              cases h
             simp only[lk]at c;split at c
             .rename_i F;rw[F];exact Q
             split at c
             .rename_i F;rw[F];cases H:lk n X.objs with
              | none=>rfl
              | some w=>exact absurd M (ha.nm n w H)
             cases c
            cases h
           cases h
          cases h
         cases h
        cases h
       cases h
      cases h
     cases h
    .rename_i v C I;rw[C,I]at A;split at h
     .rename_i p ;have L:=U p rfl;split at h
      .rename_i N;unfold dB at h;split at h
       .rename_i m E au bg offs el b Z;unfold Qb at h;split at h
        .rename_i ti an ad k e ys h1 D;split at h
         .rename_i B;unfold Qa at h;split at h
          .rename_i J;have Q:lk p X.objs=none:=by
            refine T p ?_;cases h;exact⟨_,by simp only[lk,ZD];rfl⟩
           have V:(lk p σ'.objs).isNone=true:=by rw[a.objs,Q];exact J.1
           have ah:=a.some_lk ha D;refine⟨?_,λbc=>by simp[aq,D8,Eq,Dn,O,C,S,I,N,Ep,QT,ah,Cv];split<;>simp[FW]⟩;cases h;simp only[Hl,D9,Et,Ef,O,C,S,I,dB,Qb,Qa];rw[BY N,Z];simp only;rw[ah,h1];simp only;rw[BY B,BY ⟨V,J.2⟩];exact⟨_,rfl,tP a ha (λq c=>A q (by simp only[KP,D,Cv,ZD];exact c)) L Q⟩
          cases h
         cases h
        cases h
       cases h
      cases h
     cases h
    cases h
   cases h
end
end
section
open Go Go.RowKit
def A3P (o:Obj):Bool:=Mk o
def PO (o:Oper):EN->Bool
 | []=>true
 | (d,_,_) :: r=>!Ad d (He o.op)&&!Ad d o.dst.toList&&PO o r
def Vq (ns:List Nat) (σ:List (Nat×Obj)):List (Nat×Obj)->Bool
 | []=>true
 | (n,o) :: r=>(lk n σ).isNone&&!Ad n ns&&A3P o&&Vq ns σ r
def Mm (ns:List Nat) (σ:List (Nat×Obj)):EN->Bool
 | []=>true
 | (_,_,obs) :: r=>Vq ns σ obs&&Mm ns σ r
def eH (τ:List (Nat×Obj)):List (Nat×Obj)->Bool
 | []=>true
 | (n,_) :: r=>(lk n τ).isNone&&eH τ r
def XJ (τ:List (Nat×Obj)):EN->Bool
 | []=>true
 | (_,_,obs) :: r=>eH τ obs&&XJ τ r
def KQ (ns:List Nat):EN->EN
 | []=>[]
 | (d,v,obs) :: r=>(d,v.fgt ns,obs) :: KQ ns r
def tn (σ:St) (o:Op):List Nat:=DS σ o++eF (DK (DS σ o) σ) o
theorem HN {o:Oper}:∀ {ens:EN},PO o ens=true->∀e∈ens,e.1∉He o.op/\o.dst≠some e.1
 | [],_,e,a=>by cases a
 | (d,v,obs) :: r,h,e,a=>by
  simp only[PO,AT,Px]at h;rcases DO.1 a with rfl|a
  .grind [Ao,Ad]
  exact HN h.2 e a
theorem Q5 {ns:List Nat} {σ:List (Nat×Obj)}:∀ {l:List (Nat×Obj)},Vq ns σ l=true->∀p∈l,lk p.1 σ=none/\p.1∉ns/\A3P p.2=true
 | [],_,e,a=>by cases a
 | (n,o) :: r,h,p,hp=>by
  simp only[Vq,AT,Px,VY]at h;rcases DO.1 hp with rfl|hp
  .grind [Ao]
  exact Q5 h.2 p hp
theorem HO {ns:List Nat} {σ:List (Nat×Obj)}:∀ {ens:EN},Mm ns σ ens=true->∀e∈ens,∀p∈e.2.2,lk p.1 σ=none/\p.1∉ns/\A3P p.2=true
 | [],_,e,a=>by cases a
 | (d,v,obs) :: r,h,e,a=>by
  simp only[Mm,AT]at h;rcases DO.1 a with rfl|a
  .exact Q5 h.1
  exact HO h.2 e a
theorem UN {τ:List (Nat×Obj)}:∀ {l:List (Nat×Obj)},eH τ l=true->∀p∈l,lk p.1 τ=none
 | [],_,e,a=>by cases a
 | (n,o) :: r,h,p,hp=>by
  simp only[eH,AT,VY]at h;rcases DO.1 hp with rfl|hp
  .exact h.1
  exact UN h.2 p hp
theorem PP {τ:List (Nat×Obj)}:∀ {ens:EN},XJ τ ens=true->∀e∈ens,∀p∈e.2.2,lk p.1 τ=none
 | [],_,e,a=>by cases a
 | (d,v,obs) :: r,h,e,a=>by
  simp only[XJ,AT]at h;rcases DO.1 a with rfl|a
  .exact UN h.1
  exact PP h.2 e a
theorem PQ {ns:List Nat}:∀ {ens:EN},KQ ns ens=ens->∀e∈ens,e.2.1.fgt ns=e.2.1
 | [],_,e,a=>by cases a
 | (d,v,obs) :: r,h,e,a=>by
  simp only[KQ,AF9,AGg,and_true,true_and]at h;rcases DO.1 a with rfl|a
  .exact h.1
  exact PQ h.2 e a
section
variable {c:Cx} {o:Oper} {σ:St} {ens:EN} {N:St->Prop}
theorem A3Q {X:St} {ns:List Nat} (b:XIn ens X) (hn:Mm ns σ.objs ens=true) (hf:KQ ns ens=ens):IY X σ ns:=by
 refine⟨λs v hs=>?_,λn o a=>?_,λn o a=>?_,λn o a=>?_⟩
 .obtain⟨obs,d⟩:=b.env s v hs;exact PQ hf _ d
 all_goals
  obtain⟨e,c,hp⟩:=b.objs n o a;have:=HO hn e c _ hp
 .exact this.2.2
 .exact this.1
 exact this.2.1
theorem A18 (ab:c.Ok) {τ:St} {vc:Prop} (ns:List Nat) (h:JJ c.tb o σ=some (vc,τ)) (U:tn σ o.op=ns) (L:PO o ens=true) (hn:Mm ns σ.objs ens=true) (S:XJ τ.objs ens=true) (hf:KQ ns ens=ens) (ad:KF c.nt o=true) (ae:vc) (aa:N τ):oU c o σ ens N:=by
 subst U;intro X σ' j k a w next Q hs hk
 have ha:=A3Q k hn hf;have F:∀t∈He o.op,lk t X.env=none:=λt A=>by
  cases g:lk t X.env with
  | none=>rfl
  | some v=>obtain⟨obs,f⟩:=k.env t v g;exact absurd A (HN L _ f).1
 have D:∀t,o.dst=some t->lk t X.env=none:=λt A=>by
  cases g:lk t X.env with
  | none=>rfl
  | some v=>obtain⟨obs,f⟩:=k.env t v g;exact absurd A (HN L _ f).2
 have G:∀n,(∃u,lk n τ.objs=some u)->lk n X.objs=none:=λn hu=>by
  cases g:lk n X.objs with
  | none=>rfl
  | some v =>
   obtain⟨e,R,hp⟩:=k.objs n v g;obtain⟨u,hu⟩:=hu;rw[PP S e R _ hp]at hu;cases hu
 have Y:=jP j ha (op:=o.op) (eE j F);obtain⟨b,y⟩:=XI (l:=DS σ o.op) j ha (λm f=>by simp[tn,f]);have key:∃q,JJ c.tb o σ'=some (vc,q)/\SS τ q X:=by
  have H:∀n∈eF (DK (DS σ o.op) σ) o.op,n∈tn σ o.op:=λm f=>by simp[tn,f]
  unfold JJ Tq at h ⊢;rw[Y];generalize DK (DS σ o.op) σ=B at h b y H;generalize DK (DS σ o.op) σ'=C at b;have K:=eE b F;cases z:aq c.tb B (o.dst.getD 0) o.op with
  | some r =>
   obtain⟨af,v,obs⟩:=r;rw[z]at h;have W:=Vm (b.obs y) (λx j v Z=>by rw[K x j];exact Z) z;rw[W];simp only[OW]at h ⊢;split at h
   .rename_i I;cases h;have J:∀n,lk n (B.add v obs o.dst).objs=(lk n obs).or (lk n B.objs):=λn=>by cases o.dst<;>simp only[St.add,BC]
    have V:∀n,lk n (C.add v obs o.dst).objs=(lk n obs).or (lk n C.objs):=λn=>by cases o.dst<;>simp only[St.add,BC]
    have E:∀n u,lk n obs=some u->lk n X.objs=none:=λn u hu=>G n ⟨u,by rw[J,hu];rfl⟩;have T:Bl obs C=true:=by
     simp only[Bl,If,VY]at I ⊢;intro p hp;obtain⟨u,hu⟩:=Nm hp;rw[b.objs,E _ u hu,I p hp];rfl
    rw[BY T];refine⟨_,rfl,λs=>?_,λn=>?_⟩
    .cases P:o.dst with
     | none=>simp only[St.add];exact b.env s
     | some d =>
      simp only[St.add,lk];by_cases i:s=d
      .rw[BY i,BY i,i,D d P];rfl
      rw[An i,An i];exact b.env s
    rw[J,V,b.objs];cases hu:lk n obs with
    | none=>rfl
    | some u=>rw[E n u hu];rfl
   cases h
  | none =>
   rw[z]at h;simp only[OW]at h;obtain⟨⟨q,h1,M⟩,O⟩:=A17 b y K H D G h;rw[O];simp only[OW];exact⟨q,h1,M⟩
 grind [Wl,CP]
theorem jR {σ σ':St}:∀ {xs:List Operand},A16 σ σ' xs->Iz σ' xs=Iz σ xs
 | [],_=>rfl
 | x :: r,h=>by
  simp only[Iz];rw[h x (by simp),jR (λy a=>h y (by simp[a]))]
theorem eI {σ σ':St} (h:iD σ σ') {ren:List (Nat×B7)} {x y:AV} (a:HL σ ren x y):HL σ' ren x y:=by
 cases y<;>first|exact a|exact Fd h a
theorem Ob {σ σ':St} (h:iD σ σ') {ren:List (Nat×B7)}:∀ {l r:List AV},BS σ ren l r->BS σ' ren l r
 | [],[],_=>trivial
 | [],_ :: _,a=>a.elim
 | _ :: _,[],a=>a.elim
 | _ :: _,_ :: _,a=>⟨eI h a.1,Ob h a.2⟩
theorem Oc {l l':List (Nat×Obj)} (h:∀n o,lk n l=some o->lk n l'=some o) {ren:List (Nat×B7)}:∀ {r:List (Nat×Obj)},Ag l ren r->Ag l' ren r
 | [],_=>trivial
 | (m,o) :: r,a=>by
  refine⟨?_,Oc h a.2⟩;have h1:=a.1;cases hf:lk m ren with
  | none=>rw[hf]at h1;exact h1.elim
  | some f =>
   rw[hf]at h1;cases f with
   | nil=>exact h1
   | nm n =>
    simp only[Gr]at h1 ⊢;cases hn:lk n l with
    | none=>rw[hn]at h1;simp only[IQ]at h1
    | some x=>rw[h n x hn,<-hn];exact h1
theorem A19 (af:c.Ok) {dst:Option Nat} {g:Operand} {xs:List Operand} {ts:Array TypeId} {ty:TypeId} {pos:String} {after:Array Edge}
  {f:FuncId} {D:List Nat} (aj:DV (Ap σ g)=some (f,D)) {as:List AV} (ae:Iz σ xs=some as)
  {A:List AV} {objs:List (Nat×Obj)} {stay:List Nat} {post:AV->List (Nat×Obj)->Prop} (aa:BK c.P f A objs stay post)
  (ren:List (Nat×B7)) (hs:List Nat) (h1:CG ren=true) (V:CY objs ren=true) (am:(c.ds.pin.all λp=>!Ad p.1 hs)=true)
  (I:PO ⟨dst,.call ⟨.value g,xs.toArray,ts⟩,ty,pos,after,none⟩ ens=true) (hn:Mm (Aj ren) σ.objs ens=true) (hf:KQ hs ens=ens) (ag:KF c.nt ⟨dst,.call ⟨.value g,xs.toArray,ts⟩,ty,pos,after,none⟩=true)
  (Z:BS σ ren (as++D.map λn=>AV.bp n [] 0) A) (ab:Ag σ.objs ren objs)
  (hk:∀res r,post res r->∃(l:List (Nat×B7)) (x:AV) (i:List (Nat×Obj)),CG l=true/\CY i l=true/\Ag r l i/\Bv l res x /\
   JR ren l stay hs=true/\Fl (Aj ren) i σ.objs=true/\XJ i ens=true/\N (CZ σ (Aj ren) hs dst x i)) :
  oU c ⟨dst,.call ⟨.value g,xs.toArray,ts⟩,ty,pos,after,none⟩ σ ens N:=by
 intro X σ' q k a w next Q ao al
 have ah:∀s v,lk s X.env=some v->v.fgt hs=v:=λs v hs=>by
  obtain⟨obs,m⟩:=k.env s v hs;exact PQ hf _ m
 have G:iD σ σ':=by
  intro n o z;rw[q.objs];cases b:lk n X.objs with
  | none=>exact z
  | some aq =>
   obtain⟨e,j,hp⟩:=k.objs n aq b;rw[(HO hn e j _ hp).1]at z;cases z
 have ak:∀n o,lk n X.objs=some o->n∉Aj ren:=λn o B=>by
  obtain⟨e,j,hp⟩:=k.objs n o B;exact(HO hn e j _ hp).2.1
 have ad:∀t∈(g :: xs).filterMap Qv,lk t X.env=none:=λt C=>by
  cases b:lk t X.env with
  | none=>rfl
  | some v =>
   obtain⟨obs,m⟩:=k.env t v b;refine absurd ?_ (HN I _ m).1;simpa[He,Op.operands,Call.operands] using C
 have ar:∀t,dst=some t->lk t X.env=none:=λt C=>by
  cases b:lk t X.env with
  | none=>rfl
  | some v=>obtain⟨obs,m⟩:=k.env t v b;exact absurd C (HN I _ m).2
 have H:=eE q ad;refine d9 af (xs:=xs) (ts:=ts) rfl rfl (by rw[H g (by simp)];exact aj) (by rw[jR (λy ap=>H y (by simp[ap]))];exact ae) aa ren h1 V (Ob G Z) (Oc G ab) hs am ao (CP ag) λres r hp=>?_;obtain⟨l,x,i,L,M,O,R,S,E,T,U⟩:=hk res r hp;have F:∀n o,lk n X.objs=some o->lk n i=none:=λn o B=>by
  obtain⟨e,j,hp⟩:=k.objs n o B;exact PP T e j _ hp
 refine⟨l,x,i,L,M,O,R,S,?_,λK w' an=>al _ U K w' _ ⟨λs=>?_,λn=>?_⟩ an⟩
 .simp only[Fl,If,QO,VY]at E ⊢;intro p hp;rcases E p hp with h|h
  .exact .inl h
  right;rw[q.objs,h];cases b:lk p.1 X.objs with
  | none=>rfl
  | some u =>
   obtain⟨av,J⟩:=Nm hp;rw[F _ u b]at J;cases J
 .have ai:lk s (CX hs σ'.env)=(lk s X.env).or (lk s (CX hs σ.env)):=by
   rw[E8,E8,q.env];cases b:lk s X.env with
   | none=>rfl
   | some v=>simp[ah s v b]
  simp only[CZ];cases dst with
  | none=>exact ai
  | some d =>
   simp only[LO,lk];by_cases au:s=d
   .grind
   grind
 simp only[CZ,BC,CF,q.objs];cases b:lk n X.objs with
 | none=>simp
 | some u =>
  have Y:Mk u=true:=by
   obtain⟨e,j,hp⟩:=k.objs n u b;exact(HO hn e j _ hp).2.2
  have W:¬Ad n (Aj ren)=true:=λh=>ak n _ b ((Ao _ _).1 h);rw[F n _ b,An W];exact bY some (Z5 Y)
end
section
variable {c:Cx} {ops:List Oper} {Kf:St->Prop} {τ:St} {ens:EN} {vc:Prop}
theorem A3R {D:List Nat} (h:oT c.tb ops τ.objs D [] τ.env=some (vc,ens)) (b:vc) (a:Sn ens τ.objs=true) (hk:Kf (Mi ens τ)):Mix c ops Kf [] D ens τ:=⟨⟨vc,h,b,a⟩,hk⟩
theorem A3S {A D:List Nat} {l:Nat} {b:List (List Nat×Nat)} {o:Oper} {d:St} {a:EN} (h:oT c.tb ops τ.objs (A++qs b D) [] τ.env=some (vc,ens)) (j:vc) (g:Sn ens τ.objs=true) (i:ops[l]?=some o) (k:Mi (ens.take A.length) τ=d) (f:ens.drop A.length=a)
  (e:oU c o d a (λm=>Mix c ops Kf b D a m)):Mix c ops Kf ((A,l) :: b) D ens τ:=by
 subst k f;exact⟨⟨vc,h,j,g⟩,o,i,e⟩
end
end
section
open Go
attribute [local go_sem] i9 AM List.toList_toArray B1 evG evK ZN E7 LC HK GM JJ Tq OW DS Dd NS Cj DK frz nV HE Db BB GE Bj AV.frz AV.frzs AV.drp AV.drps AV.names AV.namess aq HG Lq Kt Uu Jl Bk Bt KA El JB Em JD JC JE WV QV Hd Kv GG Ee WW SV qUn KB JF MM Fk D7 Jo Kw Eo Uv Dn Ep FW SW JG OU Fv OT QW SX MN Jp Kx Eq D8 Hl EA II Dp FX Dq Er GI Cj Cv QT SU Ow G9 Jn Jm Ku QZ Tn OV MR MP K0 Tp MQ LA dB Qb Qa AV.trn AV.trns FN DR Obj.trn KP jQ D9 Et Ef Es Cl FY Ap lk Hr HF ID bin nU ZQ nX Tl zf1 zfs pfs AV.cells CO J8 QU Kz QY Cf OP Ty.cell1 JA FO D6 Ge Lp FM Ks ML SR Fu Hc OI Us WU MK Kq c9 iH Tk OQ DJ J9 RV.flat Ty.flat Ty.size St.add upd del Bl Value.oneCell' MC Ty.dflt I9 Qs IR Q2 List.take_succ_cons List.take_zero List.length_cons jH jI Q1 KM Mf H7 KN A3t GN Nf Ng Nh Ni Sh Si Nj JO Wm Option.map_some Option.map_none Option.bind_some Option.getD_some Option.getD_none Option.isNone_none Option.isNone_some Bool.and_true Bool.true_and Bool.and_false Bool.false_and Bool.not_true Bool.not_false if_true if_false List.length_cons List.length_nil and_true true_and and_self List.all_cons List.all_nil List.append_nil List.nil_append List.cons_append List.getElem?_cons_zero List.getElem?_cons_succ List.getElem?_nil List.map_cons List.map_nil List.set_cons_zero List.set_cons_succ List.isEmpty_nil List.isEmpty_cons decide_true decide_false beq_self_eq_true bne_self_eq_false Nat.zero_add Nat.add_zero Nat.sub_zero Int.toNat_natCast Int.toNat_zero Int.toNat_one List.take_length List.length_append List.length_singleton true_or or_true or_self false_or or_false Ty.agg.injEq Ty.slice.injEq Ty.prod.injEq Ty.int.injEq Option.some.injEq beq_iff_eq Lx evMG evMQ opM IU Mc B9 KK He Qv KI IT JP LK Lw PI Oa PJ Uy Md Qw Qx KJ Ad Al Op.operands Call.operands List.filterMap_cons List.filterMap_nil List.append_eq Bool.cond_false_right Bool.cond_true_left cond_true cond_false implies_true decide_eq_true_eq beq_true beq_false Bool.or_true Bool.or_false Bool.true_or Bool.false_or Option.isSome_some Array.empty_append List.append_toArray GF NT FZ IE dA QX GH Gm Gl JH IG Ky MO ZR nW IC inB LB GJ HA KC Aq jJ List.drop_zero Df IV eB CZ LO CX AV.fgt AV.fgts Obj.fgt A1 Aj Ad DV Iz BS HL List.any_cons List.any_nil oT jK eC jL Mi Sn qs List.flatMap_cons List.flatMap_nil List.cons_append tn eF KQ List.take_succ_cons List.drop_succ_cons CG CY Ag Fc LJ Bv Fb EC IP JN Gr IQ
end
end Go.Proofs.YtapkhdkbkodbjaaGreat.Fw
