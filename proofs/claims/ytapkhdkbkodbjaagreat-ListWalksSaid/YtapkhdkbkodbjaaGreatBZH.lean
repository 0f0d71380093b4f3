/- Regions in which operations on memory float among quiet ones. -/
import Derived.Test.YtapkhdkbkodbjaaGreatBZG
set_option linter.unusedVariables false
set_option linter.unusedSimpArgs false
namespace Go.Proofs.YtapkhdkbkodbjaaGreat.Fw
section
open Go Go.RowKit
abbrev EN:=List (Nat×AV×List (Nat×Obj))
def iH (x:Option Oper) (f:Oper->Option (Prop×EN)):Option (Prop×EN) :=
 match x with
 | some o=>f o
 | none=>none
def c5 (d:Option Nat) (r:BV) (f:Nat->Prop->AV->List (Nat×Obj)->Option (Prop×EN)):Option (Prop×EN) :=
 match d,r with
 | some d,some (vc,v,obs)=>f d vc v obs
 | _,_=>none
def iI (d:Nat) (vc:Prop) (v:AV) (obs:List (Nat×Obj)) (r:Option (Prop×EN)):Option (Prop×EN) :=
 match r with
 | some (a,l)=>some (vc/\a,(d,v,obs) :: l)
 | none=>none
def nX (tb:Tb) (ops:List Oper) (base:List (Nat×Obj)):List Nat->List (Nat×List (Nat×Obj))->List (Nat×AV)->Option (Prop×EN)
 | [],_,_=>some (True,[])
 | i :: Q,E,env=>iH (ops[i]?) λo=>c5 o.dst (aq tb ⟨env,Ll false o.op base E⟩ (o.dst.getD 0) o.op) λd vc v obs=>iI d vc v obs (nX tb ops base Q (Jf d obs E) ((d,v) :: env))
def Ls:EN->St->St
 | [],σ=>σ
 | (d,v,obs) :: r,σ=>Ls r ⟨(d,v) :: σ.env,obs++σ.objs⟩
def Rd:EN->List (Nat×Obj)->Bool
 | [],_=>true
 | (_,_,obs) :: r,objs=>(obs.all λp=>(lk p.1 objs).isNone)&&Rd r (obs++objs)
def A9l (tb:Tb) (ops:List Oper) (Q:List Nat) (ens:EN) (τ:St):Prop:=∃vc:Prop,nX tb ops τ.objs Q [] τ.env=some (vc,ens)/\vc/\Rd ens τ.objs=true
def qs (a:List (List Nat×Nat)) (D:List Nat):List Nat:=(a.flatMap (·.1))++D
def qB1 (ops:List Oper) (anc:List (List Nat)) (L Q:List Nat):List Nat->List Nat->Bool
 | [],_=>true
 | i :: r,pre=>(match ops[i]? with
   | some o=>o.dst.isSome&&o.guard.isNone&&((Du o).all λe=>Aa e L||Aa e pre)&&((Gv o.op).all λt=>Q.all λj=>Am ops j != some t||(Aa j (anc.getD i [])&&Aa j pre))&&(pre.all λj=>Am ops j != o.dst)&&!Aa i L&&!Aa i pre
   | none=>false)&&qB1 ops anc L Q r (i :: pre)
def TZ (ops:List Oper) (anc:List (List Nat)) (p0:Nat):List Nat->List (List Nat×Nat)->List Nat->Bool
 | L,[],D=>qB1 ops anc L D D []&&((List.range p0).all λi=>Aa i L||Aa i D)&&decide (L.length+D.length=p0)&&decide (p0<=ops.length)&&(L.all λi=>decide (i<p0))&&(D.all λi=>decide (i<p0))&&((List.range ops.length).all λi=>decide (i<p0)||(List.range i).all λj=>Aa j (anc.getD i []))
 | L,(A,l) :: a,D=>qB1 ops anc L (A++qs a D) (A++qs a D) []&&(match ops[l]? with
   | some o=>o.guard.isNone&&((Du o).all λe=>Aa e L||Aa e A)&&(A.all λj=>Aa j (anc.getD l []))&&!Aa l L&&!Aa l (A++qs a D)
   | none=>false)&&(a.all λp=>Aa l (anc.getD p.2 []))&&TZ ops anc p0 (l :: (A++L)) a D
def A9m (ops:List Oper) (anc:List (List Nat)):Bool :=
 (List.range ops.length).all λi=>match ops[i]? with|some o=>((Du o).all λe=>decide (e<i))&&((anc.getD i []).all λj=>Aa j (Du o)||(Du o).any λe=>Aa j (anc.getD e []))|none=>false
structure RF (σ σ' X:St):Prop where
 env:∀s,lk s σ'.env=(lk s X.env).or (lk s σ.env)
 objs:∀n,lk n σ'.objs=(lk n X.objs).or (lk n σ.objs)
structure XIn (ens:EN) (X:St):Prop where
 env:∀s v,lk s X.env=some v->∃obs,(s,v,obs)∈ens
 objs:∀n o,lk n X.objs=some o->∃e∈ens,(n,o)∈e.2.2
def ZC (c:Cx) (o:Oper) (σ:St) (ens:EN) (N:St->Prop):Prop :=
 ∀(X σ':St),RF σ σ' X->XIn ens X->∀(a:Act) (w:World) (next:Act->World->Prop) (Q:Exit->Act->World->Prop),c.sat σ' a w ->
  (∀τ,N τ->∀(b:Act) (w':World) (d:St),RF τ d X->c.sat d b w'->next b w')->o.wpIn (FR c.r) 0 c.P a w next Q
def Mix (c:Cx) (ops:List Oper) (Kf:St->Prop):List (List Nat×Nat)->List Nat->EN->St->Prop
 | [],D,ens,τ=>A9l c.tb ops D ens τ/\Kf (Ls ens τ)
 | (A,l) :: a,D,ens,τ=>A9l c.tb ops (A++qs a D) ens τ/\∃o,ops[l]?=some o/\ZC c o (Ls (ens.take A.length) τ) (ens.drop A.length) (λb=>Mix c ops Kf a D (ens.drop A.length) b)
def OV (Q:List Nat) (ens:EN) (i:Nat):En :=
 match lk i (Q.zip ens) with
 | some (_,v,obs)=>⟨true,v,obs⟩
 | none=>⟨true,.top,[]⟩
section
variable {ops:List Oper} {en:Nat->En} {τ:St}
theorem Re:∀(l:List Nat),(Au ops en τ l).env=(Au ops en ⟨[],[]⟩ l).env++τ.env
 | []=>rfl
 | i :: r=>by
  simp only[Au];cases Am ops i with
  | none=>simp only[St.add];exact Re r
  | some d=>simp only[St.add,Yk];rw[Re r]
theorem nY (l:List Nat):(Au ops en τ l).objs=(Au ops en ⟨[],[]⟩ l).objs++τ.objs:=by
 rw[FN,FN];simp
theorem A2G (l:List Nat):RF τ (Au ops en τ l) (Au ops en ⟨[],[]⟩ l) :=
 ⟨λs=>by rw[Re,A3],λn=>by rw[nY,A3]⟩
structure Own (ops:List Oper) (en:Nat->En) (τ:St) (Q:List Nat):Prop where
 slot:∀i∈Q,∀j∈Q,∀s,Am ops i=some s->Am ops j=some s->i=j
 new:∀i∈Q,∀n o,lk n (en i).obs=some o->lk n τ.objs=none
 name:∀i∈Q,∀j∈Q,∀n o o',lk n (en i).obs=some o->lk n (en j).obs=some o'->i=j
theorem lkE {Q l:List Nat} (h:Own ops en τ Q) (c:∀i∈l,i∈Q) (s:Nat) (v:AV):lk s (Au ops en τ l).env=some v↔(∃i∈l,Am ops i=some s/\(en i).v=v)\/((∀i∈l,Am ops i≠some s)/\lk s τ.env=some v):=by
 rw[FO];cases hf:l.find? (λj=>Am ops j==some s) with
 | none =>
  have hn:∀i∈l,Am ops i≠some s:=λi hi=>by simpa using AE4.1 hf i hi
  constructor
  .grind
  grind
 | some j =>
  have b:=ADi hf;have a:Am ops j=some s:=by simpa using AEn hf
  constructor
  .grind
  rintro (⟨i,hi,d,rfl⟩|⟨hn,_⟩)
  .rw[h.slot i (c i hi) j (c j b) s d a]
  exact absurd a (hn j b)
theorem lkO {Q l:List Nat} (h:Own ops en τ Q) (d:∀i∈l,i∈Q) (n:Nat) (o:Obj):lk n (Au ops en τ l).objs=some o↔(∃i∈l,lk n (en i).obs=some o)\/((∀i∈l,lk n (en i).obs=none)/\lk n τ.objs=some o):=by
 rw[FN,A3];cases hf:lk n (l.flatMap λj=>(en j).obs) with
 | some e =>
  obtain⟨j,c,a⟩:=rU hf;simp only[AE8];constructor
  .grind
  rintro (⟨i,hi,b⟩|⟨hn,_⟩)
  .have:=h.name i (d i hi) j (d j c) n o e b a;subst this;rw[<-a,b]
  rw[hn j c]at a;cases a
 | none =>
  have hn:=Kd hf;simp only[Option.none_or];constructor
  .grind
  grind
theorem A0s {Q l A:List Nat} (h:Own ops en τ Q) (k:∀i∈l,i∈Q) (m:∀i∈A,i∈l):RF (Au ops en τ A) (Au ops en τ l) (Au ops en ⟨[],[]⟩ (l.filter λi=>!Aa i A)):=by
 have h0:Own ops en ⟨[],[]⟩ Q:=⟨h.slot,λ_ _ _ _ _=>rfl,h.name⟩;have hf:∀i∈l.filter (λi=>!Aa i A),i∈Q:=λi hi=>k i (Yh.1 hi).1;have p:∀i∈A,i∈Q:=λi hi=>k i (m i hi);have g:∀i,i∈l.filter (λi=>!Aa i A)↔i∈l/\i∉A:=λi=>by grind [Ap,Aa]
 refine⟨λs=>AEb λv=>?_,λn=>AEb λo=>?_⟩
 .rw[lkE h k,Option.or_eq_some_iff,lkE h0 hf,lkE h p];constructor
  .rintro (⟨i,hi,d,a⟩|⟨hn,a⟩)
   .by_cases c:i∈A
    .refine .inr ⟨?_,.inl ⟨i,c,d,a⟩⟩;cases b:lk s (Au ops en ⟨[],[]⟩ (l.filter λi=>!Aa i A)).env with
     | none=>rfl
     | some u =>
      rcases (lkE h0 hf s u).1 b with ⟨j,e,f,_⟩|⟨_,b⟩
      .have:=h.slot i (k i hi) j (hf j e) s d f;subst this;exact absurd c ((g i).1 e).2
      cases b
    exact .inl (.inl ⟨i,(g i).2 ⟨hi,c⟩,d,a⟩)
   refine .inr ⟨?_,.inr ⟨λi hi=>hn i (m i hi),a⟩⟩;cases b:lk s (Au ops en ⟨[],[]⟩ (l.filter λi=>!Aa i A)).env with
   | none=>rfl
   | some u =>
    rcases (lkE h0 hf s u).1 b with ⟨j,e,f,_⟩|⟨_,b⟩
    .exact absurd f (hn j ((g j).1 e).1)
    cases b
  rintro ((⟨i,hi,d,a⟩|⟨_,a⟩)|⟨b,⟨i,hi,d,a⟩|⟨hn,a⟩⟩)
  .grind
  .cases a
  .grind
  refine .inr ⟨λi hi d=>?_,a⟩;by_cases c:i∈A
  .exact hn i c d
  have:=(lkE h0 hf s (en i).v).2 (.inl ⟨i,(g i).2 ⟨hi,c⟩,d,rfl⟩);rw[b]at this;cases this
 rw[lkO h k,Option.or_eq_some_iff,lkO h0 hf,lkO h p];constructor
 .rintro (⟨i,hi,a⟩|⟨hn,a⟩)
  .by_cases c:i∈A
   .refine .inr ⟨?_,.inl ⟨i,c,a⟩⟩;cases b:lk n (Au ops en ⟨[],[]⟩ (l.filter λi=>!Aa i A)).objs with
    | none=>rfl
    | some u =>
     rcases (lkO h0 hf n u).1 b with ⟨j,e,f⟩|⟨_,b⟩
     .have:=h.name i (k i hi) j (hf j e) n _ _ a f;subst this;exact absurd c ((g i).1 e).2
     cases b
   exact .inl (.inl ⟨i,(g i).2 ⟨hi,c⟩,a⟩)
  refine .inr ⟨?_,.inr ⟨λi hi=>hn i (m i hi),a⟩⟩;cases b:lk n (Au ops en ⟨[],[]⟩ (l.filter λi=>!Aa i A)).objs with
  | none=>rfl
  | some u =>
   rcases (lkO h0 hf n u).1 b with ⟨j,e,f⟩|⟨_,b⟩
   .rw[hn j ((g j).1 e).1]at f;cases f
   cases b
 rintro ((⟨i,hi,a⟩|⟨_,a⟩)|⟨b,⟨i,hi,a⟩|⟨hn,a⟩⟩)
 .grind
 .cases a
 .grind
 refine .inr ⟨λi hi=>?_,a⟩;by_cases c:i∈A
 .exact hn i c
 cases d:lk n (en i).obs with
 | none=>rfl
 | some u =>
  have:=(lkO h0 hf n u).2 (.inl ⟨i,(g i).2 ⟨hi,c⟩,d⟩);rw[b]at this;cases this
end
def A2J (tb:Tb) (ops:List Oper) (τ:St) (en:Nat->En) (pre:List Nat) (i:Nat) (o:Oper):Prop :=
 ∃vc:Prop,aq tb ⟨(Au ops en τ pre).env,B0 false (Gv o.op) τ.objs (ES ops en pre)⟩ (o.dst.getD 0) o.op=some (vc,(en i).v,(en i).obs)/\vc
theorem iJ {ts:List Nat} {base:List (Nat×Obj)} {d:Nat} {obs:List (Nat×Obj)} {E:List (Nat×List (Nat×Obj))}:B0 false ts base (Jf d obs E)=B0 false ts base ((d,obs) :: E):=by
 cases obs with
 | nil=>simp only[Jf,B0,Yt];split<;>rfl
 | cons x r=>rfl
theorem A2K {o:Op} {base:List (Nat×Obj)} {E:List (Nat×List (Nat×Obj))}:Ll false o base E=B0 false (Gv o) base E:=by
 cases E<;>rfl
theorem Zi {tb:Tb} {ops:List Oper} {τ:St} {en:Nat->En}:∀ {Q:List Nat} {ens:EN} {pre:List Nat} {E:List (Nat×List (Nat×Obj))} {vc:Prop},nX tb ops τ.objs Q E (Au ops en τ pre).env=some (vc,ens)->vc ->
  (∀ts,B0 false ts τ.objs E=B0 false ts τ.objs (ES ops en pre))->(∀(j i:Nat) (e:Nat×AV×List (Nat×Obj)),Q[j]?=some i->ens[j]?=some e->en i=⟨true,e.2.1,e.2.2⟩) ->
  ens.length=Q.length/\∀(j i:Nat),Q[j]?=some i->∃(o:Oper) (e:Nat×AV×List (Nat×Obj)),ops[i]?=some o/\ens[j]?=some e/\Am ops i=some e.1/\A2J tb ops τ en ((Q.take j).reverse++pre) i o
 | [],ens,pre,E,vc,h,q,g,m=>by grind [nX]
 | i :: Q,ens,pre,E,vc,h,q,g,m=>by
  simp only[nX]at h;cases b:ops[i]? with
  | none=>rw[b]at h;simp[iH]at h
  | some o =>
   rw[b]at h;simp only[iH]at h;cases a:o.dst with
   | none=>rw[a]at h;simp[c5]at h
   | some d =>
    cases c:aq tb ⟨(Au ops en τ pre).env,Ll false o.op τ.objs E⟩ (o.dst.getD 0) o.op with
    | none=>rw[c,a]at h;simp[c5]at h
    | some r =>
     obtain⟨y,v,obs⟩:=r;rw[c,a]at h;simp only[c5]at h;cases n:nX tb ops τ.objs Q (Jf d obs E) ((d,v) :: (Au ops en τ pre).env) with
     | none=>rw[n]at h;simp[iI]at h
     | some p =>
      obtain⟨A,z⟩:=p;rw[n]at h;simp only[iI]at h;cases h;have hi:=m 0 i (d,v,obs) rfl rfl;have l:Am ops i=some d:=by simp[Am,b,a]
      have w:(Au ops en τ (i :: pre)).env=(d,v) :: (Au ops en τ pre).env:=by simp[Au,l,St.add,hi]
      have s:=Zi (pre:=i :: pre) (by rw[w];exact n) q.2 (λts=>by
       rw[iJ];simp only[ES,UD,l,ADQ,hi,B0];rw[g ts];rfl) (λj k e h1 f=>m (j+1) k e (by simpa using h1) (by simpa using f))
      refine⟨by simp[s.1],λj k hk=>?_⟩;cases j with
      | zero =>
       simp only[AA1,Un]at hk;subst hk;refine⟨o,(d,v,obs),b,rfl,l,y,?_,q.1⟩;rw[A2K,g]at c;simp only[Uo,List.reverse_nil,Yt];rw[hi];exact c
      | succ j =>
       obtain⟨x,e,h1,f,t,u⟩:=s.2 j k (by simpa using hk);refine⟨x,e,h1,by simpa using f,t,?_⟩;simpa[Ux] using u
theorem Rf:∀ {ens:EN} {objs:List (Nat×Obj)},Rd ens objs=true->∀(j:Nat) (e:Nat×AV×List (Nat×Obj)),ens[j]?=some e->∀n o,lk n e.2.2=some o->lk n objs=none/\∀(b:Nat) (a:Nat×AV×List (Nat×Obj)) (c:Obj),ens[b]?=some a->lk n a.2.2=some c->j=b
 | [],objs,_,j,e,h=>by simp at h
 | (d,v,obs) :: r,objs,h,j,e,f=>by
  simp only[Rd,An,ON,Uh]at h;have h0:∀n o,lk n obs=some o->lk n objs=none:=λn o hn=>h.1 _ (Ff hn);have g:=Rf h.2;grind [lk,A3]
end
section
open Go Go.RowKit
structure Zj (ops:Array Oper) (anc:List (List Nat)):Prop where
 lt:∀i o,ops[i]?=some o->∀e∈Du o,e<i
 cl:∀i o,ops[i]?=some o->∀j∈anc.getD i [],j∈Du o\/∃e∈Du o,j∈anc.getD e []
theorem AAo {ops:Array Oper} {anc:List (List Nat)} (h:A9m ops.toList anc=true):Zj ops anc:=by
 simp only[A9m,ON,Tx]at h;have hi:∀i o,ops[i]?=some o->((Du o).all λe=>decide (e<i))=true/\((anc.getD i []).all λj=>Aa j (Du o)||(Du o).any λe=>Aa j (anc.getD e []))=true:=by grind
 refine⟨λi o a e b=>?_,λi o a j c=>?_⟩
 .grind
 grind [Ap]
section
variable {ops:Array Oper} {k:Nat} {anc:List (List Nat)} {Q:Exit->Act->World->Prop}
theorem Sr (a:Zj ops anc) {listed:Array Bool} (g:∀i o,ops[i]?=some o->listed.getD i true=true->∀e∈Du o,listed.getD e false=true) :
  ∀i o,ops[i]?=some o->(∀e∈Du o,listed.getD e false=true)->∀j∈anc.getD i [],listed.getD j false=true:=by
 intro i;induction i using Nat.strongRecOn with
 | _ i l =>
  intro o b c j f;rcases a.cl i o b j f with h1|⟨e,d,h⟩
  .exact c j h1
  have k:=a.lt i o b e d;grind
theorem Rg {F:Fence} {P:Program} (g:Zj ops anc) (q:∀i o,ops[i]?=some o->k<=i->∀j,j<i->j∈anc.getD i []):∀ {rest:List Oper} {p:Nat} {listed:Array Bool} {a:Act} {w:World},ops.toList.drop p=rest->k<=p->p<=ops.size->listed.size=ops.size ->
  (∀i,i<ops.size->(listed.getD i true=true↔i<p))->wpListIn F 0 P ops Q rest a w->wpAnyIn F 0 P .any ops Q rest.length listed a w
 | [],p,listed,a,w,l,C,D,m,f,c=>by
  have hp:p=ops.size:=by
   have:=Uu List.length l;simp at this;omega
  refine⟨?_,c⟩;apply ADP.2;grind [DS]
 | o :: r,p,listed,a,w,l,C,D,m,f,c=>by
  obtain⟨d,v⟩:=Ze l;have d:ops[p]?=some o:=by simpa using d
  have E:p<ops.size:=(UG.1 d).1;have x:∀e b,e<ops.size->listed.getD e b=listed.getD e true:=λe b h=>by grind
  have L:∀i o,ops[i]?=some o->listed.getD i true=true->∀e∈Du o,listed.getD e false=true:=by
   intro i o u h1 e h;have H:i<ops.size:=(UG.1 u).1;have J:=(f i H).1 h1;have K:=g.lt i o u e h;grind
  have G:∀i,i∈Region.ready .any ops listed->i=p:=by grind [DS,Sr]
  refine⟨λM=>?_,λi hi=>?_⟩
  .exfalso;have:p∈Region.ready .any ops listed:=by
    rw[DS];refine⟨?_,o,d,λe h=>?_⟩
    .cases hh:listed.getD p true with
     | false=>rfl
     | true=>have:=(f p E).1 hh;omega
    have:=g.lt p o d e h;rw[x e false (by omega)];exact(f e (by omega)).2 this
   grind
  have z:=G i hi;subst z;have t:∀(j:Nat),j<ops.size->((listed.setIfInBounds i true).getD j true=true↔j<i+1):=by
   intro j A;have B:j<listed.size:=by omega
   by_cases s:j=i
   .subst s;simp[Array.getD,B]
   have h1:(listed.setIfInBounds i true).getD j true=listed.getD j true:=getD_set_ne true (λe=>s e.symm);rw[h1,f j A];omega
  unfold wpOpIn;rw[d];simp only;unfold wpListIn at c;split
  .rename_i n;rw[BY n]at c;exact Oper.wpIn_mono (λI w' y=>Rg g q v.symm (by omega) (by omega) (by simpa using m) t y) c
  rename_i n;rw[As n]at c;exact⟨c.1,Rg g q v.symm (by omega) (by omega) (by simpa using m) t c.2⟩
end
structure QOk (ops:List Oper) (anc:List (List Nat)) (L Q:List Nat):Prop where
 nodup:Q.Nodup
 pos:∀(j i:Nat),Q[j]?=some i->i∉L/\∃o,ops[i]?=some o/\o.guard=none/\(∀e∈Du o,e∈L\/e∈Q.take j)/\(∀t∈Gv o.op,∀k∈Q,Am ops k=some t->k∈anc.getD i []/\k∈Q.take j)
 slot:∀i∈Q,∀j∈Q,∀s,Am ops i=some s->Am ops j=some s->i=j
theorem iK {ops:List Oper} {anc:List (List Nat)} {L Q:List Nat}:∀ {r pre:List Nat},qB1 ops anc L Q r pre=true ->
  (∀(j i:Nat),r[j]?=some i->i∉L/\i∉pre/\i∉r.take j/\∃o,ops[i]?=some o/\o.guard=none/\(∀e∈Du o,e∈L\/e∈pre\/e∈r.take j)/\(∀t∈Gv o.op,∀k∈Q,Am ops k=some t->k∈anc.getD i []/\(k∈pre\/k∈r.take j)) /\
   ∀k,k∈pre\/k∈r.take j->Am ops k≠Am ops i)
 | [],pre,h,j,i,a=>by simp at a
 | x :: r,pre,h,j,i,a=>by
  simp only[qB1,An]at h;obtain⟨h1,s⟩:=h;cases j with
  | zero =>
   simp only[AA1,Un]at a;subst a;cases f:ops[x]? with
   | none=>rw[f]at h1;cases h1
   | some o =>
    rw[f]at h1;simp only[An,ON,UI,Ap,ADz,TO,Uh]at h1;obtain⟨⟨⟨⟨⟨⟨A,q⟩,B⟩,C⟩,D⟩,c⟩,d⟩:=h1;refine⟨λh=>(by rw[(Ap _ _).2 h]at c;cases c),λh=>(by rw[(Ap _ _).2 h]at d;cases d),by simp,o,rfl,q,λe v=>?_,λt w k hk u=>?_,λk hk=>?_⟩
    .grind
    .grind
    grind [Am]
  | succ j =>
   obtain⟨g,b,l,o,m,n,y,z,p⟩:=iK s j i (by simpa using a);simp only[By,not_or]at b;refine⟨g,b.2,by simp[Ux,b.1,l],o,m,n,λe v=>?_,λt w k hk u=>?_,λk hk=>p k ?_⟩
   .grind
   .grind
   grind
theorem iL {α:Type} {l:List α} {i j:Nat} {x:α} (h:l[i]?=some x) (a:i<j):x∈l.take j:=by
 rw[UT];exact⟨i,by rw[UE,BY a];exact h⟩
theorem qOk {ops:List Oper} {anc:List (List Nat)} {L Q:List Nat} (h:qB1 ops anc L Q Q []=true):QOk ops anc L Q:=by
 have hs:=iK h;have m:∀ {i j x y:Nat},Q[i]?=some x->Q[j]?=some y->i<j->x≠y/\Am ops x≠Am ops y:=by grind [iL]
 refine⟨?_,λj i c=>?_,λi hi j c s h1 q=>?_⟩
 .rw[List.nodup_iff_pairwise_ne,Tw];intro i j hi c l e;exact(m (AT hi) (AT c) l).1 e
 .obtain⟨d,_,_,o,f,g,n,p,_⟩:=hs j i c;refine⟨d,o,f,g,λe v=>?_,λt w k hk u=>?_⟩
  .grind
  grind
 obtain⟨a,ha⟩:=UT.1 hi;obtain⟨b,r⟩:=UT.1 c;grind
theorem nZ:∀ {Q:List Nat} {ens:EN},Q.Nodup->∀(j i:Nat) (e:Nat×AV×List (Nat×Obj)),Q[j]?=some i->ens[j]?=some e->OV Q ens i=⟨true,e.2.1,e.2.2⟩
 | [],ens,_,j,i,e,h,_=>by simp at h
 | x :: Q,[],_,j,i,e,_,h=>by simp at h
 | x :: Q,f :: ens,hn,j,i,e,h1,a=>by
  cases j with
  | zero =>
   simp only[AA1,Un]at h1 a;subst h1;subst a;simp[OV,AE0,lk]
  | succ j =>
   have h1:Q[j]?=some i:=by simpa using h1
   have b:i≠x:=λe=>by grind
   have:=nZ (US.1 hn).2 j i e h1 (by simpa using a);simp only[OV,AE0,lk,As b]at this ⊢;exact this
structure Fr (tb:Tb) (ops:List Oper) (anc:List (List Nat)) (L Q:List Nat) (ens:EN) (τ:St):Prop where
 q:QOk ops anc L Q
 len:ens.length=Q.length
 own:Own ops (OV Q ens) τ Q
 at_:∀(j i:Nat),Q[j]?=some i->∃(o:Oper) (e:Nat×AV×List (Nat×Obj)),ops[i]?=some o/\ens[j]?=some e/\Am ops i=some e.1/\OV Q ens i=⟨true,e.2.1,e.2.2⟩/\A2J tb ops τ (OV Q ens) (Q.take j).reverse i o
theorem A2L {tb:Tb} {ops:List Oper} {anc:List (List Nat)} {L Q:List Nat} {ens:EN} {τ:St} (d:QOk ops anc L Q) (h:A9l tb ops Q ens τ):Fr tb ops anc L Q ens τ:=by
 obtain⟨vc,h1,p,q⟩:=h;have u:=λ(j i:Nat) (e:Nat×AV×List (Nat×Obj))=>nZ (ens:=ens) d.nodup j i e;obtain⟨t,hf⟩:=Zi (en:=OV Q ens) (pre:=[]) h1 p (λts=>rfl) u;have k:∀i∈Q,∃(j:Nat) (e:Nat×AV×List (Nat×Obj)),Q[j]?=some i/\ens[j]?=some e/\OV Q ens i=⟨true,e.2.1,e.2.2⟩:=by
  intro i hi;obtain⟨j,c⟩:=UT.1 hi;grind
 refine⟨d,t,⟨d.slot,λi hi n o hn=>?_,λi hi j c n o x f g=>?_⟩,λj i c=>?_⟩
 .grind [Rf]
 .obtain⟨a,e,ha,r,v⟩:=k i hi;obtain⟨b,m,l,s,w⟩:=k j c;rw[v]at f;rw[w]at g;have:=(Rf q a e r n o f).2 b m x s g;subst this;rw[ha]at l;injection l
 grind
theorem A0t {ops:List Oper} {en:Nat->En} {τ:St} {Q:List Nat} (h:Own ops en τ Q) {ts pre ex:List Nat} (hp:∀j∈pre,j∈Q) (e:∀j∈ex,j∈Q) (d:∀j∈pre,Aa ((Am ops j).getD 0) ts=true->j∈ex) {n:Nat} {o:Obj} :
  lk n (B0 false ts τ.objs (ES ops en pre))=some o->lk n (Au ops en τ ex).objs=some o:=by
 rw[lkO h e];induction pre with
 | nil =>
  simp only[ES,AAs,B0];intro hn;refine .inr ⟨λj b=>?_,hn⟩;cases a:lk n (en j).obs with
  | none=>rfl
  | some f=>have:=h.new j (e j b) n f a;rw[this]at hn;cases hn
 | cons i r c =>
  simp only[ES,UD,B0];have c:=c (λj b=>hp j (by simp[b])) (λj b=>d j (by simp[b]));split
  .rename_i g;intro hn;rw[A3]at hn;cases a:lk n (en i).obs with
   | some f =>
    rw[a]at hn;simp only[AE8]at hn;cases hn;exact .inl ⟨i,d i (by simp) (by simpa using g),a⟩
   | none =>
    rw[a]at hn;exact c (by simpa[ES] using hn)
  exact c
theorem M5 {p:Nat×Obj}:∀ {l:List (Nat×Obj)},p∈l->∃b,lk p.1 l=some b
 | (c,d) :: r,h=>by
  simp only[lk];by_cases a:p.1=c
  .simp_all
  rw[As a];rcases By.1 h with rfl|h
  .exact absurd rfl a
  exact M5 h
theorem n4 {c:Cx} (y:c.Ok) {ops:List Oper} {anc:List (List Nat)} {L Q:List Nat} {ens:EN} {τ:St} (hF:Fr c.tb ops anc L Q ens τ) {ex:List Nat} (h:∀i∈ex,i∈Q) {j i:Nat} {o:Oper} (m:Q[j]?=some i) (s:ops[i]?=some o) (ai:i∉ex)
  (ab:∀k∈anc.getD i [],k∈Q->k∈ex) (I:∀d,o.dst=some d->d<c.nt) {a:Act} {w:World} {next:Act->World->Prop} {Qe:Exit->Act->World->Prop} (hs:c.sat (Au ops (OV Q ens) τ ex) a w)
  (hn:∀A w',c.sat (Au ops (OV Q ens) τ (i :: ex)) A w'->next A w'):o.wpIn (FR c.r) 0 c.P a w next Qe:=by
 obtain⟨l,e,D,ae,aa,am,vc,T,W⟩:=hF.at_ j i m;rw[s]at D;cases D;obtain⟨_,an,E,_,_,al⟩:=hF.q.pos j i m;rw[s]at E;cases E;have z:∀k∈(Q.take j).reverse,k∈Q:=λk hk=>UN (by simpa using hk);have S:Ops ⟨(Au ops (OV Q ens) τ (Q.take j).reverse).env,B0 false (Gv o.op) τ.objs (ES ops (OV Q ens) (Q.take j).reverse)⟩ (Au ops (OV Q ens) τ ex) o.op.operands.toList:=by
  intro x X v b;cases x with
  | tmp t =>
   simp only[Ar]at b ⊢;have ak:t∈Gv o.op:=AE3.2 ⟨_,X,rfl⟩;rw[lkE hF.own z]at b;rw[lkE hF.own h];rcases b with ⟨k,hk,af,ag⟩|⟨aj,b⟩
   .grind
   grind
  | const ao=>exact b
  | global g=>exact b
  | func f=>exact b
 have R:fZ ⟨(Au ops (OV Q ens) τ (Q.take j).reverse).env,B0 false (Gv o.op) τ.objs (ES ops (OV Q ens) (Q.take j).reverse)⟩ (Au ops (OV Q ens) τ ex):=by
  intro n l hn;refine A0t hF.own z h (λk hk ah=>?_) hn;obtain⟨Y,J⟩:=UT.1 (z k hk);obtain⟨_,Z,_,_,ad,_⟩:=hF.at_ Y k J;grind [Ap]
 have U:=VJ R S T;have C:=UW m;have B:Ba (OV Q ens i).obs (Au ops (OV Q ens) τ ex)=true:=by
  simp only[Ba,ON,Uh];intro p hp;obtain⟨l,F⟩:=M5 hp;cases N:lk p.1 (Au ops (OV Q ens) τ ex).objs with
  | none=>rfl
  | some u =>
   rcases (lkO hF.own h p.1 u).1 N with ⟨k,hk,M⟩|⟨_,hu⟩
   .have:=hF.own.name i C k (h k hk) p.1 l u F M;grind
   rw[hF.own.new i C p.1 l F]at hu;cases hu
 obtain⟨ρ,G⟩:=hs;refine rG (A5L y G) U W B λu ρ' w' V=>hn _ _ ?_;have H:Am ops i=o.dst:=by simp[Am,s]
 simp only[Au,H];exact⟨ρ',G.add y.K y.O I B V⟩
end
section
open Go Go.RowKit
theorem Lt:∀ {l l':List Nat},l.Nodup->(∀x∈l,x∈l')->l.length<=l'.length
 | [],_,_,_=>by simp
 | x :: l,l',hn,h=>by
  have b:=h x (by simp);have:=Lt (l:=l) (l':=l'.erase x) (US.1 hn).2 (λy a=>by
   have:y≠x:=λe=>(US.1 hn).1 (e▸a);exact(ADS this).2 (h y (by simp[a])))
  grind
theorem It (A:List Nat) (l:Nat) (a:List (List Nat×Nat)) (D:List Nat):qs ((A,l) :: a) D=A++qs a D:=by simp[qs]
structure AAp (ops:List Oper) (anc:List (List Nat)) (p0:Nat) (L:List Nat) (ps:List (List Nat×Nat)) (D:List Nat):Prop where
 all:∀i,i<p0->i∈L\/i∈qs ps D\/i∈ps.map (·.2)
 back:∀i,p0<=i->i<ops.length->∀j,j<i->j∈anc.getD i []
 L:∀i∈L,i<p0
 Q:∀i∈qs ps D,i<p0
 lo:∀p∈ps,p.2<p0
 p0:p0<=ops.length
theorem WP {ops:List Oper} {anc:List (List Nat)} {p0:Nat} {L D:List Nat} (h:TZ ops anc p0 L [] D=true):QOk ops anc L D/\(∀i,i<p0->i∈L\/i∈D)/\L.length+D.length=p0/\p0<=ops.length/\(∀i∈L,i<p0)/\(∀i∈D,i<p0)/\(∀i,p0<=i->i<ops.length->∀j,j<i->j∈anc.getD i []):=by
 simp only[TZ,An,ON,Tx,UI,DO,Ap]at h;grind [qOk]
theorem Jk {ops:List Oper} {anc:List (List Nat)} {p0:Nat} {L D A:List Nat} {l:Nat} {b:List (List Nat×Nat)} (h:TZ ops anc p0 L ((A,l) :: b) D=true):QOk ops anc L (A++qs b D)/\(∃o,ops[l]?=some o/\o.guard=none/\(∀e∈Du o,e∈L\/e∈A))/\(∀j∈A,j∈anc.getD l [])/\l∉L/\l∉A++qs b D/\(∀p∈b,l∈anc.getD p.2 [])/\TZ ops anc p0 (l :: (A++L)) b D=true:=by
 simp only[TZ,An,ON,Ap]at h;obtain⟨⟨⟨h1,a⟩,m⟩,n⟩:=h;cases f:ops[l]? with
 | none=>rw[f]at a;cases a
 | some o =>
  rw[f]at a;simp only[An,ON,UI,Ap,TO,Uh]at a;obtain⟨⟨⟨⟨g,i⟩,k⟩,c⟩,d⟩:=a;exact⟨qOk h1,⟨o,rfl,g,i⟩,k,λh=>(by rw[(Ap _ _).2 h]at c;cases c),λh=>(by rw[(Ap _ _).2 h]at d;cases d),m,n⟩
theorem WQ {ops:List Oper} {anc:List (List Nat)} {p0:Nat}:∀ {b:List (List Nat×Nat)} {L D:List Nat},TZ ops anc p0 L b D=true->AAp ops anc p0 L b D
 | [],L,D,h=>by
  obtain⟨_,h1,g,c,d,e,f⟩:=WP h;refine⟨λi hi=>?_,f,d,by simpa[qs] using e,by simp,c⟩;grind [qs]
 | (A,l) :: b,L,D,h=>by
  obtain⟨_,_,_,_,_,_,h1⟩:=Jk h;have a:=WQ h1;refine⟨λi hi=>?_,a.back,λi hi=>a.L i (by simp[hi]),λi hi=>?_,λp hp=>?_,a.p0⟩
  .rcases a.all i hi with h|h|h
   .grind [It]
   .grind [It]
   grind
  .rw[It,IF]at hi;rcases hi with hi|hi
   .exact a.L i (by simp[hi])
   exact a.Q i hi
  rcases By.1 hp with rfl|hp
  .exact a.L l (by simp)
  exact a.lo p hp
theorem c6 {ops:List Oper} {en:Nat->En} {τ:St}:∀ {Q:List Nat} {ens:EN} {pre:List Nat},ens.length=Q.length->(∀(j i:Nat) (e:Nat×AV×List (Nat×Obj)),Q[j]?=some i->ens[j]?=some e->Am ops i=some e.1/\en i=⟨true,e.2.1,e.2.2⟩) ->
  Ls ens (Au ops en τ pre)=Au ops en τ (Q.reverse++pre)
 | [],[],pre,_,_=>rfl
 | [],_ :: _,_,h,_=>by simp at h
 | _ :: _,[],_,h,_=>by simp at h
 | i :: Q,(d,v,obs) :: ens,pre,f,h=>by
  obtain⟨h1,a⟩:=h 0 i (d,v,obs) rfl rfl;have:(⟨(d,v) :: (Au ops en τ pre).env,obs++(Au ops en τ pre).objs⟩:St)=Au ops en τ (i :: pre):=by simp[Au,h1,a,St.add]
  simp only[Ls];rw[this,c6 (by simpa using f) (λj k e b c=>h (j+1) k e (by simpa using b) (by simpa using c))];simp
section
variable {c:Cx} {ops:Array Oper} {anc:List (List Nat)} {p0:Nat} {Kf:St->Prop} {Qe:Exit->Act->World->Prop}
theorem A2M {a:List (List Nat×Nat)} {L D:List Nat} {ens:EN} {τ:St} (b:TZ ops.toList anc p0 L a D=true) (d:Mix c ops.toList Kf a D ens τ):Fr c.tb ops.toList anc L (qs a D) ens τ:=by
 cases a with
 | nil =>
  have:qs [] D=D:=rfl;rw[this];exact A2L (WP b).1 d.1
 | cons p a =>
  obtain⟨A,l⟩:=p;rw[It];exact A2L (Jk b).1 d.1
theorem Zk (x:Zj ops anc) {a:List (List Nat×Nat)} {L D:List Nat} {ex:List Nat} {listed:Array Bool} (w:TZ ops.toList anc p0 L a D=true) (v:QOk ops.toList anc L (qs a D)) (u:∀i∈ex,i∈qs a D) (I:listed.size=ops.size)
  (H:∀i,i<ops.size->(listed.getD i true=true↔i∈L\/i∈ex)) (hf:¬(a=[]/\∀i∈qs a D,i∈ex)):∃i,i∈Region.ready .any ops listed:=by
 have C:∀e b,e<ops.size->listed.getD e b=listed.getD e true:=λe b c=>by grind
 have mk:∀i o,ops[i]?=some o->i∉L->i∉ex->(∀e∈Du o,e∈L\/e∈ex)->i∈Region.ready .any ops listed:=by
  intro i o f h1 k E;have J:i<ops.size:=(UG.1 f).1;rw[DS];refine⟨?_,o,f,λe c=>?_⟩
  .grind
  have F:=x.lt i o f e c;grind
 by_cases t:∀i∈qs a D,i∈ex
 .cases a with
  | nil=>exact absurd ⟨rfl,t⟩ hf
  | cons p a =>
   obtain⟨A,l⟩:=p;rw[It]at t u;obtain⟨_,⟨o,f,_,y⟩,_,h1,k,_,_⟩:=Jk w;refine⟨l,mk l o (by simpa using f) h1 (λh=>k (u l h)) λe c=>?_⟩;rcases y e c with h|h
   .exact .inl h
   grind
 have key:∀(n j:Nat),j<=n->(∃i,(qs a D)[j]?=some i/\i∉ex)->∃i,i∈Region.ready .any ops listed:=by
  intro n;induction n with
  | zero =>
   rintro j s ⟨i,hi,d⟩;have:j=0:=by omega
   subst this;obtain⟨m,o,q,_,r,_⟩:=v.pos 0 i hi;refine⟨i,mk i o (by simpa using q) m d λe c=>?_⟩;rcases r e c with h|h
   .exact .inl h
   simp at h
  | succ n B =>
   rintro j s ⟨i,hi,d⟩;by_cases z:∃g,g<j/\∃i',(qs a D)[g]?=some i'/\i'∉ex
   .obtain⟨g,h1,k⟩:=z;exact B g (by omega) k
   obtain⟨m,o,q,_,r,_⟩:=v.pos j i hi;refine⟨i,mk i o (by simpa using q) m d λe c=>?_⟩;rcases r e c with h|h
   .exact .inl h
   right;obtain⟨g,G⟩:=UT.1 h;grind
 have:∃i,i∈qs a D/\i∉ex:=by grind
 obtain⟨i,hi,d⟩:=this;obtain⟨j,s⟩:=UT.1 hi;exact key j j (Is _) ⟨i,s,d⟩
theorem Zl (G:Zj ops anc) (hT:∀τ,Kf τ->∀a w,c.sat τ a w->wpListIn (FR c.r) 0 c.P ops Qe (ops.toList.drop p0) a w) {m:Nat} {L D:List Nat} {ens:EN} {τ:St} {ex:List Nat} {listed:Array Bool} {a:Act} {w:World}
  (C:TZ ops.toList anc p0 L [] D=true) (g:Mix c ops.toList Kf [] D ens τ) (M:(L++ex).Nodup) (b:∀i∈ex,i∈D) (W:m+L.length+ex.length=ops.size) (J:listed.size=ops.size) (I:∀i,i<ops.size->(listed.getD i true=true↔i∈L\/i∈ex))
  (hs:c.sat (Au ops.toList (OV D ens) τ ex) a w) (d:∀i∈D,i∈ex):wpAnyIn (FR c.r) 0 c.P .any ops Qe m listed a w:=by
 obtain⟨q,h1,S,y,T,U,z⟩:=WP C;have hF:=A2L q g.1;have V:ex.length=D.length:=Yg (Lt (U0.1 M).2.1 b) (Lt q.nodup d);have K:m=(ops.toList.drop p0).length:=by grind
 have E:Ls ens τ=Au ops.toList (OV D ens) τ D.reverse:=by
  have:=c6 (ops:=ops.toList) (en:=OV D ens) (τ:=τ) (pre:=[]) hF.len (λj i e A B=>by
   obtain⟨o,R,_,f,u,x,_⟩:=hF.at_ j i A;rw[B]at f;cases f;exact⟨u,x⟩)
  simpa[Au] using this
 have O:c.sat (Ls ens τ) a w:=by
  rw[E];have t:∀i∈D.reverse,i∈D:=λi hi=>by simpa using hi
  have l:∀i,i∈ex↔i∈D.reverse:=λi=>⟨λh=>by simpa using b i h,λh=>d i (by simpa using h)⟩;refine WI (λs=>AEb λv=>?_) (λn=>AEb λo=>?_) hs
  .rw[lkE hF.own t,lkE hF.own b];simp only[l]
  rw[lkO hF.own t,lkO hF.own b];simp only[l]
 have:=Rg (Q:=Qe) (F:=FR c.r) (P:=c.P) G (k:=p0) (λi o N hi j H=>z i hi (by have:=(UG.1 N).1;simpa using this) j H) (rest:=ops.toList.drop p0) (p:=p0) (listed:=listed) (a:=a) (w:=w) rfl (Is _) (by simpa using y) J
  (λi hi=>by
   rw[I i hi];constructor
   .grind
   intro h;rcases h1 i h with h|h
   .exact .inl h
   exact .inr (d i h)) (hT _ g.2 a w O)
 rw[K];exact this
theorem A5T (ch:c.Ok) (bx:∀o∈ops.toList,Il c.nt o=true) (ab:Zj ops anc) (hT:∀τ,Kf τ->∀a w,c.sat τ a w->wpListIn (FR c.r) 0 c.P ops Qe (ops.toList.drop p0) a w) :
  ∀(m:Nat) (f:List (List Nat×Nat)) (L D:List Nat) (ens:EN) (τ:St) (ex:List Nat) (listed:Array Bool) (a:Act) (w:World),TZ ops.toList anc p0 L f D=true->Mix c ops.toList Kf f D ens τ->(L++ex).Nodup->(∀i∈ex,i∈qs f D) ->
   m+L.length+ex.length=ops.size->listed.size=ops.size->(∀i,i<ops.size->(listed.getD i true=true↔i∈L\/i∈ex))->(∀i o,ops[i]?=some o->(i∈L\/i∈ex)->∀e∈Du o,e∈L\/e∈ex) ->
   c.sat (Au ops.toList (OV (qs f D) ens) τ ex) a w->wpAnyIn (FR c.r) 0 c.P .any ops Qe m listed a w:=by
 intro m;induction m with
 | zero =>
  intro f L D ens τ ex listed a w C T H B ax U O ae hs;have hF:=A2M C T;by_cases hf:f=[]/\∀i∈qs f D,i∈ex
  .obtain⟨rfl,aq⟩:=hf;exact Zl ab hT C T H B ax U O hs aq
  exfalso;obtain⟨i,hi⟩:=Zk ab C hF.q B U O hf;rw[DS]at hi;obtain⟨h1,o,E,_⟩:=hi;have X:i<ops.size:=(UG.1 E).1;have I:i∉L++ex:=λh=>by grind
  have N:=WQ C;have:=Dz ops.size (i :: (L++ex)) (US.2 ⟨I,H⟩) (λj d=>by
   have hp:=N.p0;simp only[ADW]at hp;rcases By.1 d with rfl|d
   .exact X
   rcases IF.1 d with d|d
   .have:=N.L j d;omega
   have:=N.Q j (B j d);omega)
  grind
 | succ m bj =>
  intro f L D ens τ ex listed a w C T H B ax U O ae hs;have hF:=A2M C T;have N:=WQ C;have bn:∀e b,e<ops.size->listed.getD e b=listed.getD e true:=λe b F=>by grind
  by_cases hf:f=[]/\∀i∈qs f D,i∈ex
  .obtain⟨rfl,aq⟩:=hf;exact Zl ab hT C T H B ax U O hs aq
  refine⟨λcv=>?_,λi hi=>?_⟩
  .obtain⟨i,hi⟩:=Zk ab C hF.q B U O hf;grind
  rw[DS]at hi;obtain⟨h1,o,E,cq⟩:=hi;have X:i<ops.size:=(UG.1 E).1;have I:¬(i∈L\/i∈ex):=λh=>by rw[(O i X).2 h]at h1;cases h1
  have az:∀e∈Du o,e∈L\/e∈ex:=λe F=>by grind
  have ad:∀j∈anc.getD i [],j∈L\/j∈ex:=by
   have ct:∀i o,ops[i]?=some o->listed.getD i true=true->∀e∈Du o,listed.getD e false=true:=by
    intro i o E h1 e F;have X:i<ops.size:=(UG.1 E).1;have Y:=ab.lt i o E e F;rw[bn e false (by omega)];exact(O e (by omega)).2 (ae i o E ((O i X).1 h1) e F)
   grind [Sr]
  have ag:ops.toList[i]?=some o:=by simpa using E
  have cf:o∈ops.toList:=UW ag;have bw:=Ci (bx o cf);have bd:∀(S:List Nat),(∀j,j∈S↔j=i\/j∈L\/j∈ex)->∀j,j<ops.size->((listed.setIfInBounds i true).getD j true=true↔j∈S):=by
   intro S bu j d;have cd:j<listed.size:=by omega
   rw[bu];by_cases aw:j=i
   .subst aw;simp[Array.getD,cd]
   have Y:(listed.setIfInBounds i true).getD j true=listed.getD j true:=getD_set_ne true (λe=>aw e.symm);rw[Y,O j d];simp[aw]
  have bi:∀ {g:Option (Nat×Bool)},g=none->o.guard=g->Region.wanted o (yielded ops a.tmps)=true:=by
   intro g au e;simp[Region.wanted,e,au]
  by_cases af:i∈qs f D
  .obtain⟨j,d⟩:=UT.1 af;obtain⟨_,cy,be,au,_,_⟩:=hF.q.pos j i d;rw[ag]at be;cases be;unfold wpOpIn;rw[E];simp only;rw[BY (bi rfl au)];refine n4 ch hF B d ag (λh=>I (.inr h)) (λk hk ce=>?_) bw hs λak w' ci=>?_
   .rcases ad k hk with h|h
    .obtain⟨u,R⟩:=UT.1 ce;exact absurd h (hF.q.pos u k R).1
    exact h
   refine bj f L D ens τ (i :: ex) _ ak w' C T ?_ (λk hk=>?_) (by simp only[OS];omega) (by simpa using U) (λk hk=>?_) (λi' W G av e F=>?_) ci
   .rw[U0]at H ⊢;refine⟨H.1,US.2 ⟨λh=>I (.inr h),H.2.1⟩,λx t y V=>?_⟩;rcases By.1 V with rfl|V
    .exact λe=>I (.inl (e▸t))
    exact H.2.2 x t y V
   .rcases By.1 hk with rfl|hk
    .exact af
    exact B k hk
   .rw[bd (i :: (L++ex)) (λj=>by simp) k hk];simp only[By,IF];constructor
    .rintro (h|h|h)
     .exact .inr (.inl h)
     .exact .inl h
     exact .inr (.inr h)
    rintro (h|h|h)
    .exact .inr (.inl h)
    .exact .inl h
    exact .inr (.inr h)
   have:e∈L\/e∈ex:=by
    rcases av with h|h
    .exact ae i' W G (.inl h) e F
    rcases By.1 h with rfl|h
    .rw[E]at G;cases G;exact az e F
    exact ae i' W G (.inr h) e F
   rcases this with h|h
   .exact .inl h
   exact .inr (by simp[h])
  . -- no operation of the front
   have cw:¬p0<=i:=by
    intro ca;have ay:=N.back i ca (by simpa using X);cases f with
    | nil =>
     refine hf ⟨rfl,λj d=>?_⟩;have Y:=N.Q j d;rcases ad j (ay j (by omega)) with h|h
     .obtain⟨u,R⟩:=UT.1 d;exact absurd h (hF.q.pos u j R).1
     exact h
    | cons p f =>
     obtain⟨A,l⟩:=p;obtain⟨_,_,_,am,an,_,_⟩:=Jk C;have Y:=N.lo (A,l) (by simp);simp only at Y;rcases ad l (ay l (by omega)) with h|h
     .exact am h
     exact an (by rw[<-It A l];exact B l h)
   cases f with
   | nil =>
    rcases N.all i (by omega) with h|h|h
    .exact absurd (.inl h) I
    .exact absurd h af
    cases h
   | cons p f =>
    obtain⟨A,l⟩:=p;obtain⟨_,⟨ol,bf,cb,cu⟩,bq,am,an,bo,br⟩:=Jk C;have cc:i=l:=by
     rcases N.all i (by omega) with h|h|h
     .exact absurd (.inl h) I
     .exact absurd h af
     simp only[UD,By,If]at h;rcases h with h|⟨p,hp,rfl⟩
     .exact h
     rcases ad l (bo p hp) with h|h
     .exact absurd h am
     exact absurd (B l h) (by rw[It];exact an)
    subst cc;rw[ag]at bf;cases bf;rw[It]at hF B hs af;obtain⟨cs,W,G,bs⟩:=T;rw[ag]at G;cases G;have Z:∀j∈A,j∈ex:=λj d=>by
     rcases ad j (bq j d) with h|h
     .obtain⟨u,R⟩:=UT.1 (show j∈A++qs f D by simp[d]);exact absurd h (hF.q.pos u j R).1
     exact h
    have ao:A.Nodup/\(qs f D).Nodup/\∀x∈A,∀y∈qs f D,x≠y:=U0.1 hF.q.nodup;have bv:Ls (ens.take A.length) τ=Au ops.toList (OV (A++qs f D) ens) τ A.reverse:=by
     have:=c6 (ops:=ops.toList) (en:=OV (A++qs f D) ens) (τ:=τ) (pre:=[]) (Q:=A) (ens:=ens.take A.length) (by have:=hF.len;simp only[A0]at this;simp only[OR];omega) (λj i e M z=>by
      have bc:j<A.length:=(Tm.1 M).1;obtain⟨o,cp,_,J,K,al,_⟩:=hF.at_ j i (by rw[Tz bc];exact M);rw[UE,BY bc,J]at z;cases z;exact⟨K,al⟩)
     simpa[Au] using this
    have bh:=A0s (A:=A.reverse) hF.own B (λj d=>Z j (by simpa using d));rw[<-bv]at bh;have aj:∀j,j∈ex.filter (λj=>!Aa j A.reverse)↔j∈ex/\j∉A:=λj=>by
     rw[Yh];have:=Ap j A.reverse;constructor
     .rintro⟨M,z⟩;exact⟨M,λJ=>by rw[this.2 (by simpa using J)]at z;cases z⟩
     rintro⟨M,z⟩;refine⟨M,?_⟩;cases cg:Aa j A.reverse with
     | false=>rfl
     | true=>exact absurd (by simpa using this.1 cg) z
    have aa:∀j∈ex.filter (λj=>!Aa j A.reverse),j∈qs f D:=λj d=>by
     have:=B j ((aj j).1 d).1;rcases IF.1 this with h|h
     .exact absurd h ((aj j).1 d).2
     exact h
    have ar:∀j∈qs f D,∃(u:Nat) (e:Nat×AV×List (Nat×Obj)),(qs f D)[u]?=some j/\(ens.drop A.length)[u]?=some e/\Am ops.toList j=some e.1/\OV (A++qs f D) ens j=⟨true,e.2.1,e.2.2⟩:=by
     intro j d;obtain⟨u,R⟩:=UT.1 d;obtain⟨o,e,_,J,K,al,_⟩:=hF.at_ (A.length+u) j (by rw[UC (by omega),ADn];exact R);exact⟨u,e,R,by rw[Uk];exact J,K,al⟩
    have bg:Own ops.toList (OV (A++qs f D) ens) ⟨[],[]⟩ (A++qs f D):=⟨hF.own.slot,λ_ _ _ _ _=>rfl,hF.own.name⟩;have ba:∀j∈ex.filter (λj=>!Aa j A.reverse),j∈A++qs f D:=λj d=>by simp[aa j d]
    unfold wpOpIn;rw[E];simp only;rw[BY (bi rfl cb)];refine bs _ _ bh ⟨λs v ah=>?_,λn W hn=>?_⟩ a w _ _ hs λbm bt ak w' cz bb cj=>?_
    .rcases (lkE bg ba s v).1 ah with ⟨j,d,ai,rfl⟩|⟨_,ah⟩
     .obtain⟨u,e,_,z,J,K⟩:=ar j (aa j d);rw[ai]at J;cases J;rw[K];exact⟨e.2.2,UW z⟩
     cases ah
    .rcases (lkO bg ba n W).1 hn with ⟨j,d,ai⟩|⟨_,ah⟩
     .obtain⟨u,e,_,z,J,K⟩:=ar j (aa j d);rw[K]at ai;exact⟨e,UW z,Ff ai⟩
     cases ah
    have cr:ex.length=A.length+(ex.filter (λj=>!Aa j A.reverse)).length:=by
     have ck:∀l:List Nat,l.length=(l.filter (λj=>Aa j A.reverse)).length+(l.filter (λj=>!Aa j A.reverse)).length:=by
      intro l;induction l with
      | nil=>rfl
      | cons x r cx =>
       simp only[Ue,OS];cases Aa x A.reverse<;>simp<;>omega
     rw[ck ex];have bz:=(U0.1 H).2.1;have M:(ex.filter (λj=>Aa j A.reverse)).length<=A.length:=Lt (bz.filter _) λx t=>by
      have:=(Ap _ _).1 (Yh.1 t).2;simpa using this
     have z:A.length<=(ex.filter (λj=>Aa j A.reverse)).length:=Lt ao.1 λx t=>Yh.2 ⟨Z x t,(Ap _ _).2 (by simpa using t)⟩;omega
    have ap:∀x,(x∈i :: (A++L)\/x∈ex.filter (λj=>!Aa j A.reverse))↔x=i\/x∈L\/x∈ex:=by
     intro x;rw[aj];simp only[By,IF];constructor
     .rintro ((h|h|h)|h)
      .exact .inl h
      .exact .inr (.inr (Z x h))
      .exact .inr (.inl h)
      exact .inr (.inr h.1)
     rintro (h|h|h)
     .exact .inl (.inl h)
     .exact .inl (.inr (.inr h))
     by_cases t:x∈A
     .exact .inl (.inr (.inl t))
     exact .inr ⟨h,t⟩
    refine bj f (i :: (A++L)) D (ens.drop A.length) bm (ex.filter λj=>!Aa j A.reverse) _ ak w' br bt ?_ aa (by simp only[OS,A0];omega) (by simpa using U) (λk hk=>?_) (λi' W G av e F=>?_) ?_
    .obtain⟨n1,cn,bk⟩:=U0.1 H;have bp:∀x∈A,x∉L:=λx t cl=>bk x cl x (Z x t) rfl;rw[U0];refine⟨US.2 ⟨λh=>?_,U0.2 ⟨ao.1,n1,λx t y V e=>bp x t (e▸V)⟩⟩,cn.filter _,λx t y V e=>?_⟩
     .rcases IF.1 h with h|h
      .exact I (.inr (Z i h))
      exact I (.inl h)
     subst e;obtain⟨bl,co⟩:=(aj x).1 V;rcases By.1 t with rfl|t
     .exact I (.inr bl)
     rcases IF.1 t with t|t
     .exact co t
     exact bk x t x bl rfl
    .rw[ap k,bd (i :: (L++ex)) (λj=>by simp) k hk];simp
    .rw[ap];have:e∈L\/e∈ex:=by
      rcases (ap i').1 av with rfl|h
      .rw[E]at G;cases G;exact az e F
      exact ae i' W G h e F
     exact .inr this
    have cm:∀j∈ex.filter (λj=>!Aa j A.reverse),OV (qs f D) (ens.drop A.length) j=OV (A++qs f D) ens j:=λj d=>by
     obtain⟨u,e,M,z,_,K⟩:=ar j (aa j d);rw[K];exact nZ ao.2.1 u j e M z
    have t:=A2G (ops:=ops.toList) (en:=OV (qs f D) (ens.drop A.length)) (τ:=bm) (ex.filter λj=>!Aa j A.reverse);rw[Kb (en:=OV (A++qs f D) ens) (σ0:=⟨[],[]⟩) cm]at t;exact WI (λs=>by rw[t.env,bb.env]) (λn=>by rw[t.objs,bb.objs]) cj
end
section
variable {c:Cx} {R:Exit->Act->World->Prop} {k:List DJ} {σ:St}
theorem CL (j:c.P.follows .mixedOrders=true) (g:c.Ok) {id:Nat} {l:List Oper} (p0:Nat) (d:List (List Nat×Nat)) (D:List Nat) (b:(A9m l (A2u l)&&TZ l (A2u l) p0 [] d D)=true) {ens:EN}
  (h:Mix c l (fun τ=>NW c R k l.toArray (l.drop p0) τ) d D ens σ):Ev c R (.run (.region id l.toArray true)) k σ:=by
 intro h1 e a w hs;simp only[Hn,Bm,ON]at h1;simp only[An]at b;refine wpIn_region_any j ?_;have hk:∀τ,NW c R k l.toArray (l.drop p0) τ->∀a w,c.sat τ a w->wpListIn (FR c.r) 0 c.P l.toArray (WA c R k) (l.toArray.toList.drop p0) a w:=fun τ f a w hs=>f (λo m=>h1 o (by simpa using Yw m)) e a w hs;exact A5T (ops:=l.toArray) (anc:=A2u l) g (by simpa using h1) (AAo (by simpa using b.1)) hk l.toArray.size d [] D ens σ [] (Array.replicate l.toArray.size false) a { w with drawn:=w.drawn+1 } (by simpa using b.2) (by simpa using h) (by simp) (by simp) (by simp) (by simp) (λi hi=>by simp at hi;simp[Array.getD,hi]) (λi o _ hi=>by simp at hi) (iB hs)
end
end
section
open Go Go.RowKit
section
variable {n:Nat} {ns:List Nat}
theorem GI {m:Nat} (hn:n∈ns) (h:¬Aa m ns=true):¬m=n:=λe=>h ((Ap _ _).2 (e▸hn))
mutual
theorem WR (hn:n∈ns) {e:Ty} {xs:List e.den}:∀(x:AV),x.fgt ns=x->x.frz n e xs=x
 | .sr m e' lo hi,h=>by grind [AV.fgt,AV.frz,GI]
 | .ep m e' i path off,h=>by grind [AV.fgt,AV.frz,GI]
 | .nin m e' i len,h=>by grind [AV.fgt,AV.frz,GI]
 | .ag l,h=>by
  simp only[AV.fgt,AV.ag.injEq]at h
  simp only[AV.frz,frzs_of_fgt hn l h]
 | .tup l,h=>by
  simp only[AV.fgt,AV.tup.injEq]at h
  simp only[AV.frz,frzs_of_fgt hn l h]
 | .p _ _,_=>rfl
 | .pc _ _,_=>rfl
 | .raw _,_=>rfl
 | .ip _ _,_=>rfl
 | .bp _ _ _,_=>rfl
 | .fn _,_=>rfl
 | .clo _ _,_=>rfl
 | .mp _,_=>rfl
 | .yl _,_=>rfl
 | .top,_=>rfl
theorem frzs_of_fgt (hn:n∈ns) {e:Ty} {xs:List e.den}:∀(l:List AV),AV.fgts ns l=l->AV.frzs n e xs l=l
 | [],_=>rfl
 | x :: r,h=>by
  simp only[AV.fgts,oR]at h
  simp only[AV.frzs,WR hn x h.1,frzs_of_fgt hn r h.2]
end
mutual
theorem WT (hn:n∈ns):∀(x:AV),x.fgt ns=x->x.drp n=x
 | .sr m e' lo hi,h=>by grind [AV.fgt,AV.drp,GI]
 | .ep m e' i path off,h=>by grind [AV.fgt,AV.drp,GI]
 | .nin m e' i len,h=>by grind [AV.fgt,AV.drp,GI]
 | .ag l,h=>by
  simp only[AV.fgt,AV.ag.injEq]at h
  simp only[AV.drp,drps_of_fgt hn l h]
 | .tup l,h=>by
  simp only[AV.fgt,AV.tup.injEq]at h
  simp only[AV.drp,drps_of_fgt hn l h]
 | .p _ _,_=>rfl
 | .pc _ _,_=>rfl
 | .raw _,_=>rfl
 | .ip _ _,_=>rfl
 | .bp _ _ _,_=>rfl
 | .fn _,_=>rfl
 | .clo _ _,_=>rfl
 | .mp _,_=>rfl
 | .yl _,_=>rfl
 | .top,_=>rfl
theorem drps_of_fgt (hn:n∈ns):∀(l:List AV),AV.fgts ns l=l->AV.drps n l=l
 | [],_=>rfl
 | x :: r,h=>by
  simp only[AV.fgts,oR]at h
  simp only[AV.drps,WT hn x h.1,drps_of_fgt hn r h.2]
end
end
section
variable {n:Nat} {ns tl:List Nat}
theorem Dv (a:∀n,n∈tl->n∈ns) {m:Nat} (h:¬Aa m ns=true):¬Aa m tl=true:=λh1=>h ((Ap _ _).2 (a _ ((Ap _ _).1 h1)))
theorem sA (a:∀n,n∈tl->n∈ns) {l:List Nat} (h:¬(l.any λm=>Aa m ns)=true):¬(l.any λm=>Aa m tl)=true:=λh1=>by grind [Ap]
mutual
theorem WU (htl:∀n,n∈tl->n∈ns):∀(x:AV),x.fgt ns=x->x.fgt tl=x
 | .sr m e' lo hi,h=>by grind [AV.fgt,Dv]
 | .ep m e' i path off,h=>by grind [AV.fgt,Dv]
 | .nin m e' i len,h=>by grind [AV.fgt,Dv]
 | .bp m path off,h=>by grind [AV.fgt,Dv]
 | .mp m,h=>by grind [AV.fgt,Dv]
 | .yl m,h=>by grind [AV.fgt,Dv]
 | .clo f cs,h=>by
  simp only[AV.fgt]at h
  split at h
  .cases h
  rename_i hm;simp only[AV.fgt,As (sA htl hm)]
 | .ag l,h=>by
  simp only[AV.fgt,AV.ag.injEq]at h
  simp only[AV.fgt,fgts_of_fgt htl l h]
 | .tup l,h=>by
  simp only[AV.fgt,AV.tup.injEq]at h
  simp only[AV.fgt,fgts_of_fgt htl l h]
 | .p _ _,_=>rfl
 | .pc _ _,_=>rfl
 | .raw _,_=>rfl
 | .ip _ _,_=>rfl
 | .fn _,_=>rfl
 | .top,_=>rfl
theorem fgts_of_fgt (htl:∀n,n∈tl->n∈ns):∀(l:List AV),AV.fgts ns l=l->AV.fgts tl l=l
 | [],_=>rfl
 | x :: r,h=>by
  simp only[AV.fgts,oR]at h
  simp only[AV.fgts,WU htl x h.1,fgts_of_fgt htl r h.2]
end
mutual
theorem WV (hn:n∈ns) (htl:∀n,n∈tl->n∈ns):∀(x:AV),x.fgt ns=x->x.trn n tl=x
 | .sr m e' lo hi,h=>by grind [AV.fgt,AV.trn,Dv]
 | .ep m e' i path off,h=>by grind [AV.fgt,AV.trn,Dv]
 | .nin m e' i len,h=>by grind [AV.fgt,AV.trn,GI,Dv]
 | .bp m path off,h=>by grind [AV.fgt,AV.trn,Dv]
 | .mp m,h=>by grind [AV.fgt,AV.trn,Dv]
 | .yl m,h=>by grind [AV.fgt,AV.trn,Dv]
 | .clo f cs,h=>by
  simp only[AV.fgt]at h
  split at h
  .cases h
  rename_i hm;simp only[AV.trn,As (sA htl hm)]
 | .ag l,h=>by
  simp only[AV.fgt,AV.ag.injEq]at h
  simp only[AV.trn,trns_of_fgt hn htl l h]
 | .tup l,h=>by
  simp only[AV.fgt,AV.tup.injEq]at h
  simp only[AV.trn,trns_of_fgt hn htl l h]
 | .p _ _,_=>rfl
 | .pc _ _,_=>rfl
 | .raw _,_=>rfl
 | .ip _ _,_=>rfl
 | .fn _,_=>rfl
 | .top,_=>rfl
theorem trns_of_fgt (hn:n∈ns) (htl:∀n,n∈tl->n∈ns):∀(l:List AV),AV.fgts ns l=l->AV.trns n tl l=l
 | [],_=>rfl
 | x :: r,h=>by
  simp only[AV.fgts,oR]at h
  simp only[AV.trns,WV hn htl x h.1,trns_of_fgt hn htl r h.2]
end
end
def Kg:AV->Bool
 | .raw _=>true
 | .p _ _=>true
 | _=>false
def Lu:Obj->Bool
 | .arr _ _ _=>true
 | .box _ _ fs=>fs.all Kg
 | _=>false
theorem WW {n:Nat} {e:Ty} {xs:List e.den}:∀fs:List AV,fs.all Kg=true->AV.frzs n e xs fs=fs
 | [],_=>rfl
 | x :: r,h=>by
  rw[Yp,An]at h;simp only[AV.frzs,WW r h.2];cases x<;>first|rfl|(have:=h.1;simp[Kg]at this)
theorem WX {n:Nat}:∀fs:List AV,fs.all Kg=true->AV.drps n fs=fs
 | [],_=>rfl
 | x :: r,h=>by
  rw[Yp,An]at h;simp only[AV.drps,WX r h.2];cases x<;>first|rfl|(have:=h.1;simp[Kg]at this)
theorem A0u {n:Nat} {e:Ty} {xs:List e.den} {o:Obj} (h:Lu o=true):Obj.frz n e xs o=o:=by
 cases o with
 | box et st fs=>simp only[Obj.frz,WW fs h]
 | arr et a ys=>rfl
 | _=>cases h
theorem A0v {n:Nat} {o:Obj} (h:Lu o=true):Obj.drp n o=o:=by
 cases o with
 | box et st fs=>simp only[Obj.drp,WX fs h]
 | arr et a ys=>rfl
 | _=>cases h
theorem WY {hs:List Nat}:∀fs:List AV,fs.all Kg=true->AV.fgts hs fs=fs
 | [],_=>rfl
 | x :: r,h=>by
  rw[Yp,An]at h;simp only[AV.fgts,WY r h.2];cases x<;>first|rfl|(have:=h.1;simp[Kg]at this)
theorem Zm {hs:List Nat} {o:Obj} (h:Lu o=true):Obj.fgt hs o=o:=by
 cases o with
 | box et st fs=>simp only[Obj.fgt,WY fs h]
 | arr et a ys=>rfl
 | _=>cases h
theorem WZ {n:Nat} {hs:List Nat}:∀fs:List AV,fs.all Kg=true->AV.trns n hs fs=fs
 | [],_=>rfl
 | x :: r,h=>by
  rw[Yp,An]at h;simp only[AV.trns,WZ r h.2];cases x<;>first|rfl|(have:=h.1;simp[Kg]at this)
theorem A0w {n:Nat} {hs:List Nat} {o:Obj} (h:Lu o=true):Obj.trn n hs o=o:=by
 cases o with
 | box et st fs=>simp only[Obj.trn,WZ fs h]
 | arr et a ys=>rfl
 | _=>cases h
structure Hz (X σ:St) (ns:List Nat):Prop where
 env:∀s v,lk s X.env=some v->v.fgt ns=v
 arr:∀n o,lk n X.objs=some o->Lu o=true
 new:∀n o,lk n X.objs=some o->lk n σ.objs=none
 nm:∀n o,lk n X.objs=some o->n∉ns
section
variable {σ σ' X:St} {ns:List Nat}
theorem RF.lkn (b:RF σ σ' X) (ha:Hz X σ ns) {n:Nat} (hn:n∈ns):lk n σ'.objs=lk n σ.objs:=by
 rw[b.objs];cases a:lk n X.objs with
 | none=>rfl
 | some o=>exact absurd hn (ha.nm n o a)
theorem RF.obs (b:RF σ σ' X) (ha:Hz X σ ns):fZ σ σ':=by
 intro n o hn;rw[b.objs];cases a:lk n X.objs with
 | none=>exact hn
 | some c=>rw[ha.new n c a]at hn;cases hn
theorem sB {n:Nat} (c:RF σ σ' X) (ha:Hz X σ ns) (hn:n∈ns):RF (frz n σ) (frz n σ') X/\Hz X (frz n σ) ns:=by
 unfold frz;split
 .exact⟨c,ha⟩
 have core:∀(e:Ty) (xs:List e.den),RF ⟨DG n e xs σ.env,A2 n e xs (del n σ.objs)⟩ ⟨DG n e xs σ'.env,A2 n e xs (del n σ'.objs)⟩ X/\Hz X ⟨DG n e xs σ.env,A2 n e xs (del n σ.objs)⟩ ns:=by
  intro e xs;refine⟨⟨λs=>?_,λm=>?_⟩,ha.env,ha.arr,λm o b=>?_,ha.nm⟩
  .simp only[Mt,c.env];cases a:lk s X.env with
   | none=>rfl
   | some v=>simp[WR hn v (ha.env s v a)]
  .simp only[CW,RN];by_cases b:m=n
   .subst b;cases a:lk m X.objs with
    | none=>simp
    | some o=>exact absurd hn (ha.nm m o a)
   simp only[As b,c.objs];cases a:lk m X.objs with
   | none=>rfl
   | some o=>exact Uu some (A0u (ha.arr m o a))
  simp only[CW,RN];split
  .rfl
  rw[ha.new m o b];rfl
 rw[c.lkn ha hn];unfold mV;grind
theorem Wa:∀ {l:List Nat} {σ σ':St},RF σ σ' X->Hz X σ ns->(∀n∈l,n∈ns)->RF (Cv l σ) (Cv l σ') X/\Hz X (Cv l σ) ns
 | [],_,_,a,ha,_=>⟨a,ha⟩
 | n :: l,σ,σ',a,ha,h=>by
  obtain⟨h1,b⟩:=sB a ha (h n (by simp));have:=Wa (l:=l) h1 b λm c=>h m (by simp[c]);exact this
def A0x (σ σ':St) (xs:List Operand):Prop:=∀x∈xs,Ar σ' x=Ar σ x
theorem c7 (b:RF σ σ' X) {xs:List Operand} (h:∀t∈xs.filterMap P6,lk t X.env=none):A0x σ σ' xs:=by
 intro x a;cases x with
 | tmp t =>
  simp only[Ar,b.env];rw[h t (AE3.2 ⟨_,a,rfl⟩)];rfl
 | const v=>rfl
 | global g=>rfl
 | func f=>rfl
theorem Lv:∀ {l:List (Nat×Operand)},A0x σ σ' (l.map (·.2))->DH σ' l=DH σ l
 | [],_=>rfl
 | (i,x) :: r,h=>by
  simp only[DH];rw[h x (by simp),Lv (λy a=>h y (by simp only[UD,By];exact .inr a))]
theorem QJ:∀ {l:List (Nat×Operand)},A0x σ σ' (l.map (·.2))->E1 σ' l=E1 σ l
 | [],_=>rfl
 | (i,x) :: r,h=>by
  simp only[E1];rw[h x (by simp),QJ (λy a=>h y (by simp only[UD,By];exact .inr a))]
theorem n5 (b:RF σ σ' X) (ha:Hz X σ ns) (n:Nat):Ce (lk n σ'.objs)=Ce (lk n σ.objs):=by
 rw[b.objs];cases a:lk n X.objs with
 | none=>rfl
 | some o =>
  rw[ha.new n o a];have:=ha.arr n o a;cases o<;>first|rfl|cases this
theorem iM (a:RF σ σ' X) (ha:Hz X σ ns) {op:Op} (h:A0x σ σ' op.operands.toList):C0 σ' op=C0 σ op:=by
 cases op<;>simp only[C0];case buildSlice t n parts =>
  exact Lv (λx a=>h x (by simpa[Op.operands] using a))
 case build t parts =>
  exact QJ (λx a=>h x (by simpa[Op.operands] using a))
 case store t x y =>
  rw[h x (by simp[Op.operands]),h y (by simp[Op.operands])];unfold CV;split
  .rw[n5 a ha]
  rfl
 case mapUpdate t m x y =>
  rw[h m (by simp[Op.operands]),h x (by simp[Op.operands]),h y (by simp[Op.operands])]
def Jl (σ:St):Option AV->Option AV->List Nat
 | some (.sr n _ _ _),some (.sr m _ _ _)=>if Ce (lk n σ.objs)=true then [n,m] else [n]
 | some (.sr n _ _ _),_=>[n]
 | some (.nin n _ _ _),_=>[n]
 | some (.raw _),some (.sr m _ _ _)=>if Ce (lk m σ.objs)=true then [m] else []
 | _,_=>[]
def iO (σ:St):Option AV->Option AV->List Nat
 | some (.ep n _ _ _ _),some (.sr m _ _ _)=>if Ce (lk n σ.objs)=true then [n,m] else []
 | _,_=>[]
def c8 (σ:St):Op->List Nat
 | .call c=>match c.callee,c.args.toList with
  | .builtin .append,[x,y]=>Jl σ (Ar σ x) (Ar σ y)
  | _,_=>[]
 | .store _ x y=>iO σ (Ar σ x) (Ar σ y)
 | _=>[]
theorem A2N {n:Nat} {e:Ty} {lo hi:Nat} {v:AV}:n∈Jl σ (some (.sr n e lo hi)) (some v):=by
 cases v<;>first|(simp[Jl];done)|(simp only[Jl];split<;>simp)
theorem sC (f:RF σ σ' X) (ha:Hz X σ ns) {tl:List Nat} (e:∀n,n∈tl->n∈ns) {d b:Nat} {v:AV} {g:Obj} (i:lk d X.env=none) (j:lk b X.objs=none) :
  RF ⟨(d,v) :: CH tl σ.env,(b,g) :: Av tl tl σ.objs⟩ ⟨(d,v) :: CH tl σ'.env,(b,g) :: Av tl tl σ'.objs⟩ X:=by
 refine⟨λs=>?_,λm=>?_⟩
 .simp only[lk];by_cases hs:s=d
  .grind
  rw[As hs,As hs,Ef,Ef,f.env];cases a:lk s X.env with
  | none=>rfl
  | some w=>simp[WU e w (ha.env s w a)]
 simp only[lk];by_cases c:m=b
 .grind
 rw[As c,As c,B3,B3,f.objs];cases a:lk m X.objs with
 | none=>rfl
 | some w =>
  rw[As λh=>ha.nm m w a (e _ ((Ap _ _).1 h))];exact Uu some (Zm (ha.arr m w a))
theorem sD (c:RF σ σ' X) (ha:Hz X σ ns) {n:Nat} {tl:List Nat} (hn:n∈ns) (b:∀n,n∈tl->n∈ns) {en:List (Nat×AV)} {new:List (Nat×Obj)} (d:∀s v,lk s en=some v->lk s X.env=none) (f:∀m o,lk m new=some o->lk m X.objs=none) :
  RF ⟨en++Er n tl σ.env,new++Cz n tl σ.objs⟩ ⟨en++Er n tl σ'.env,new++Cz n tl σ'.objs⟩ X:=by
 refine⟨λs=>?_,λm=>?_⟩
 .simp only[A3];cases hs:lk s en with
  | some v=>rw[d s v hs];rfl
  | none =>
   rw[HW,HW,c.env];cases a:lk s X.env with
   | none=>rfl
   | some w=>simp[WV hn b w (ha.env s w a)]
 simp only[A3];cases e:lk m new with
 | some o=>rw[f m o e];rfl
 | none =>
  rw[EU,EU,c.objs];cases a:lk m X.objs with
  | none=>rfl
  | some w =>
   rw[As λh=>ha.nm m w a (by
    rcases By.1 ((Ap _ _).1 h) with rfl|h
    .exact hn
    exact b _ h)]
   exact Uu some (A0w (ha.arr m w a))
theorem c9 {n:Nat} {o d:Obj} (c:RF σ σ' X) (ha:Hz X σ ns) (hn:lk n σ.objs=some o) {env b:List (Nat×AV)} (f:∀s,lk s b=(lk s X.env).or (lk s env)):RF ⟨env,upd n d σ.objs⟩ ⟨b,upd n d σ'.objs⟩ X:=by
 refine⟨f,λm=>?_⟩;simp only[GE];have e:lk n X.objs=none:=by
  cases h:lk n X.objs with
  | none=>rfl
  | some u=>rw[ha.new n u h]at hn;cases hn
 by_cases a:m=n
 .subst a;rw[BY rfl,BY rfl,c.objs,e];rfl
 rw[As a,As a,c.objs]
theorem RF.some_lk (a:RF σ σ' X) (ha:Hz X σ ns) {n:Nat} {o:Obj} (h:lk n σ.objs=some o):lk n σ'.objs=some o:=a.obs ha n o h
theorem A0y {tb:Tb} {op:Op} {d:Option Nat} {vc:Prop} {τ:St} (a:RF σ σ' X) (ha:Hz X σ ns) (K:A0x σ σ' op.operands.toList) (A:∀n∈c8 σ op,n∈ns) (U:∀t,d=some t->lk t X.env=none) (T:∀n,(∃u,lk n τ.objs=some u)->lk n X.objs=none) (h:HA tb σ d op=some (vc,τ)) :
  (∃ak,HA tb σ' d op=some (vc,ak)/\RF τ ak X)/\∀k,aq tb σ' k op=none:=by
 have R:=a.obs ha;cases op<;>simp only[HA]at h<;>try(cases h;done)
 case store t x y =>
  refine⟨?_,λ_=>rfl⟩;simp only[HA];have A:∀n∈iO σ (Ar σ x) (Ar σ y),n∈ns:=A;rw[K x (by simp[Op.operands]),K y (by simp[Op.operands])];cases d with
  | some d=>simp[De]at h
  | none =>
   simp only[De]at h ⊢;generalize Ar σ x=al at h A ⊢;generalize Ar σ y=am at h A ⊢;unfold Hi at h ⊢;split at h
   .rename_i ti n aw off v Z;try simp only
    unfold DM at h ⊢;split at h
    .rename_i et st fs f;rw[a.some_lk ha f];try simp only
     unfold Ez at h ⊢;split at h
     .rename_i u az h1 G;try rw[h1,G]
      try simp only
      split at h
      .rename_i B;rw[BY B];cases h;exact⟨_,rfl,c9 a ha f a.env⟩
      cases h
     cases h
    cases h
   .rename_i ti n e i aw off v Z;try simp only
    unfold DN at h ⊢;split at h
    .rename_i et ae xs f;rw[a.some_lk ha f];try simp only
     cases aa:Mm false σ ti.ty v with
     | none=>rw[aa]at h;unfold EO at h;split at h<;>first|(cases h;done)|(rename_i G;cases G)
     | some w =>
      rw[E5 R aa];rw[aa]at h;unfold EO at h ⊢;split at h
      .rename_i ys w' h1 G;cases G;try rw[h1]
       try simp only
       unfold Fd at h ⊢;split at h
       .rename_i z P;try rw[P]
        try simp only
        split at h
        .rename_i B;rw[BY B];cases h;exact⟨_,rfl,c9 a ha f a.env⟩
        cases h
       cases h
      cases h
    .rename_i et ad k F xs j f;rw[a.some_lk ha f];try simp only
     split at h
     .rename_i m E hi;try simp only
      split at h
      .rename_i B;rw[BY B];unfold La at h ⊢;split at h
       .rename_i J;rw[BY J];unfold LY at h ⊢;split at h
        .rename_i bb af ys D;rw[a.some_lk ha D];try simp only
         split at h
         .rename_i ap;rw[BY ap];unfold KN at h ⊢;split at h
          .rename_i aj ab;try rw[ab]
           try simp only
           cases h;have ai:∀q,q∈[n,m]->q∈ns:=λq c=>A q (by simp only[iO,f,Ce,Ut];exact c);refine⟨_,rfl,sD (en:=[]) (new:=[(n,_)]) a ha (ai n (by simp)) (λq c=>ai q (by simp at c;simp[c])) (λs v h=>by cases h) (λq o c=>T q ⟨o,?_⟩)⟩;simp only[lk]at c ⊢;split at c
           .rename_i F;cases c;rw[BY F]
           cases c
          cases h
         cases h
        cases h
       cases h
      cases h
     cases h
    cases h
   cases h
 case mapUpdate t m x y =>
  refine⟨?_,λ_=>rfl⟩;simp only[HA];rw[K m (by simp[Op.operands]),K x (by simp[Op.operands]),K y (by simp[Op.operands])];cases d with
  | some d=>simp[De]at h
  | none =>
   simp only[De]at h ⊢;generalize Ar σ m=ax at h ⊢;generalize Ar σ x=al at h ⊢;generalize Ar σ y=am at h ⊢;unfold KP at h ⊢;split at h
   .try simp only
    unfold Fe at h ⊢;split at h
    .rename_i bf bh l f;rw[a.some_lk ha f];try simp only
     split at h
     .rename_i B;rw[BY B];unfold GX at h ⊢;split at h
      .rename_i bd v1 h1 G;rw[E5 R h1,E5 R G];try simp only
       split at h
       .rename_i J;rw[BY J];cases h;exact⟨_,rfl,c9 a ha f a.env⟩
       cases h
      cases h
     cases h
    cases h
   cases h
 case call cl =>
  obtain⟨callee,⟨args⟩,⟨argTypes⟩⟩:=cl;cases callee with
  | value g=>simp[Dd]at h
  | invoke r m=>simp[Dd]at h
  | builtin b =>
   simp only[Dd]at h;unfold ER at h;split at h
   .rename_i x y t u;have O:Ar σ' x=Ar σ x:=K x (by simp[Op.operands,Call.operands]);have S:Ar σ' y=Ar σ y:=K y (by simp[Op.operands,Call.operands]);have A:∀n∈Jl σ (Ar σ x) (Ar σ y),n∈ns:=λn hn=>A n (by simpa[c8] using hn);unfold EC at h;split at h
    .rename_i n e hi v C I;rw[C,I]at A;refine⟨?_,λk=>by simp[aq,Dc,EM,DL,O,C]⟩;simp only[HA,Dd,ER,EC,O,C,S,I];split at h
     .rename_i p ;have L:=U p rfl;have M:n∈ns:=A n A2N;try simp only
      split at h
      .rename_i N;rw[BY N];unfold EP at h ⊢;split at h
       .rename_i af av el b2 Y;try rw[Y]
        try simp only
        split at h
        .rename_i W;rw[BY W];unfold CY at h ⊢;split at h
         .rename_i ti et ae xs h1 f;try rw[h1]
          try rw[a.some_lk ha f]
          try simp only
          split at h
          .rename_i ar;rw[BY ar];unfold E0 at h ⊢;split at h
           .rename_i aj ys G P;try rw[G]
            rw[Pz R P];try simp only
            cases h;refine⟨_,rfl,⟨λs=>?_,λm=>?_⟩⟩
            .simp only[lk];by_cases hs:s=p
             .subst hs;rw[BY rfl,BY rfl,L];rfl
             rw[As hs,As hs,Jb,Jb,a.env];cases H:lk s X.env with
             | none=>rfl
             | some w=>simp[WT M w (ha.env s w H)]
            simp only[GE,Bl];have ao:lk n X.objs=none:=by
             cases H:lk n X.objs with
             | none=>rfl
             | some w=>exact absurd M (ha.nm n w H)
            by_cases D:m=n
            .subst D;rw[BY rfl,BY rfl,a.objs,ao];rfl
            rw[As D,As D,a.objs];cases H:lk m X.objs with
            | none=>rfl
            | some w=>exact Uu some (A0v (ha.arr m w H))
           cases h
          cases h
         .rename_i ti et ad k ae xs h1 f;try rw[h1]
          try rw[a.some_lk ha f]
          try simp only
          split at h
          .rename_i B;rw[BY B];unfold SX at h ⊢;split at h
           .rename_i m E au;try simp only
            unfold LZ at h ⊢;split at h
            .rename_i an ba be ay ys D;rw[a.some_lk ha D];try simp only
             split at h
             .rename_i J;rw[BY J];unfold KO at h ⊢;split at h
              .rename_i aj ab;try rw[ab]
               try simp only
               cases h;refine⟨_,rfl,sC a ha (λq c=>A q (by simp only[Jl,f,Ce,Ut];exact c)) L ?_⟩;cases H:lk n X.objs with
               | none=>rfl
               | some w=>exact absurd M (ha.nm n w H)
              cases h
             cases h
            cases h
           cases h
          cases h
         cases h
        cases h
       cases h
      cases h
     cases h
    .rename_i n e i len v C I;rw[C,I]at A;refine⟨?_,λk=>by simp[aq,Dc,EM,DL,O,C]⟩;simp only[HA,Dd,ER,EC,O,C,S,I];split at h
     .rename_i p ;have L:=U p rfl;have M:n∈ns:=A n (by simp[Jl]);try simp only
      split at h
      .rename_i N;rw[BY N];unfold Pe at h ⊢;split at h
       .rename_i af av el b2 Y;try rw[Y]
        try simp only
        split at h
        .rename_i W;rw[BY W];unfold SW at h ⊢;split at h
         .rename_i ti et ad k F xs h1 f;try rw[h1]
          try rw[a.some_lk ha f]
          try simp only
          split at h
          .rename_i B;rw[BY B];unfold Nh at h ⊢;split at h
           .rename_i ys P;rw[Pz R P];try simp only
            split at h
            .rename_i ag;have Q:lk p X.objs=none:=by
              refine T p ?_;cases h;exact⟨_,by simp only[lk,Ut];rfl⟩
             have V:(lk p σ'.objs).isNone=true/\ys.isEmpty=false:=⟨by rw[a.objs,Q];exact ag.1,ag.2⟩;rw[BY V];cases h;refine⟨_,rfl,sD (en:=[(p,_)]) (new:=[(p,_),(n,_)]) a ha M (λq c=>by cases c) (λs v h=>?_) (λq o c=>?_)⟩
             .simp only[lk]at h;split at h
              .rename_i F;rw[F];exact L
              cases h
             simp only[lk]at c;split at c
             .rename_i F;rw[F];exact Q
             split at c
             .rename_i F;rw[F];cases H:lk n X.objs with
              | none=>rfl
              | some w=>exact absurd M (ha.nm n w H)
             cases c
            cases h
           cases h
          cases h
         cases h
        cases h
       cases h
      cases h
     cases h
    .rename_i v C I;rw[C,I]at A;split at h
     .rename_i p ;have L:=U p rfl;split at h
      .rename_i N;unfold b7 at h;split at h
       .rename_i m E au bg offs el b Z;unfold Pg at h;split at h
        .rename_i ti an ad k e ys h1 D;split at h
         .rename_i B;unfold Pf at h;split at h
          .rename_i J;have Q:lk p X.objs=none:=by
            refine T p ?_;cases h;exact⟨_,by simp only[lk,Ut];rfl⟩
           have V:(lk p σ'.objs).isNone=true:=by rw[a.objs,Q];exact J.1
           have ah:=a.some_lk ha D;refine⟨?_,λbc=>by simp[aq,Dc,EM,DL,O,C,S,I,N,EL,PY,ah,Ce];split<;>simp[Ey]⟩;cases h;simp only[HA,Dd,ER,EC,O,C,S,I,b7,Pg,Pf];rw[BY N,Z];simp only;rw[ah,h1];simp only;rw[BY B,BY ⟨V,J.2⟩];exact⟨_,rfl,sC a ha (λq c=>A q (by simp only[Jl,D,Ce,Ut];exact c)) L Q⟩
          cases h
         cases h
        cases h
       cases h
      cases h
     cases h
    cases h
   cases h
end
end
section
open Go Go.RowKit
def A2O (o:Obj):Bool:=Lu o
def Lw (o:Oper):EN->Bool
 | []=>true
 | (d,_,_) :: r=>!Aa d (Gv o.op)&&!Aa d o.dst.toList&&Lw o r
def VN (ns:List Nat) (σ:List (Nat×Obj)):List (Nat×Obj)->Bool
 | []=>true
 | (n,o) :: r=>(lk n σ).isNone&&!Aa n ns&&A2O o&&VN ns σ r
def H0 (ns:List Nat) (σ:List (Nat×Obj)):EN->Bool
 | []=>true
 | (_,_,obs) :: r=>VN ns σ obs&&H0 ns σ r
def dA (τ:List (Nat×Obj)):List (Nat×Obj)->Bool
 | []=>true
 | (n,_) :: r=>(lk n τ).isNone&&dA τ r
def Ss (τ:List (Nat×Obj)):EN->Bool
 | []=>true
 | (_,_,obs) :: r=>dA τ obs&&Ss τ r
def HB (ns:List Nat):EN->EN
 | []=>[]
 | (d,v,obs) :: r=>(d,v.fgt ns,obs) :: HB ns r
def tn (σ:St) (o:Op):List Nat:=C0 σ o++c8 (Cv (C0 σ o) σ) o
theorem Gh {o:Oper}:∀ {ens:EN},Lw o ens=true->∀e∈ens,e.1∉Gv o.op/\o.dst≠some e.1
 | [],_,e,a=>by cases a
 | (d,v,obs) :: r,h,e,a=>by
  simp only[Lw,An,TO]at h;rcases By.1 a with rfl|a
  .grind [Ap,Aa]
  exact Gh h.2 e a
theorem QK {ns:List Nat} {σ:List (Nat×Obj)}:∀ {l:List (Nat×Obj)},VN ns σ l=true->∀p∈l,lk p.1 σ=none/\p.1∉ns/\A2O p.2=true
 | [],_,e,a=>by cases a
 | (n,o) :: r,h,p,hp=>by
  simp only[VN,An,TO,Uh]at h;rcases By.1 hp with rfl|hp
  .grind [Ap]
  exact QK h.2 p hp
theorem Gi {ns:List Nat} {σ:List (Nat×Obj)}:∀ {ens:EN},H0 ns σ ens=true->∀e∈ens,∀p∈e.2.2,lk p.1 σ=none/\p.1∉ns/\A2O p.2=true
 | [],_,e,a=>by cases a
 | (d,v,obs) :: r,h,e,a=>by
  simp only[H0,An]at h;rcases By.1 a with rfl|a
  .exact QK h.1
  exact Gi h.2 e a
theorem Su {τ:List (Nat×Obj)}:∀ {l:List (Nat×Obj)},dA τ l=true->∀p∈l,lk p.1 τ=none
 | [],_,e,a=>by cases a
 | (n,o) :: r,h,p,hp=>by
  simp only[dA,An,Uh]at h;rcases By.1 hp with rfl|hp
  .exact h.1
  exact Su h.2 p hp
theorem OW {τ:List (Nat×Obj)}:∀ {ens:EN},Ss τ ens=true->∀e∈ens,∀p∈e.2.2,lk p.1 τ=none
 | [],_,e,a=>by cases a
 | (d,v,obs) :: r,h,e,a=>by
  simp only[Ss,An]at h;rcases By.1 a with rfl|a
  .exact Su h.1
  exact OW h.2 e a
theorem OX {ns:List Nat}:∀ {ens:EN},HB ns ens=ens->∀e∈ens,e.2.1.fgt ns=e.2.1
 | [],_,e,a=>by cases a
 | (d,v,obs) :: r,h,e,a=>by
  simp only[HB,oR,AEd,and_true,true_and]at h;rcases By.1 a with rfl|a
  .exact h.1
  exact OX h.2 e a
section
variable {c:Cx} {o:Oper} {σ:St} {ens:EN} {N:St->Prop}
theorem iP {X:St} {ns:List Nat} (b:XIn ens X) (hn:H0 ns σ.objs ens=true) (hf:HB ns ens=ens):Hz X σ ns:=by
 refine⟨λs v hs=>?_,λn o a=>?_,λn o a=>?_,λn o a=>?_⟩
 .obtain⟨obs,d⟩:=b.env s v hs;exact OX hf _ d
 all_goals
  obtain⟨e,c,hp⟩:=b.objs n o a;have:=Gi hn e c _ hp
 .exact this.2.2
 .exact this.1
 exact this.2.1
theorem Zn (ab:c.Ok) {τ:St} {vc:Prop} (ns:List Nat) (h:Hj c.tb o σ=some (vc,τ)) (U:tn σ o.op=ns) (L:Lw o ens=true) (hn:H0 ns σ.objs ens=true) (S:Ss τ.objs ens=true) (hf:HB ns ens=ens) (ad:Il c.nt o=true) (ae:vc) (aa:N τ):ZC c o σ ens N:=by
 subst U;intro X σ' j k a w next Q hs hk
 have ha:=iP k hn hf;have F:∀t∈Gv o.op,lk t X.env=none:=λt A=>by
  cases g:lk t X.env with
  | none=>rfl
  | some v=>obtain⟨obs,f⟩:=k.env t v g;exact absurd A (Gh L _ f).1
 have D:∀t,o.dst=some t->lk t X.env=none:=λt A=>by
  cases g:lk t X.env with
  | none=>rfl
  | some v=>obtain⟨obs,f⟩:=k.env t v g;exact absurd A (Gh L _ f).2
 have G:∀n,(∃u,lk n τ.objs=some u)->lk n X.objs=none:=λn hu=>by
  cases g:lk n X.objs with
  | none=>rfl
  | some v =>
   obtain⟨e,R,hp⟩:=k.objs n v g;obtain⟨u,hu⟩:=hu;rw[OW S e R _ hp]at hu;cases hu
 have Y:=iM j ha (op:=o.op) (c7 j F);obtain⟨b,y⟩:=Wa (l:=C0 σ o.op) j ha (λm f=>by simp[tn,f]);have key:∃q,Hj c.tb o σ'=some (vc,q)/\RF τ q X:=by
  have H:∀n∈c8 (Cv (C0 σ o.op) σ) o.op,n∈tn σ o.op:=λm f=>by simp[tn,f]
  unfold Hj SY at h ⊢;rw[Y];generalize Cv (C0 σ o.op) σ=B at h b y H;generalize Cv (C0 σ o.op) σ'=C at b;have K:=c7 b F;cases z:aq c.tb B (o.dst.getD 0) o.op with
  | some r =>
   obtain⟨af,v,obs⟩:=r;rw[z]at h;have W:=VJ (b.obs y) (λx j v Z=>by rw[K x j];exact Z) z;rw[W];simp only[Ni]at h ⊢;split at h
   .rename_i I;cases h;have J:∀n,lk n (B.add v obs o.dst).objs=(lk n obs).or (lk n B.objs):=λn=>by cases o.dst<;>simp only[St.add,A3]
    have V:∀n,lk n (C.add v obs o.dst).objs=(lk n obs).or (lk n C.objs):=λn=>by cases o.dst<;>simp only[St.add,A3]
    have E:∀n u,lk n obs=some u->lk n X.objs=none:=λn u hu=>G n ⟨u,by rw[J,hu];rfl⟩;have T:Ba obs C=true:=by
     simp only[Ba,ON,Uh]at I ⊢;intro p hp;obtain⟨u,hu⟩:=M5 hp;rw[b.objs,E _ u hu,I p hp];rfl
    rw[BY T];refine⟨_,rfl,λs=>?_,λn=>?_⟩
    .cases P:o.dst with
     | none=>simp only[St.add];exact b.env s
     | some d =>
      simp only[St.add,lk];by_cases i:s=d
      .rw[BY i,BY i,i,D d P];rfl
      rw[As i,As i];exact b.env s
    rw[J,V,b.objs];cases hu:lk n obs with
    | none=>rfl
    | some u=>rw[E n u hu];rfl
   cases h
  | none =>
   rw[z]at h;simp only[Ni]at h;obtain⟨⟨q,h1,M⟩,O⟩:=A0y b y K H D G h;rw[O];simp only[Ni];exact⟨q,h1,M⟩
 grind [V0,Ci]
theorem iQ {σ σ':St}:∀ {xs:List Operand},A0x σ σ' xs->IY σ' xs=IY σ xs
 | [],_=>rfl
 | x :: r,h=>by
  simp only[IY];rw[h x (by simp),iQ (λy a=>h y (by simp[a]))]
theorem dB {σ σ':St} (h:fZ σ σ') {ren:List (Nat×Bw)} {x y:AV} (a:Gg σ ren x y):Gg σ' ren x y:=by
 cases y<;>first|exact a|exact E5 h a
theorem Np {σ σ':St} (h:fZ σ σ') {ren:List (Nat×Bw)}:∀ {l r:List AV},BL σ ren l r->BL σ' ren l r
 | [],[],_=>trivial
 | [],_ :: _,a=>a.elim
 | _ :: _,[],a=>a.elim
 | _ :: _,_ :: _,a=>⟨dB h a.1,Np h a.2⟩
theorem Nq {l l':List (Nat×Obj)} (h:∀n o,lk n l=some o->lk n l'=some o) {ren:List (Nat×Bw)}:∀ {r:List (Nat×Obj)},Ae l ren r->Ae l' ren r
 | [],_=>trivial
 | (m,o) :: r,a=>by
  refine⟨?_,Nq h a.2⟩;have h1:=a.1;cases hf:lk m ren with
  | none=>rw[hf]at h1;exact h1.elim
  | some f =>
   rw[hf]at h1;cases f with
   | nil=>exact h1
   | nm n =>
    simp only[GH]at h1 ⊢;cases hn:lk n l with
    | none=>rw[hn]at h1;simp only[Hs]at h1
    | some x=>rw[h n x hn,<-hn];exact h1
theorem A2P (m:Nat) {b τ:St} (g:ZC c o σ ens (λd=>d=τ)) (hn:H0 [m] τ.objs ens=true) (hf:HB [m] ens=ens) (n:frz m τ=b) (i:N b):ZC c o σ ens N:=by
 intro X σ' k e a w next Q hs hk
 refine g X σ' k e a w next Q hs ?_
 rintro p rfl f w' d l j;refine hk b i f w' (frz m d) ?_ ?_
 .rw[<-n];exact(sB l (iP e hn hf) (by simp)).1
 obtain⟨ρ,h⟩:=j;exact⟨ρ,rQ h m⟩
theorem A0z (af:c.Ok) {dst:Option Nat} {g:Operand} {xs:List Operand} {ts:Array TypeId} {ty:TypeId} {pos:String} {after:Array Edge}
  {f:FuncId} {D:List Nat} (aj:DB (Ar σ g)=some (f,D)) {as:List AV} (ae:IY σ xs=some as)
  {A:List AV} {objs:List (Nat×Obj)} {stay:List Nat} {post:AV->List (Nat×Obj)->Prop} (aa:A9 c.P f A objs stay post)
  (ren:List (Nat×Bw)) (hs:List Nat) (h1:B4 ren=true) (V:CJ objs ren=true) (am:(c.ds.pin.all λp=>!Aa p.1 hs)=true)
  (I:Lw ⟨dst,.call ⟨.value g,xs.toArray,ts⟩,ty,pos,after,none⟩ ens=true) (hn:H0 (Aj ren) σ.objs ens=true) (hf:HB hs ens=ens) (ag:Il c.nt ⟨dst,.call ⟨.value g,xs.toArray,ts⟩,ty,pos,after,none⟩=true)
  (Z:BL σ ren (as++D.map λn=>AV.bp n [] 0) A) (ab:Ae σ.objs ren objs)
  (hk:∀res r,post res r->∃(l:List (Nat×Bw)) (x:AV) (i:List (Nat×Obj)),B4 l=true/\CJ i l=true/\Ae r l i/\Bg l res x /\
   Ir ren l stay hs=true/\FC (Aj ren) i σ.objs=true/\Ss i ens=true/\N (CK σ (Aj ren) hs dst x i)) :
  ZC c ⟨dst,.call ⟨.value g,xs.toArray,ts⟩,ty,pos,after,none⟩ σ ens N:=by
 intro X σ' q k a w next Q ao al
 have ah:∀s v,lk s X.env=some v->v.fgt hs=v:=λs v hs=>by
  obtain⟨obs,m⟩:=k.env s v hs;exact OX hf _ m
 have G:fZ σ σ':=by
  intro n o z;rw[q.objs];cases b:lk n X.objs with
  | none=>exact z
  | some aq =>
   obtain⟨e,j,hp⟩:=k.objs n aq b;rw[(Gi hn e j _ hp).1]at z;cases z
 have ak:∀n o,lk n X.objs=some o->n∉Aj ren:=λn o B=>by
  obtain⟨e,j,hp⟩:=k.objs n o B;exact(Gi hn e j _ hp).2.1
 have ad:∀t∈(g :: xs).filterMap P6,lk t X.env=none:=λt C=>by
  cases b:lk t X.env with
  | none=>rfl
  | some v =>
   obtain⟨obs,m⟩:=k.env t v b;refine absurd ?_ (Gh I _ m).1;simpa[Gv,Op.operands,Call.operands] using C
 have ar:∀t,dst=some t->lk t X.env=none:=λt C=>by
  cases b:lk t X.env with
  | none=>rfl
  | some v=>obtain⟨obs,m⟩:=k.env t v b;exact absurd C (Gh I _ m).2
 have H:=c7 q ad;refine cX af (xs:=xs) (ts:=ts) rfl rfl (by rw[H g (by simp)];exact aj) (by rw[iQ (λy ap=>H y (by simp[ap]))];exact ae) aa ren h1 V (Np G Z) (Nq G ab) hs am ao (Ci ag) λres r hp=>?_;obtain⟨l,x,i,L,M,O,R,S,E,T,U⟩:=hk res r hp;have F:∀n o,lk n X.objs=some o->lk n i=none:=λn o B=>by
  obtain⟨e,j,hp⟩:=k.objs n o B;exact OW T e j _ hp
 refine⟨l,x,i,L,M,O,R,S,?_,λK w' an=>al _ U K w' _ ⟨λs=>?_,λn=>?_⟩ an⟩
 .simp only[FC,ON,UI,Uh]at E ⊢;intro p hp;rcases E p hp with h|h
  .exact .inl h
  right;rw[q.objs,h];cases b:lk p.1 X.objs with
  | none=>rfl
  | some u =>
   obtain⟨av,J⟩:=M5 hp;rw[F _ u b]at J;cases J
 .have ai:lk s (CH hs σ'.env)=(lk s X.env).or (lk s (CH hs σ.env)):=by
   rw[Ef,Ef,q.env];cases b:lk s X.env with
   | none=>rfl
   | some v=>simp[ah s v b]
  simp only[CK];cases dst with
  | none=>exact ai
  | some d =>
   simp only[Ke,lk];by_cases au:s=d
   .grind
   grind
 simp only[CK,A3,B3,q.objs];cases b:lk n X.objs with
 | none=>simp
 | some u =>
  have Y:Lu u=true:=by
   obtain⟨e,j,hp⟩:=k.objs n u b;exact(Gi hn e j _ hp).2.2
  have W:¬Aa n (Aj ren)=true:=λh=>ak n _ b ((Ap _ _).1 h);rw[F n _ b,As W];exact Uu some (Zm Y)
end
section
variable {c:Cx} {ops:List Oper} {Kf:St->Prop} {τ:St} {ens:EN} {vc:Prop}
theorem A2Q {D:List Nat} (h:nX c.tb ops τ.objs D [] τ.env=some (vc,ens)) (b:vc) (a:Rd ens τ.objs=true) (hk:Kf (Ls ens τ)):Mix c ops Kf [] D ens τ:=⟨⟨vc,h,b,a⟩,hk⟩
theorem A2R {A D:List Nat} {l:Nat} {b:List (List Nat×Nat)} {o:Oper} {d:St} {a:EN} (h:nX c.tb ops τ.objs (A++qs b D) [] τ.env=some (vc,ens)) (j:vc) (g:Rd ens τ.objs=true) (i:ops[l]?=some o) (k:Ls (ens.take A.length) τ=d) (f:ens.drop A.length=a)
  (e:ZC c o d a (λm=>Mix c ops Kf b D a m)):Mix c ops Kf ((A,l) :: b) D ens τ:=by
 subst k f;exact⟨⟨vc,h,j,g⟩,o,i,e⟩
end
end
section
open Go
attribute [local go_sem] gZ AM List.toList_toArray Bn evG evK Y3 Ee KQ Gf Fi Hj SY Ni C0 DH Mn CV Cv frz mV Ga DG A2 FY BX AV.frz AV.frzs AV.drp AV.drps AV.names AV.namess aq Gc LB KG TT JA BZ Bd JY EI Ib EJ Id Ic Ie Vk Pa Gu KI Fb EB Vl RI qUn JZ Ig LU FB Db JD KJ EK TV DL EL Ey RJ Ih Ng FL Nf Pb RK LV JE KK EM Dc HA De Hi DM Ez DN EO Fd CV Ce PY RH OC GW JC JB KH Pe SW Nh La LY KN SX LZ KO b7 Pg Pf AV.trn AV.trns Er Cz Obj.trn Jl iO Dd ER EC EP CY E0 Ar lk HG Gb Hf bin mU Y7 mX SU zf1 zfs pfs AV.cells CA JW PZ KM Pd CS Nc Ty.cell1 Ia Es Da F5 Mm Eq KF LT RE FK Gt NU TR Vj LS KD b5 f8 ST Hd Cf G9 RV.flat Ty.flat Ty.size St.add upd del Ba Value.oneCell' LP Ty.dflt IZ Py Ht QH List.take_succ_cons List.take_zero List.length_cons iD iE QG Ji Lp HX Jj A2s Fj Mx My Mz M0 RW RY M2 Io WC Option.map_some Option.map_none Option.bind_some Option.getD_some Option.getD_none Option.isNone_none Option.isNone_some Bool.and_true Bool.true_and Bool.and_false Bool.false_and Bool.not_true Bool.not_false if_true if_false List.length_cons List.length_nil and_true true_and and_self List.all_cons List.all_nil List.append_nil List.nil_append List.cons_append List.getElem?_cons_zero List.getElem?_cons_succ List.getElem?_nil List.map_cons List.map_nil List.set_cons_zero List.set_cons_succ List.isEmpty_nil List.isEmpty_cons decide_true decide_false beq_self_eq_true bne_self_eq_false Nat.zero_add Nat.add_zero Nat.sub_zero Int.toNat_natCast Int.toNat_zero Int.toNat_one List.take_length List.length_append List.length_singleton true_or or_true or_self false_or or_false Ty.agg.injEq Ty.slice.injEq Ty.prod.injEq Ty.int.injEq Option.some.injEq beq_iff_eq Ln evMG evMQ opM Hv Ll B0 Jh Gv P6 Jf Hu Ip KZ LG OP Nn OQ TY Lm QB QC Jg Aa Am Op.operands Call.operands List.filterMap_cons List.filterMap_nil List.append_eq Bool.cond_false_right Bool.cond_true_left cond_true cond_false implies_true decide_eq_true_eq beq_true beq_false Bool.or_true Bool.or_false Bool.true_or Bool.false_or Option.isSome_some Array.empty_append List.append_toArray FZ Mo E1 Hg b6 Pc Fc GD GC Ii Hh KL LX Y8 mW He inB KP Fe GX Ja Aq iG List.drop_zero DT Hw cZ CK Ke CH AV.fgt AV.fgts Obj.fgt Av Aj Aa DB IY BL Gg List.any_cons List.any_nil nX iH c5 iI Ls Rd qs List.flatMap_cons List.flatMap_nil List.cons_append tn c8 HB List.take_succ_cons List.drop_succ_cons B4 CJ Ae E4 KY Bg E3 Dg Hr Im GH Hs
end
end Go.Proofs.YtapkhdkbkodbjaaGreat.Fw
