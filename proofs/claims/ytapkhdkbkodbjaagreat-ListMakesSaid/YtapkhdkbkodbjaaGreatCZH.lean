/- Regions in which operations on memory float among quiet ones. -/
import Derived.Test.YtapkhdkbkodbjaaGreatCZG
set_option linter.unusedVariables false
set_option linter.unusedSimpArgs false
namespace Go.Proofs.YtapkhdkbkodbjaaGreat.Fw
section
open Go Go.RowKit
abbrev EN:=List (Nat×AV×List (Nat×Obj))
def jF (x:Option Oper) (f:Oper->Option (Prop×EN)):Option (Prop×EN) :=
 match x with
 | some o=>f o
 | none=>none
def dG (d:Option Nat) (r:BV) (f:Nat->Prop->AV->List (Nat×Obj)->Option (Prop×EN)):Option (Prop×EN) :=
 match d,r with
 | some d,some (vc,v,obs)=>f d vc v obs
 | _,_=>none
def jG (d:Nat) (vc:Prop) (v:AV) (obs:List (Nat×Obj)) (r:Option (Prop×EN)):Option (Prop×EN) :=
 match r with
 | some (a,l)=>some (vc/\a,(d,v,obs) :: l)
 | none=>none
def pB (tb:Tb) (ops:List Oper) (base:List (Nat×Obj)):List Nat->List (Nat×List (Nat×Obj))->List (Nat×AV)->Option (Prop×EN)
 | [],_,_=>some (True,[])
 | i :: Q,E,env=>jF (ops[i]?) λo=>dG o.dst (aq tb ⟨env,MF false o.op base E⟩ (o.dst.getD 0) o.op) λd vc v obs=>jG d vc v obs (pB tb ops base Q (J6 d obs E) ((d,v) :: env))
def MO:EN->St->St
 | [],σ=>σ
 | (d,v,obs) :: r,σ=>MO r ⟨(d,v) :: σ.env,obs++σ.objs⟩
def Rx:EN->List (Nat×Obj)->Bool
 | [],_=>true
 | (_,_,obs) :: r,objs=>(obs.all λp=>(lk p.1 objs).isNone)&&Rx r (obs++objs)
def AAZ (tb:Tb) (ops:List Oper) (Q:List Nat) (ens:EN) (τ:St):Prop:=∃vc:Prop,pB tb ops τ.objs Q [] τ.env=some (vc,ens)/\vc/\Rx ens τ.objs=true
def qs (a:List (List Nat×Nat)) (D:List Nat):List Nat:=(a.flatMap (·.1))++D
def qB1 (ops:List Oper) (anc:List (List Nat)) (L Q:List Nat):List Nat->List Nat->Bool
 | [],_=>true
 | i :: r,pre=>(match ops[i]? with
   | some o=>o.dst.isSome&&o.guard.isNone&&((EA o).all λe=>Ab e L||Ab e pre)&&((HP o.op).all λt=>Q.all λj=>Ak ops j != some t||(Ab j (anc.getD i [])&&Ab j pre))&&(pre.all λj=>Ak ops j != o.dst)&&!Ab i L&&!Ab i pre
   | none=>false)&&qB1 ops anc L Q r (i :: pre)
def UC (ops:List Oper) (anc:List (List Nat)) (p0:Nat):List Nat->List (List Nat×Nat)->List Nat->Bool
 | L,[],D=>qB1 ops anc L D D []&&((List.range p0).all λi=>Ab i L||Ab i D)&&decide (L.length+D.length=p0)&&decide (p0<=ops.length)&&(L.all λi=>decide (i<p0))&&(D.all λi=>decide (i<p0))&&((List.range ops.length).all λi=>decide (i<p0)||(List.range i).all λj=>Ab j (anc.getD i []))
 | L,(A,l) :: a,D=>qB1 ops anc L (A++qs a D) (A++qs a D) []&&(match ops[l]? with
   | some o=>o.guard.isNone&&((EA o).all λe=>Ab e L||Ab e A)&&(A.all λj=>Ab j (anc.getD l []))&&!Ab l L&&!Ab l (A++qs a D)
   | none=>false)&&(a.all λp=>Ab l (anc.getD p.2 []))&&UC ops anc p0 (l :: (A++L)) a D
def AB0 (ops:List Oper) (anc:List (List Nat)):Bool :=
 (List.range ops.length).all λi=>match ops[i]? with|some o=>((EA o).all λe=>decide (e<i))&&((anc.getD i []).all λj=>Ab j (EA o)||(EA o).any λe=>Ab j (anc.getD e []))|none=>false
structure Ra (σ σ' X:St):Prop where
 env:∀s,lk s σ'.env=(lk s X.env).or (lk s σ.env)
 objs:∀n,lk n σ'.objs=(lk n X.objs).or (lk n σ.objs)
structure XIn (ens:EN) (X:St):Prop where
 env:∀s v,lk s X.env=some v->∃obs,(s,v,obs)∈ens
 objs:∀n o,lk n X.objs=some o->∃e∈ens,(n,o)∈e.2.2
def Y9 (c:Cx) (o:Oper) (σ:St) (ens:EN) (N:St->Prop):Prop :=
 ∀(X σ':St),Ra σ σ' X->XIn ens X->∀(a:Act) (w:World) (next:Act->World->Prop) (Q:Exit->Act->World->Prop),c.sat σ' a w ->
  (∀τ,N τ->∀(b:Act) (w':World) (d:St),Ra τ d X->c.sat d b w'->next b w')->o.wpIn (FR c.r) 0 c.P a w next Q
def Mix (c:Cx) (ops:List Oper) (Kf:St->Prop):List (List Nat×Nat)->List Nat->EN->St->Prop
 | [],D,ens,τ=>AAZ c.tb ops D ens τ/\Kf (MO ens τ)
 | (A,l) :: a,D,ens,τ=>AAZ c.tb ops (A++qs a D) ens τ/\∃o,ops[l]?=some o/\Y9 c o (MO (ens.take A.length) τ) (ens.drop A.length) (λb=>Mix c ops Kf a D (ens.drop A.length) b)
def PM (Q:List Nat) (ens:EN) (i:Nat):En :=
 match lk i (Q.zip ens) with
 | some (_,v,obs)=>⟨true,v,obs⟩
 | none=>⟨true,.top,[]⟩
section
variable {ops:List Oper} {en:Nat->En} {τ:St}
theorem Ry:∀(l:List Nat),(Ar ops en τ l).env=(Ar ops en ⟨[],[]⟩ l).env++τ.env
 | []=>rfl
 | i :: r=>by
  simp only[Ar];cases Ak ops i with
  | none=>simp only[St.add];exact Ry r
  | some d=>simp only[St.add,ZP];rw[Ry r]
theorem pC (l:List Nat):(Ar ops en τ l).objs=(Ar ops en ⟨[],[]⟩ l).objs++τ.objs:=by
 rw[Fb,Fb];simp
theorem A3N (l:List Nat):Ra τ (Ar ops en τ l) (Ar ops en ⟨[],[]⟩ l) :=
 ⟨λs=>by rw[Ry,A6],λn=>by rw[pC,A6]⟩
structure Own (ops:List Oper) (en:Nat->En) (τ:St) (Q:List Nat):Prop where
 slot:∀i∈Q,∀j∈Q,∀s,Ak ops i=some s->Ak ops j=some s->i=j
 new:∀i∈Q,∀n o,lk n (en i).obs=some o->lk n τ.objs=none
 name:∀i∈Q,∀j∈Q,∀n o o',lk n (en i).obs=some o->lk n (en j).obs=some o'->i=j
theorem lkE {Q l:List Nat} (h:Own ops en τ Q) (hl:∀i∈l,i∈Q) (s:Nat) (v:AV):lk s (Ar ops en τ l).env=some v↔(∃i∈l,Ak ops i=some s/\(en i).v=v)\/((∀i∈l,Ak ops i≠some s)/\lk s τ.env=some v):=by
 rw[Fc];cases hf:l.find? (λj=>Ak ops j==some s) with
 | none =>
  have hn:∀i∈l,Ak ops i≠some s:=λi hi=>by simpa using AG6.1 hf i hi
  constructor
  .grind
  grind
 | some j =>
  have b:=AFn hf;have a:Ak ops j=some s:=by simpa using AGs hf
  constructor
  .grind
  rintro (⟨i,hi,c,rfl⟩|⟨hn,_⟩)
  .rw[h.slot i (hl i hi) j (hl j b) s c a]
  exact absurd a (hn j b)
theorem lkO {Q l:List Nat} (h:Own ops en τ Q) (hl:∀i∈l,i∈Q) (n:Nat) (o:Obj):lk n (Ar ops en τ l).objs=some o↔(∃i∈l,lk n (en i).obs=some o)\/((∀i∈l,lk n (en i).obs=none)/\lk n τ.objs=some o):=by
 rw[Fb,A6];cases hf:lk n (l.flatMap λj=>(en j).obs) with
 | some d =>
  obtain⟨j,c,a⟩:=tT hf;simp only[AGa];constructor
  .grind
  rintro (⟨i,hi,b⟩|⟨hn,_⟩)
  .have:=h.name i (hl i hi) j (hl j c) n o d b a;subst this;rw[<-a,b]
  rw[hn j c]at a;cases a
 | none =>
  have hn:=LC hf;simp only[Option.none_or];constructor
  .grind
  grind
theorem A1k {Q l A:List Nat} (h:Own ops en τ Q) (hl:∀i∈l,i∈Q) (g:∀i∈A,i∈l):Ra (Ar ops en τ A) (Ar ops en τ l) (Ar ops en ⟨[],[]⟩ (l.filter λi=>!Ab i A)):=by
 have h0:Own ops en ⟨[],[]⟩ Q:=⟨h.slot,λ_ _ _ _ _=>rfl,h.name⟩;have hf:∀i∈l.filter (λi=>!Ab i A),i∈Q:=λi hi=>hl i (AAh.1 hi).1;have k:∀i∈A,i∈Q:=λi hi=>hl i (g i hi);have f:∀i,i∈l.filter (λi=>!Ab i A)↔i∈l/\i∉A:=λi=>by grind [Am,Ab]
 refine⟨λs=>AGd λv=>?_,λn=>AGd λo=>?_⟩
 .rw[lkE h hl,Option.or_eq_some_iff,lkE h0 hf,lkE h k];constructor
  .rintro (⟨i,hi,c,a⟩|⟨hn,a⟩)
   .by_cases b:i∈A
    .refine .inr ⟨?_,.inl ⟨i,b,c,a⟩⟩;cases hx:lk s (Ar ops en ⟨[],[]⟩ (l.filter λi=>!Ab i A)).env with
     | none=>rfl
     | some u =>
      rcases (lkE h0 hf s u).1 hx with ⟨j,d,e,_⟩|⟨_,hx⟩
      .have:=h.slot i (hl i hi) j (hf j d) s c e;subst this;exact absurd b ((f i).1 d).2
      cases hx
    exact .inl (.inl ⟨i,(f i).2 ⟨hi,b⟩,c,a⟩)
   refine .inr ⟨?_,.inr ⟨λi hi=>hn i (g i hi),a⟩⟩;cases hx:lk s (Ar ops en ⟨[],[]⟩ (l.filter λi=>!Ab i A)).env with
   | none=>rfl
   | some u =>
    rcases (lkE h0 hf s u).1 hx with ⟨j,d,e,_⟩|⟨_,hx⟩
    .exact absurd e (hn j ((f j).1 d).1)
    cases hx
  rintro ((⟨i,hi,c,a⟩|⟨_,a⟩)|⟨hx,⟨i,hi,c,a⟩|⟨hn,a⟩⟩)
  .grind
  .cases a
  .grind
  refine .inr ⟨λi hi c=>?_,a⟩;by_cases b:i∈A
  .exact hn i b c
  have:=(lkE h0 hf s (en i).v).2 (.inl ⟨i,(f i).2 ⟨hi,b⟩,c,rfl⟩);rw[hx]at this;cases this
 rw[lkO h hl,Option.or_eq_some_iff,lkO h0 hf,lkO h k];constructor
 .rintro (⟨i,hi,a⟩|⟨hn,a⟩)
  .by_cases b:i∈A
   .refine .inr ⟨?_,.inl ⟨i,b,a⟩⟩;cases hx:lk n (Ar ops en ⟨[],[]⟩ (l.filter λi=>!Ab i A)).objs with
    | none=>rfl
    | some u =>
     rcases (lkO h0 hf n u).1 hx with ⟨j,d,e⟩|⟨_,hx⟩
     .have:=h.name i (hl i hi) j (hf j d) n _ _ a e;subst this;exact absurd b ((f i).1 d).2
     cases hx
   exact .inl (.inl ⟨i,(f i).2 ⟨hi,b⟩,a⟩)
  refine .inr ⟨?_,.inr ⟨λi hi=>hn i (g i hi),a⟩⟩;cases hx:lk n (Ar ops en ⟨[],[]⟩ (l.filter λi=>!Ab i A)).objs with
  | none=>rfl
  | some u =>
   rcases (lkO h0 hf n u).1 hx with ⟨j,d,e⟩|⟨_,hx⟩
   .rw[hn j ((f j).1 d).1]at e;cases e
   cases hx
 rintro ((⟨i,hi,a⟩|⟨_,a⟩)|⟨hx,⟨i,hi,a⟩|⟨hn,a⟩⟩)
 .grind
 .cases a
 .grind
 refine .inr ⟨λi hi=>?_,a⟩;by_cases b:i∈A
 .exact hn i b
 cases c:lk n (en i).obs with
 | none=>rfl
 | some u =>
  have:=(lkO h0 hf n u).2 (.inl ⟨i,(f i).2 ⟨hi,b⟩,c⟩);rw[hx]at this;cases this
end
def A3Q (tb:Tb) (ops:List Oper) (τ:St) (en:Nat->En) (pre:List Nat) (i:Nat) (o:Oper):Prop :=
 ∃vc:Prop,aq tb ⟨(Ar ops en τ pre).env,B5 false (HP o.op) τ.objs (ES ops en pre)⟩ (o.dst.getD 0) o.op=some (vc,(en i).v,(en i).obs)/\vc
theorem jH {ts:List Nat} {base:List (Nat×Obj)} {d:Nat} {obs:List (Nat×Obj)} {E:List (Nat×List (Nat×Obj))}:B5 false ts base (J6 d obs E)=B5 false ts base ((d,obs) :: E):=by
 cases obs with
 | nil=>simp only[J6,B5,aT];split<;>rfl
 | cons x r=>rfl
theorem A3R {o:Op} {base:List (Nat×Obj)} {E:List (Nat×List (Nat×Obj))}:MF false o base E=B5 false (HP o) base E:=by
 cases E<;>rfl
theorem Zt {tb:Tb} {ops:List Oper} {τ:St} {en:Nat->En}:∀ {Q:List Nat} {ens:EN} {pre:List Nat} {E:List (Nat×List (Nat×Obj))} {vc:Prop},pB tb ops τ.objs Q E (Ar ops en τ pre).env=some (vc,ens)->vc ->
  (∀ts,B5 false ts τ.objs E=B5 false ts τ.objs (ES ops en pre))->(∀(j i:Nat) (e:Nat×AV×List (Nat×Obj)),Q[j]?=some i->ens[j]?=some e->en i=⟨true,e.2.1,e.2.2⟩) ->
  ens.length=Q.length/\∀(j i:Nat),Q[j]?=some i->∃(o:Oper) (e:Nat×AV×List (Nat×Obj)),ops[i]?=some o/\ens[j]?=some e/\Ak ops i=some e.1/\A3Q tb ops τ en ((Q.take j).reverse++pre) i o
 | [],ens,pre,E,vc,h,q,g,m=>by grind [pB]
 | i :: Q,ens,pre,E,vc,h,q,g,m=>by
  simp only[pB]at h;cases b:ops[i]? with
  | none=>rw[b]at h;simp[jF]at h
  | some o =>
   rw[b]at h;simp only[jF]at h;cases a:o.dst with
   | none=>rw[a]at h;simp[dG]at h
   | some d =>
    cases c:aq tb ⟨(Ar ops en τ pre).env,MF false o.op τ.objs E⟩ (o.dst.getD 0) o.op with
    | none=>rw[c,a]at h;simp[dG]at h
    | some r =>
     obtain⟨y,v,obs⟩:=r;rw[c,a]at h;simp only[dG]at h;cases n:pB tb ops τ.objs Q (J6 d obs E) ((d,v) :: (Ar ops en τ pre).env) with
     | none=>rw[n]at h;simp[jG]at h
     | some p =>
      obtain⟨A,z⟩:=p;rw[n]at h;simp only[jG]at h;cases h;have hi:=m 0 i (d,v,obs) rfl rfl;have l:Ak ops i=some d:=by simp[Ak,b,a]
      have w:(Ar ops en τ (i :: pre)).env=(d,v) :: (Ar ops en τ pre).env:=by simp[Ar,l,St.add,hi]
      have s:=Zt (pre:=i :: pre) (by rw[w];exact n) q.2 (λts=>by
       rw[jH];simp only[ES,UY,l,AFP,hi,B5];rw[g ts];rfl) (λj k e h1 f=>m (j+1) k e (by simpa using h1) (by simpa using f))
      refine⟨by simp[s.1],λj k hk=>?_⟩;cases j with
      | zero =>
       simp only[AF7,ZQ]at hk;subst hk;refine⟨o,(d,v,obs),b,rfl,l,y,?_,q.1⟩;rw[A3R,g]at c;simp only[ZR,List.reverse_nil,aT];rw[hi];exact c
      | succ j =>
       obtain⟨x,e,h1,f,t,u⟩:=s.2 j k (by simpa using hk);refine⟨x,e,h1,by simpa using f,t,?_⟩;simpa[aS] using u
theorem Rz:∀ {ens:EN} {objs:List (Nat×Obj)},Rx ens objs=true->∀(j:Nat) (e:Nat×AV×List (Nat×Obj)),ens[j]?=some e->∀n o,lk n e.2.2=some o->lk n objs=none/\∀(b:Nat) (a:Nat×AV×List (Nat×Obj)) (c:Obj),ens[b]?=some a->lk n a.2.2=some c->j=b
 | [],objs,_,j,e,h=>by simp at h
 | (d,v,obs) :: r,objs,h,j,e,f=>by
  simp only[Rx,An,OR,Yt]at h;have h0:∀n o,lk n obs=some o->lk n objs=none:=λn o hn=>h.1 _ (F2 hn);have g:=Rz h.2;grind [lk,A6]
end
section
open Go Go.RowKit
structure Zu (ops:Array Oper) (anc:List (List Nat)):Prop where
 lt:∀i o,ops[i]?=some o->∀e∈EA o,e<i
 cl:∀i o,ops[i]?=some o->∀j∈anc.getD i [],j∈EA o\/∃e∈EA o,j∈anc.getD e []
theorem ACd {ops:Array Oper} {anc:List (List Nat)} (h:AB0 ops.toList anc=true):Zu ops anc:=by
 simp only[AB0,OR,Ue]at h;have hi:∀i o,ops[i]?=some o->((EA o).all λe=>decide (e<i))=true/\((anc.getD i []).all λj=>Ab j (EA o)||(EA o).any λe=>Ab j (anc.getD e []))=true:=by grind
 refine⟨λi o a e b=>?_,λi o a j c=>?_⟩
 .grind
 grind [Am]
section
variable {ops:Array Oper} {k:Nat} {anc:List (List Nat)} {Q:Exit->Act->World->Prop}
theorem TF (a:Zu ops anc) {listed:Array Bool} (g:∀i o,ops[i]?=some o->listed.getD i true=true->∀e∈EA o,listed.getD e false=true) :
  ∀i o,ops[i]?=some o->(∀e∈EA o,listed.getD e false=true)->∀j∈anc.getD i [],listed.getD j false=true:=by
 intro i;induction i using Nat.strongRecOn with
 | _ i l =>
  intro o b c j f;rcases a.cl i o b j f with h1|⟨e,d,h⟩
  .exact c j h1
  have k:=a.lt i o b e d;grind
theorem R0 {F:Fence} {P:Program} (f:Zu ops anc) (n:∀i o,ops[i]?=some o->k<=i->∀j,j<i->j∈anc.getD i []):∀ {rest:List Oper} {p:Nat} {listed:Array Bool} {a:Act} {w:World},ops.toList.drop p=rest->k<=p->p<=ops.size->listed.size=ops.size ->
  (∀i,i<ops.size->(listed.getD i true=true↔i<p))->wpListIn F 0 P ops Q rest a w->wpAnyIn F 0 P .any ops Q rest.length listed a w
 | [],p,listed,a,w,h,B,C,l,hl,c=>by
  have hp:p=ops.size:=by
   have:=Yp List.length h;simp at this;omega
  refine⟨?_,c⟩;apply AFN.2;grind [Df]
 | o :: r,p,listed,a,w,h,B,C,l,hl,c=>by
  obtain⟨d,u⟩:=Zp h;have d:ops[p]?=some o:=by simpa using d
  have D:p<ops.size:=(YR.1 d).1;have v:∀e b,e<ops.size->listed.getD e b=listed.getD e true:=λe b g=>by grind
  have K:∀i o,ops[i]?=some o->listed.getD i true=true->∀e∈EA o,listed.getD e false=true:=by
   intro i o t h1 e g;have G:i<ops.size:=(YR.1 t).1;have I:=(hl i G).1 h1;have J:=f.lt i o t e g;grind
  have E:∀i,i∈Region.ready .any ops listed->i=p:=by grind [Df,TF]
  refine⟨λL=>?_,λi hi=>?_⟩
  .exfalso;have:p∈Region.ready .any ops listed:=by
    rw[Df];refine⟨?_,o,d,λe g=>?_⟩
    .cases hh:listed.getD p true with
     | false=>rfl
     | true=>have:=(hl p D).1 hh;omega
    have:=f.lt p o d e g;rw[v e false (by omega)];exact(hl e (by omega)).2 this
   grind
  have y:=E i hi;subst y;have s:∀(j:Nat),j<ops.size->((listed.setIfInBounds i true).getD j true=true↔j<i+1):=by
   intro j z;have A:j<listed.size:=by omega
   by_cases q:j=i
   .subst q;simp[Array.getD,A]
   have h1:(listed.setIfInBounds i true).getD j true=listed.getD j true:=getD_set_ne true (λe=>q e.symm);rw[h1,hl j z];omega
  unfold wpOpIn;rw[d];simp only;unfold wpListIn at c;split
  .rename_i m;rw[Bq m]at c;exact Oper.wpIn_mono (λH w' x=>R0 f n u.symm (by omega) (by omega) (by simpa using l) s x) c
  rename_i m;rw[As m]at c;exact⟨c.1,R0 f n u.symm (by omega) (by omega) (by simpa using l) s c.2⟩
end
structure QOk (ops:List Oper) (anc:List (List Nat)) (L Q:List Nat):Prop where
 nodup:Q.Nodup
 pos:∀(j i:Nat),Q[j]?=some i->i∉L/\∃o,ops[i]?=some o/\o.guard=none/\(∀e∈EA o,e∈L\/e∈Q.take j)/\(∀t∈HP o.op,∀k∈Q,Ak ops k=some t->k∈anc.getD i []/\k∈Q.take j)
 slot:∀i∈Q,∀j∈Q,∀s,Ak ops i=some s->Ak ops j=some s->i=j
theorem jI {ops:List Oper} {anc:List (List Nat)} {L Q:List Nat}:∀ {r pre:List Nat},qB1 ops anc L Q r pre=true ->
  (∀(j i:Nat),r[j]?=some i->i∉L/\i∉pre/\i∉r.take j/\∃o,ops[i]?=some o/\o.guard=none/\(∀e∈EA o,e∈L\/e∈pre\/e∈r.take j)/\(∀t∈HP o.op,∀k∈Q,Ak ops k=some t->k∈anc.getD i []/\(k∈pre\/k∈r.take j)) /\
   ∀k,k∈pre\/k∈r.take j->Ak ops k≠Ak ops i)
 | [],pre,h,j,i,a=>by simp at a
 | x :: r,pre,h,j,i,a=>by
  simp only[qB1,An]at h;obtain⟨h1,s⟩:=h;cases j with
  | zero =>
   simp only[AF7,ZQ]at a;subst a;cases f:ops[x]? with
   | none=>rw[f]at h1;cases h1
   | some o =>
    rw[f]at h1;simp only[An,OR,Ub,Am,AFI,UL,Yt]at h1;obtain⟨⟨⟨⟨⟨⟨A,q⟩,B⟩,C⟩,D⟩,c⟩,d⟩:=h1;refine⟨λh=>(by rw[(Am _ _).2 h]at c;cases c),λh=>(by rw[(Am _ _).2 h]at d;cases d),by simp,o,rfl,q,λe v=>?_,λt w k hk u=>?_,λk hk=>?_⟩
    .grind
    .grind
    grind [Ak]
  | succ j =>
   obtain⟨g,b,l,o,m,n,y,z,p⟩:=jI s j i (by simpa using a);simp only[By,not_or]at b;refine⟨g,b.2,by simp[aS,b.1,l],o,m,n,λe v=>?_,λt w k hk u=>?_,λk hk=>p k ?_⟩
   .grind
   .grind
   grind
theorem jJ {α:Type} {l:List α} {i j:Nat} {x:α} (h:l[i]?=some x) (a:i<j):x∈l.take j:=by
 rw[Yi];exact⟨i,by rw[YS,Bq a];exact h⟩
theorem qOk {ops:List Oper} {anc:List (List Nat)} {L Q:List Nat} (h:qB1 ops anc L Q Q []=true):QOk ops anc L Q:=by
 have hs:=jI h;have m:∀ {i j x y:Nat},Q[i]?=some x->Q[j]?=some y->i<j->x≠y/\Ak ops x≠Ak ops y:=by grind [jJ]
 refine⟨?_,λj i c=>?_,λi hi j c s h1 q=>?_⟩
 .rw[List.nodup_iff_pairwise_ne,UX];intro i j hi c l e;exact(m (AT hi) (AT c) l).1 e
 .obtain⟨d,_,_,o,f,g,n,p,_⟩:=hs j i c;refine⟨d,o,f,g,λe v=>?_,λt w k hk u=>?_⟩
  .grind
  grind
 obtain⟨a,ha⟩:=Yi.1 hi;obtain⟨b,r⟩:=Yi.1 c;grind
theorem pD:∀ {Q:List Nat} {ens:EN},Q.Nodup->∀(j i:Nat) (e:Nat×AV×List (Nat×Obj)),Q[j]?=some i->ens[j]?=some e->PM Q ens i=⟨true,e.2.1,e.2.2⟩
 | [],ens,_,j,i,e,h,_=>by simp at h
 | x :: Q,[],_,j,i,e,_,h=>by simp at h
 | x :: Q,f :: ens,hn,j,i,e,h1,a=>by
  cases j with
  | zero =>
   simp only[AF7,ZQ]at h1 a;subst h1;subst a;simp[PM,AG1,lk]
  | succ j =>
   have h1:Q[j]?=some i:=by simpa using h1
   have hx:i≠x:=λe=>by grind
   have:=pD (YT.1 hn).2 j i e h1 (by simpa using a);simp only[PM,AG1,lk,As hx]at this ⊢;exact this
structure Fr (tb:Tb) (ops:List Oper) (anc:List (List Nat)) (L Q:List Nat) (ens:EN) (τ:St):Prop where
 q:QOk ops anc L Q
 len:ens.length=Q.length
 own:Own ops (PM Q ens) τ Q
 at_:∀(j i:Nat),Q[j]?=some i->∃(o:Oper) (e:Nat×AV×List (Nat×Obj)),ops[i]?=some o/\ens[j]?=some e/\Ak ops i=some e.1/\PM Q ens i=⟨true,e.2.1,e.2.2⟩/\A3Q tb ops τ (PM Q ens) (Q.take j).reverse i o
theorem A3S {tb:Tb} {ops:List Oper} {anc:List (List Nat)} {L Q:List Nat} {ens:EN} {τ:St} (d:QOk ops anc L Q) (h:AAZ tb ops Q ens τ):Fr tb ops anc L Q ens τ:=by
 obtain⟨vc,h1,p,q⟩:=h;have t:=λ(j i:Nat) (e:Nat×AV×List (Nat×Obj))=>pD (ens:=ens) d.nodup j i e;obtain⟨hl,hf⟩:=Zt (en:=PM Q ens) (pre:=[]) h1 p (λts=>rfl) t;have k:∀i∈Q,∃(j:Nat) (e:Nat×AV×List (Nat×Obj)),Q[j]?=some i/\ens[j]?=some e/\PM Q ens i=⟨true,e.2.1,e.2.2⟩:=by
  intro i hi;obtain⟨j,c⟩:=Yi.1 hi;grind
 refine⟨d,hl,⟨d.slot,λi hi n o hn=>?_,λi hi j c n o w f g=>?_⟩,λj i c=>?_⟩
 .grind [Rz]
 .obtain⟨a,e,ha,r,u⟩:=k i hi;obtain⟨b,m,l,s,v⟩:=k j c;rw[u]at f;rw[v]at g;have:=(Rz q a e r n o f).2 b m w s g;subst this;rw[ha]at l;injection l
 grind
theorem A1l {ops:List Oper} {en:Nat->En} {τ:St} {Q:List Nat} (h:Own ops en τ Q) {ts pre ex:List Nat} (hp:∀j∈pre,j∈Q) (e:∀j∈ex,j∈Q) (d:∀j∈pre,Ab ((Ak ops j).getD 0) ts=true->j∈ex) {n:Nat} {o:Obj} :
  lk n (B5 false ts τ.objs (ES ops en pre))=some o->lk n (Ar ops en τ ex).objs=some o:=by
 rw[lkO h e];induction pre with
 | nil =>
  simp only[ES,AFe,B5];intro hn;refine .inr ⟨λj b=>?_,hn⟩;cases a:lk n (en j).obs with
  | none=>rfl
  | some f=>have:=h.new j (e j b) n f a;rw[this]at hn;cases hn
 | cons i r c =>
  simp only[ES,UY,B5];have c:=c (λj b=>hp j (by simp[b])) (λj b=>d j (by simp[b]));split
  .rename_i g;intro hn;rw[A6]at hn;cases a:lk n (en i).obs with
   | some f =>
    rw[a]at hn;simp only[AGa]at hn;cases hn;exact .inl ⟨i,d i (by simp) (by simpa using g),a⟩
   | none =>
    rw[a]at hn;exact c (by simpa[ES] using hn)
  exact c
theorem NX {p:Nat×Obj}:∀ {l:List (Nat×Obj)},p∈l->∃b,lk p.1 l=some b
 | (c,d) :: r,h=>by
  simp only[lk];by_cases a:p.1=c
  .simp_all
  rw[As a];rcases By.1 h with rfl|h
  .exact absurd rfl a
  exact NX h
theorem pE {c:Cx} (y:c.Ok) {ops:List Oper} {anc:List (List Nat)} {L Q:List Nat} {ens:EN} {τ:St} (hF:Fr c.tb ops anc L Q ens τ) {ex:List Nat} (h:∀i∈ex,i∈Q) {j i:Nat} {o:Oper} (m:Q[j]?=some i) (s:ops[i]?=some o) (ag:i∉ex)
  (Z:∀k∈anc.getD i [],k∈Q->k∈ex) (I:∀d,o.dst=some d->d<c.nt) {a:Act} {w:World} {next:Act->World->Prop} {Qe:Exit->Act->World->Prop} (hs:c.sat (Ar ops (PM Q ens) τ ex) a w)
  (hn:∀A w',c.sat (Ar ops (PM Q ens) τ (i :: ex)) A w'->next A w'):o.wpIn (FR c.r) 0 c.P a w next Qe:=by
 obtain⟨l,e,D,ab,Y,ak,vc,S,V⟩:=hF.at_ j i m;rw[s]at D;cases D;obtain⟨_,al,E,_,_,aj⟩:=hF.q.pos j i m;rw[s]at E;cases E;have z:∀k∈(Q.take j).reverse,k∈Q:=λk hk=>Yb (by simpa using hk);have R:Ops ⟨(Ar ops (PM Q ens) τ (Q.take j).reverse).env,B5 false (HP o.op) τ.objs (ES ops (PM Q ens) (Q.take j).reverse)⟩ (Ar ops (PM Q ens) τ ex) o.op.operands.toList:=by
  intro x hx v b;cases x with
  | tmp t =>
   simp only[Aq]at b ⊢;have ai:t∈HP o.op:=AG5.2 ⟨_,hx,rfl⟩;rw[lkE hF.own z]at b;rw[lkE hF.own h];rcases b with ⟨k,hk,ad,ae⟩|⟨ah,b⟩
   .grind
   grind
  | const am=>exact b
  | global g=>exact b
  | func f=>exact b
 have N:gW ⟨(Ar ops (PM Q ens) τ (Q.take j).reverse).env,B5 false (HP o.op) τ.objs (ES ops (PM Q ens) (Q.take j).reverse)⟩ (Ar ops (PM Q ens) τ ex):=by
  intro n l hn;refine A1l hF.own z h (λk hk af=>?_) hn;obtain⟨W,J⟩:=Yi.1 (z k hk);obtain⟨_,X,_,_,aa,_⟩:=hF.at_ W k J;grind [Am]
 have T:=Uq N R S;have C:=Yk m;have B:Bd (PM Q ens i).obs (Ar ops (PM Q ens) τ ex)=true:=by
  simp only[Bd,OR,Yt];intro p hp;obtain⟨l,F⟩:=NX hp;cases hl:lk p.1 (Ar ops (PM Q ens) τ ex).objs with
  | none=>rfl
  | some u =>
   rcases (lkO hF.own h p.1 u).1 hl with ⟨k,hk,M⟩|⟨_,hu⟩
   .have:=hF.own.name i C k (h k hk) p.1 l u F M;grind
   rw[hF.own.new i C p.1 l F]at hu;cases hu
 obtain⟨ρ,G⟩:=hs;refine tG (A7b y G) T V B λu ρ' w' U=>hn _ _ ?_;have H:Ak ops i=o.dst:=by simp[Ak,s]
 simp only[Ar,H];exact⟨ρ',G.add y.K y.O I B U⟩
end
section
open Go Go.RowKit
theorem MP:∀ {l l':List Nat},l.Nodup->(∀x∈l,x∈l')->l.length<=l'.length
 | [],_,_,_=>by simp
 | x :: l,l',hn,h=>by
  have hx:=h x (by simp);have:=MP (l:=l) (l':=l'.erase x) (YT.1 hn).2 (λy a=>by
   have:y≠x:=λe=>(YT.1 hn).1 (e▸a);exact(AFR this).2 (h y (by simp[a])))
  grind
theorem JM (A:List Nat) (l:Nat) (a:List (List Nat×Nat)) (D:List Nat):qs ((A,l) :: a) D=A++qs a D:=by simp[qs]
structure ACe (ops:List Oper) (anc:List (List Nat)) (p0:Nat) (L:List Nat) (ps:List (List Nat×Nat)) (D:List Nat):Prop where
 all:∀i,i<p0->i∈L\/i∈qs ps D\/i∈ps.map (·.2)
 back:∀i,p0<=i->i<ops.length->∀j,j<i->j∈anc.getD i []
 L:∀i∈L,i<p0
 Q:∀i∈qs ps D,i<p0
 lo:∀p∈ps,p.2<p0
 p0:p0<=ops.length
theorem Vz {ops:List Oper} {anc:List (List Nat)} {p0:Nat} {L D:List Nat} (h:UC ops anc p0 L [] D=true):QOk ops anc L D/\(∀i,i<p0->i∈L\/i∈D)/\L.length+D.length=p0/\p0<=ops.length/\(∀i∈L,i<p0)/\(∀i∈D,i<p0)/\(∀i,p0<=i->i<ops.length->∀j,j<i->j∈anc.getD i []):=by
 simp only[UC,An,OR,Ue,Ub,DO,Am]at h;grind [qOk]
theorem KB {ops:List Oper} {anc:List (List Nat)} {p0:Nat} {L D A:List Nat} {l:Nat} {b:List (List Nat×Nat)} (h:UC ops anc p0 L ((A,l) :: b) D=true):QOk ops anc L (A++qs b D)/\(∃o,ops[l]?=some o/\o.guard=none/\(∀e∈EA o,e∈L\/e∈A))/\(∀j∈A,j∈anc.getD l [])/\l∉L/\l∉A++qs b D/\(∀p∈b,l∈anc.getD p.2 [])/\UC ops anc p0 (l :: (A++L)) b D=true:=by
 simp only[UC,An,OR,Am]at h;obtain⟨⟨⟨h1,a⟩,m⟩,n⟩:=h;cases f:ops[l]? with
 | none=>rw[f]at a;cases a
 | some o =>
  rw[f]at a;simp only[An,OR,Ub,Am,UL,Yt]at a;obtain⟨⟨⟨⟨g,i⟩,k⟩,c⟩,d⟩:=a;exact⟨qOk h1,⟨o,rfl,g,i⟩,k,λh=>(by rw[(Am _ _).2 h]at c;cases c),λh=>(by rw[(Am _ _).2 h]at d;cases d),m,n⟩
theorem V0 {ops:List Oper} {anc:List (List Nat)} {p0:Nat}:∀ {b:List (List Nat×Nat)} {L D:List Nat},UC ops anc p0 L b D=true->ACe ops anc p0 L b D
 | [],L,D,h=>by
  obtain⟨_,h1,g,c,d,e,f⟩:=Vz h;refine⟨λi hi=>?_,f,d,by simpa[qs] using e,by simp,c⟩;grind [qs]
 | (A,l) :: b,L,D,h=>by
  obtain⟨_,_,_,_,_,_,h1⟩:=KB h;have a:=V0 h1;refine⟨λi hi=>?_,a.back,λi hi=>a.L i (by simp[hi]),λi hi=>?_,λp hp=>?_,a.p0⟩
  .rcases a.all i hi with h|h|h
   .grind [JM]
   .grind [JM]
   grind
  .rw[JM,IN]at hi;rcases hi with hi|hi
   .exact a.L i (by simp[hi])
   exact a.Q i hi
  rcases By.1 hp with rfl|hp
  .exact a.L l (by simp)
  exact a.lo p hp
theorem dH {ops:List Oper} {en:Nat->En} {τ:St}:∀ {Q:List Nat} {ens:EN} {pre:List Nat},ens.length=Q.length->(∀(j i:Nat) (e:Nat×AV×List (Nat×Obj)),Q[j]?=some i->ens[j]?=some e->Ak ops i=some e.1/\en i=⟨true,e.2.1,e.2.2⟩) ->
  MO ens (Ar ops en τ pre)=Ar ops en τ (Q.reverse++pre)
 | [],[],pre,_,_=>rfl
 | [],_ :: _,_,h,_=>by simp at h
 | _ :: _,[],_,h,_=>by simp at h
 | i :: Q,(d,v,obs) :: ens,pre,hl,h=>by
  obtain⟨h1,a⟩:=h 0 i (d,v,obs) rfl rfl;have:(⟨(d,v) :: (Ar ops en τ pre).env,obs++(Ar ops en τ pre).objs⟩:St)=Ar ops en τ (i :: pre):=by simp[Ar,h1,a,St.add]
  simp only[MO];rw[this,dH (by simpa using hl) (λj k e b c=>h (j+1) k e (by simpa using b) (by simpa using c))];simp
section
variable {c:Cx} {ops:Array Oper} {anc:List (List Nat)} {p0:Nat} {Kf:St->Prop} {Qe:Exit->Act->World->Prop}
theorem A3T {a:List (List Nat×Nat)} {L D:List Nat} {ens:EN} {τ:St} (b:UC ops.toList anc p0 L a D=true) (d:Mix c ops.toList Kf a D ens τ):Fr c.tb ops.toList anc L (qs a D) ens τ:=by
 cases a with
 | nil =>
  have:qs [] D=D:=rfl;rw[this];exact A3S (Vz b).1 d.1
 | cons p a =>
  obtain⟨A,l⟩:=p;rw[JM];exact A3S (KB b).1 d.1
theorem Zv (x:Zu ops anc) {a:List (List Nat×Nat)} {L D:List Nat} {ex:List Nat} {listed:Array Bool} (w:UC ops.toList anc p0 L a D=true) (v:QOk ops.toList anc L (qs a D)) (u:∀i∈ex,i∈qs a D) (H:listed.size=ops.size)
  (hl:∀i,i<ops.size->(listed.getD i true=true↔i∈L\/i∈ex)) (hf:¬(a=[]/\∀i∈qs a D,i∈ex)):∃i,i∈Region.ready .any ops listed:=by
 have C:∀e b,e<ops.size->listed.getD e b=listed.getD e true:=λe b c=>by grind
 have mk:∀i o,ops[i]?=some o->i∉L->i∉ex->(∀e∈EA o,e∈L\/e∈ex)->i∈Region.ready .any ops listed:=by
  intro i o f h1 k E;have I:i<ops.size:=(YR.1 f).1;rw[Df];refine⟨?_,o,f,λe c=>?_⟩
  .grind
  have F:=x.lt i o f e c;grind
 by_cases t:∀i∈qs a D,i∈ex
 .cases a with
  | nil=>exact absurd ⟨rfl,t⟩ hf
  | cons p a =>
   obtain⟨A,l⟩:=p;rw[JM]at t u;obtain⟨_,⟨o,f,_,y⟩,_,h1,k,_,_⟩:=KB w;refine⟨l,mk l o (by simpa using f) h1 (λh=>k (u l h)) λe c=>?_⟩;rcases y e c with h|h
   .exact .inl h
   grind
 have key:∀(n j:Nat),j<=n->(∃i,(qs a D)[j]?=some i/\i∉ex)->∃i,i∈Region.ready .any ops listed:=by
  intro n;induction n with
  | zero =>
   rintro j s ⟨i,hi,d⟩;have:j=0:=by omega
   subst this;obtain⟨m,o,q,_,r,_⟩:=v.pos 0 i hi;refine⟨i,mk i o (by simpa using q) m d λe c=>?_⟩;rcases r e c with h|h
   .exact .inl h
   simp at h
  | succ n B =>
   rintro j s ⟨i,hi,d⟩;by_cases z:∃g,g<j/\∃i',(qs a D)[g]?=some i'/\i'∉ex
   .obtain⟨g,h1,k⟩:=z;exact B g (by omega) k
   obtain⟨m,o,q,_,r,_⟩:=v.pos j i hi;refine⟨i,mk i o (by simpa using q) m d λe c=>?_⟩;rcases r e c with h|h
   .exact .inl h
   right;obtain⟨g,G⟩:=Yi.1 h;grind
 have:∃i,i∈qs a D/\i∉ex:=by grind
 obtain⟨i,hi,d⟩:=this;obtain⟨j,s⟩:=Yi.1 hi;exact key j j (NO _) ⟨i,s,d⟩
theorem Zw (G:Zu ops anc) (hT:∀τ,Kf τ->∀a w,c.sat τ a w->wpListIn (FR c.r) 0 c.P ops Qe (ops.toList.drop p0) a w) {m:Nat} {L D:List Nat} {ens:EN} {τ:St} {ex:List Nat} {listed:Array Bool} {a:Act} {w:World}
  (C:UC ops.toList anc p0 L [] D=true) (g:Mix c ops.toList Kf [] D ens τ) (K:(L++ex).Nodup) (b:∀i∈ex,i∈D) (V:m+L.length+ex.length=ops.size) (I:listed.size=ops.size) (hl:∀i,i<ops.size->(listed.getD i true=true↔i∈L\/i∈ex))
  (hs:c.sat (Ar ops.toList (PM D ens) τ ex) a w) (d:∀i∈D,i∈ex):wpAnyIn (FR c.r) 0 c.P .any ops Qe m listed a w:=by
 obtain⟨q,h1,R,y,S,T,z⟩:=Vz C;have hF:=A3S q g.1;have U:ex.length=D.length:=AAg (MP (nO.1 K).2.1 b) (MP q.nodup d);have J:m=(ops.toList.drop p0).length:=by grind
 have E:MO ens τ=Ar ops.toList (PM D ens) τ D.reverse:=by
  have:=dH (ops:=ops.toList) (en:=PM D ens) (τ:=τ) (pre:=[]) hF.len (λj i e A B=>by
   obtain⟨o,O,_,f,u,x,_⟩:=hF.at_ j i A;rw[B]at f;cases f;exact⟨u,x⟩)
  simpa[Ar] using this
 have N:c.sat (MO ens τ) a w:=by
  rw[E];have t:∀i∈D.reverse,i∈D:=λi hi=>by simpa using hi
  have l:∀i,i∈ex↔i∈D.reverse:=λi=>⟨λh=>by simpa using b i h,λh=>d i (by simpa using h)⟩;refine Vr (λs=>AGd λv=>?_) (λn=>AGd λo=>?_) hs
  .rw[lkE hF.own t,lkE hF.own b];simp only[l]
  rw[lkO hF.own t,lkO hF.own b];simp only[l]
 have:=R0 (Q:=Qe) (F:=FR c.r) (P:=c.P) G (k:=p0) (λi o M hi j H=>z i hi (by have:=(YR.1 M).1;simpa using this) j H) (rest:=ops.toList.drop p0) (p:=p0) (listed:=listed) (a:=a) (w:=w) rfl (NO _) (by simpa using y) I
  (λi hi=>by
   rw[hl i hi];constructor
   .grind
   intro h;rcases h1 i h with h|h
   .exact .inl h
   exact .inr (d i h)) (hT _ g.2 a w N)
 rw[J];exact this
theorem A7k (cf:c.Ok) (bv:∀o∈ops.toList,JF c.nt o=true) (Z:Zu ops anc) (hT:∀τ,Kf τ->∀a w,c.sat τ a w->wpListIn (FR c.r) 0 c.P ops Qe (ops.toList.drop p0) a w) :
  ∀(m:Nat) (f:List (List Nat×Nat)) (L D:List Nat) (ens:EN) (τ:St) (ex:List Nat) (listed:Array Bool) (a:Act) (w:World),UC ops.toList anc p0 L f D=true->Mix c ops.toList Kf f D ens τ->(L++ex).Nodup->(∀i∈ex,i∈qs f D) ->
   m+L.length+ex.length=ops.size->listed.size=ops.size->(∀i,i<ops.size->(listed.getD i true=true↔i∈L\/i∈ex))->(∀i o,ops[i]?=some o->(i∈L\/i∈ex)->∀e∈EA o,e∈L\/e∈ex) ->
   c.sat (Ar ops.toList (PM (qs f D) ens) τ ex) a w->wpAnyIn (FR c.r) 0 c.P .any ops Qe m listed a w:=by
 intro m;induction m with
 | zero =>
  intro f L D ens τ ex listed a w B O G z av R hl ab hs;have hF:=A3T B O;by_cases hf:f=[]/\∀i∈qs f D,i∈ex
  .obtain⟨rfl,ao⟩:=hf;exact Zw Z hT B O G z av R hl hs ao
  exfalso;obtain⟨i,hi⟩:=Zv Z B hF.q z R hl hf;rw[Df]at hi;obtain⟨h1,o,C,_⟩:=hi;have V:i<ops.size:=(YR.1 C).1;have H:i∉L++ex:=λh=>by grind
  have M:=V0 B;have:=EJ ops.size (i :: (L++ex)) (YT.2 ⟨H,G⟩) (λj d=>by
   have hp:=M.p0;simp only[AFX]at hp;rcases By.1 d with rfl|d
   .exact V
   rcases IN.1 d with d|d
   .have:=M.L j d;omega
   have:=M.Q j (z j d);omega)
  grind
 | succ m bh =>
  intro f L D ens τ ex listed a w B O G z av R hl ab hs;have hF:=A3T B O;have M:=V0 B;have bl:∀e b,e<ops.size->listed.getD e b=listed.getD e true:=λe b E=>by grind
  by_cases hf:f=[]/\∀i∈qs f D,i∈ex
  .obtain⟨rfl,ao⟩:=hf;exact Zw Z hT B O G z av R hl hs ao
  refine⟨λct=>?_,λi hi=>?_⟩
  .obtain⟨i,hi⟩:=Zv Z B hF.q z R hl hf;grind
  rw[Df]at hi;obtain⟨h1,o,C,co⟩:=hi;have V:i<ops.size:=(YR.1 C).1;have H:¬(i∈L\/i∈ex):=λh=>by rw[(hl i V).2 h]at h1;cases h1
  have ax:∀e∈EA o,e∈L\/e∈ex:=λe E=>by grind
  have aa:∀j∈anc.getD i [],j∈L\/j∈ex:=by
   have cr:∀i o,ops[i]?=some o->listed.getD i true=true->∀e∈EA o,listed.getD e false=true:=by
    intro i o C h1 e E;have V:i<ops.size:=(YR.1 C).1;have W:=Z.lt i o C e E;rw[bl e false (by omega)];exact(hl e (by omega)).2 (ab i o C ((hl i V).1 h1) e E)
   grind [TF]
  have ae:ops.toList[i]?=some o:=by simpa using C
  have cd:o∈ops.toList:=Yk ae;have bu:=Ct (bv o cd);have bb:∀(S:List Nat),(∀j,j∈S↔j=i\/j∈L\/j∈ex)->∀j,j<ops.size->((listed.setIfInBounds i true).getD j true=true↔j∈S):=by
   intro S bs j d;have cb:j<listed.size:=by omega
   rw[bs];by_cases au:j=i
   .subst au;simp[Array.getD,cb]
   have W:(listed.setIfInBounds i true).getD j true=listed.getD j true:=getD_set_ne true (λe=>au e.symm);rw[W,hl j d];simp[au]
  have bg:∀ {g:Option (Nat×Bool)},g=none->o.guard=g->Region.wanted o (yielded ops a.tmps)=true:=by
   intro g aq e;simp[Region.wanted,e,aq]
  by_cases ad:i∈qs f D
  .obtain⟨j,d⟩:=Yi.1 ad;obtain⟨_,cw,bc,aq,_,_⟩:=hF.q.pos j i d;rw[ae]at bc;cases bc;unfold wpOpIn;rw[C];simp only;rw[Bq (bg rfl aq)];refine pE cf hF z d ae (λh=>H (.inr h)) (λk hk cc=>?_) bu hs λai w' cg=>?_
   .rcases aa k hk with h|h
    .obtain⟨t,N⟩:=Yi.1 cc;exact absurd h (hF.q.pos t k N).1
    exact h
   refine bh f L D ens τ (i :: ex) _ ai w' B O ?_ (λk hk=>?_) (by simp only[No];omega) (by simpa using R) (λk hk=>?_) (λi' U F ar e E=>?_) cg
   .rw[nO]at G ⊢;refine⟨G.1,YT.2 ⟨λh=>H (.inr h),G.2.1⟩,λx hx y T=>?_⟩;rcases By.1 T with rfl|T
    .exact λe=>H (.inl (e▸hx))
    exact G.2.2 x hx y T
   .rcases By.1 hk with rfl|hk
    .exact ad
    exact z k hk
   .rw[bb (i :: (L++ex)) (λj=>by simp) k hk];simp only[By,IN];constructor
    .rintro (h|h|h)
     .exact .inr (.inl h)
     .exact .inl h
     exact .inr (.inr h)
    rintro (h|h|h)
    .exact .inr (.inl h)
    .exact .inl h
    exact .inr (.inr h)
   have:e∈L\/e∈ex:=by
    rcases ar with h|h
    .exact ab i' U F (.inl h) e E
    rcases By.1 h with rfl|h
    .rw[C]at F;cases F;exact ax e E
    exact ab i' U F (.inr h) e E
   rcases this with h|h
   .exact .inl h
   exact .inr (by simp[h])
  . -- no operation of the front
   have cu:¬p0<=i:=by
    intro bx;have aw:=M.back i bx (by simpa using V);cases f with
    | nil =>
     refine hf ⟨rfl,λj d=>?_⟩;have W:=M.Q j d;rcases aa j (aw j (by omega)) with h|h
     .obtain⟨t,N⟩:=Yi.1 d;exact absurd h (hF.q.pos t j N).1
     exact h
    | cons p f =>
     obtain⟨A,l⟩:=p;obtain⟨_,_,_,ak,al,_,_⟩:=KB B;have W:=M.lo (A,l) (by simp);simp only at W;rcases aa l (aw l (by omega)) with h|h
     .exact ak h
     exact al (by rw[<-JM A l];exact z l h)
   cases f with
   | nil =>
    rcases M.all i (by omega) with h|h|h
    .exact absurd (.inl h) H
    .exact absurd h ad
    cases h
   | cons p f =>
    obtain⟨A,l⟩:=p;obtain⟨_,⟨ol,bd,bz,cs⟩,bo,ak,al,bm,bp⟩:=KB B;have ca:i=l:=by
     rcases M.all i (by omega) with h|h|h
     .exact absurd (.inl h) H
     .exact absurd h ad
     simp only[UY,By,IF]at h;rcases h with h|⟨p,hp,rfl⟩
     .exact h
     rcases aa l (bm p hp) with h|h
     .exact absurd h ak
     exact absurd (z l h) (by rw[JM];exact al)
    subst ca;rw[ae]at bd;cases bd;rw[JM]at hF z hs ad;obtain⟨cq,U,F,bq⟩:=O;rw[ae]at F;cases F;have X:∀j∈A,j∈ex:=λj d=>by
     rcases aa j (bo j d) with h|h
     .obtain⟨t,N⟩:=Yi.1 (show j∈A++qs f D by simp[d]);exact absurd h (hF.q.pos t j N).1
     exact h
    have am:A.Nodup/\(qs f D).Nodup/\∀x∈A,∀y∈qs f D,x≠y:=nO.1 hF.q.nodup;have bt:MO (ens.take A.length) τ=Ar ops.toList (PM (A++qs f D) ens) τ A.reverse:=by
     have:=dH (ops:=ops.toList) (en:=PM (A++qs f D) ens) (τ:=τ) (pre:=[]) (Q:=A) (ens:=ens.take A.length) (by have:=hF.len;simp only[BY]at this;simp only[OS];omega) (λj i e K u=>by
      have ba:j<A.length:=(UP.1 K).1;obtain⟨o,cn,_,I,J,aj,_⟩:=hF.at_ j i (by rw[Ug ba];exact K);rw[YS,Bq ba,I]at u;cases u;exact⟨J,aj⟩)
     simpa[Ar] using this
    have bf:=A1k (A:=A.reverse) hF.own z (λj d=>X j (by simpa using d));rw[<-bt]at bf;have ah:∀j,j∈ex.filter (λj=>!Ab j A.reverse)↔j∈ex/\j∉A:=λj=>by
     rw[AAh];have:=Am j A.reverse;constructor
     .rintro⟨K,u⟩;exact⟨K,λI=>by rw[this.2 (by simpa using I)]at u;cases u⟩
     rintro⟨K,u⟩;refine⟨K,?_⟩;cases ce:Ab j A.reverse with
     | false=>rfl
     | true=>exact absurd (by simpa using this.1 ce) u
    have Y:∀j∈ex.filter (λj=>!Ab j A.reverse),j∈qs f D:=λj d=>by
     have:=z j ((ah j).1 d).1;rcases IN.1 this with h|h
     .exact absurd h ((ah j).1 d).2
     exact h
    have ap:∀j∈qs f D,∃(t:Nat) (e:Nat×AV×List (Nat×Obj)),(qs f D)[t]?=some j/\(ens.drop A.length)[t]?=some e/\Ak ops.toList j=some e.1/\PM (A++qs f D) ens j=⟨true,e.2.1,e.2.2⟩:=by
     intro j d;obtain⟨t,N⟩:=Yi.1 d;obtain⟨o,e,_,I,J,aj,_⟩:=hF.at_ (A.length+t) j (by rw[Ud (by omega),AFD];exact N);exact⟨t,e,N,by rw[Yv];exact I,J,aj⟩
    have be:Own ops.toList (PM (A++qs f D) ens) ⟨[],[]⟩ (A++qs f D):=⟨hF.own.slot,λ_ _ _ _ _=>rfl,hF.own.name⟩;have ay:∀j∈ex.filter (λj=>!Ab j A.reverse),j∈A++qs f D:=λj d=>by simp[Y j d]
    unfold wpOpIn;rw[C];simp only;rw[Bq (bg rfl bz)];refine bq _ _ bf ⟨λs v af=>?_,λn U hn=>?_⟩ a w _ _ hs λbk br ai w' cx az ch=>?_
    .rcases (lkE be ay s v).1 af with ⟨j,d,ag,rfl⟩|⟨_,af⟩
     .obtain⟨t,e,_,u,I,J⟩:=ap j (Y j d);rw[ag]at I;cases I;rw[J];exact⟨e.2.2,Yk u⟩
     cases af
    .rcases (lkO be ay n U).1 hn with ⟨j,d,ag⟩|⟨_,af⟩
     .obtain⟨t,e,_,u,I,J⟩:=ap j (Y j d);rw[J]at ag;exact⟨e,Yk u,F2 ag⟩
     cases af
    have cp:ex.length=A.length+(ex.filter (λj=>!Ab j A.reverse)).length:=by
     have ci:∀l:List Nat,l.length=(l.filter (λj=>Ab j A.reverse)).length+(l.filter (λj=>!Ab j A.reverse)).length:=by
      intro l;induction l with
      | nil=>rfl
      | cons x r cv =>
       simp only[Yr,No];cases Ab x A.reverse<;>simp<;>omega
     rw[ci ex];have bw:=(nO.1 G).2.1;have K:(ex.filter (λj=>Ab j A.reverse)).length<=A.length:=MP (bw.filter _) λx hx=>by
      have:=(Am _ _).1 (AAh.1 hx).2;simpa using this
     have u:A.length<=(ex.filter (λj=>Ab j A.reverse)).length:=MP am.1 λx hx=>AAh.2 ⟨X x hx,(Am _ _).2 (by simpa using hx)⟩;omega
    have an:∀x,(x∈i :: (A++L)\/x∈ex.filter (λj=>!Ab j A.reverse))↔x=i\/x∈L\/x∈ex:=by
     intro x;rw[ah];simp only[By,IN];constructor
     .rintro ((h|h|h)|h)
      .exact .inl h
      .exact .inr (.inr (X x h))
      .exact .inr (.inl h)
      exact .inr (.inr h.1)
     rintro (h|h|h)
     .exact .inl (.inl h)
     .exact .inl (.inr (.inr h))
     by_cases hx:x∈A
     .exact .inl (.inr (.inl hx))
     exact .inr ⟨h,hx⟩
    refine bh f (i :: (A++L)) D (ens.drop A.length) bk (ex.filter λj=>!Ab j A.reverse) _ ai w' bp br ?_ Y (by simp only[No,BY];omega) (by simpa using R) (λk hk=>?_) (λi' U F ar e E=>?_) ?_
    .obtain⟨n1,cl,bi⟩:=nO.1 G;have bn:∀x∈A,x∉L:=λx hx cj=>bi x cj x (X x hx) rfl;rw[nO];refine⟨YT.2 ⟨λh=>?_,nO.2 ⟨am.1,n1,λx hx y T e=>bn x hx (e▸T)⟩⟩,cl.filter _,λx hx y T e=>?_⟩
     .rcases IN.1 h with h|h
      .exact H (.inr (X i h))
      exact H (.inl h)
     subst e;obtain⟨bj,cm⟩:=(ah x).1 T;rcases By.1 hx with rfl|hx
     .exact H (.inr bj)
     rcases IN.1 hx with hx|hx
     .exact cm hx
     exact bi x hx x bj rfl
    .rw[an k,bb (i :: (L++ex)) (λj=>by simp) k hk];simp
    .rw[an];have:e∈L\/e∈ex:=by
      rcases (an i').1 ar with rfl|h
      .rw[C]at F;cases F;exact ax e E
      exact ab i' U F h e E
     exact .inr this
    have ck:∀j∈ex.filter (λj=>!Ab j A.reverse),PM (qs f D) (ens.drop A.length) j=PM (A++qs f D) ens j:=λj d=>by
     obtain⟨t,e,K,u,_,J⟩:=ap j (Y j d);rw[J];exact pD am.2.1 t j e K u
    have hx:=A3N (ops:=ops.toList) (en:=PM (qs f D) (ens.drop A.length)) (τ:=bk) (ex.filter λj=>!Ab j A.reverse);rw[LB (en:=PM (A++qs f D) ens) (σ0:=⟨[],[]⟩) ck]at hx;exact Vr (λs=>by rw[hx.env,az.env]) (λn=>by rw[hx.objs,az.objs]) ch
end
section
variable {c:Cx} {R:Exit->Act->World->Prop} {k:List DI} {σ:St}
theorem CJ (j:c.P.follows .mixedOrders=true) (g:c.Ok) {id:Nat} {l:List Oper} (p0:Nat) (d:List (List Nat×Nat)) (D:List Nat) (b:(AB0 l (A3B l)&&UC l (A3B l) p0 [] d D)=true) {ens:EN}
  (h:Mix c l (fun τ=>Lt c R k l.toArray (l.drop p0) τ) d D ens σ):Ev c R (.run (.region id l.toArray true)) k σ:=by
 intro h1 e a w hs;simp only[Ha,BZ,OR]at h1;simp only[An]at b;refine wpIn_region_any j ?_;have hk:∀τ,Lt c R k l.toArray (l.drop p0) τ->∀a w,c.sat τ a w->wpListIn (FR c.r) 0 c.P l.toArray (Un c R k) (l.toArray.toList.drop p0) a w:=fun τ f a w hs=>f (λo m=>h1 o (by simpa using AB4 m)) e a w hs;exact A7k (ops:=l.toArray) (anc:=A3B l) g (by simpa using h1) (ACd (by simpa using b.1)) hk l.toArray.size d [] D ens σ [] (Array.replicate l.toArray.size false) a { w with drawn:=w.drawn+1 } (by simpa using b.2) (by simpa using h) (by simp) (by simp) (by simp) (by simp) (λi hi=>by simp at hi;simp[Array.getD,hi]) (λi o _ hi=>by simp at hi) (jA hs)
end
end
section
open Go Go.RowKit
section
variable {n:Nat} {ns:List Nat}
theorem Ge {m:Nat} (hn:n∈ns) (h:¬Ab m ns=true):¬m=n:=λe=>h ((Am _ _).2 (e▸hn))
mutual
theorem WA (hn:n∈ns) {e:Ty} {xs:List e.den}:∀(x:AV),x.fgt ns=x->x.frz n e xs=x
 | .sr m e' lo hi,h=>by grind [AV.fgt,AV.frz,Ge]
 | .ep m e' i path off,h=>by grind [AV.fgt,AV.frz,Ge]
 | .nin m e' i len,h=>by grind [AV.fgt,AV.frz,Ge]
 | .ag l,h=>by
  simp only[AV.fgt,AV.ag.injEq]at h
  simp only[AV.frz,frzs_of_fgt hn l h]
 | .tup l,h=>by
  simp only[AV.fgt,AV.tup.injEq]at h
  simp only[AV.frz,frzs_of_fgt hn l h]
 | .p _ _,_=>rfl
 | .pc _ _,_=>rfl
 | .raw _,_=>rfl
 | .ip _ _,_=>rfl
 | .bp _ _ _,_=>rfl
 | .fn _,_=>rfl
 | .clo _ _,_=>rfl
 | .mp _,_=>rfl
 | .yl _,_=>rfl
 | .top,_=>rfl
theorem frzs_of_fgt (hn:n∈ns) {e:Ty} {xs:List e.den}:∀(l:List AV),AV.fgts ns l=l->AV.frzs n e xs l=l
 | [],_=>rfl
 | x :: r,h=>by
  simp only[AV.fgts,AEU]at h
  simp only[AV.frzs,WA hn x h.1,frzs_of_fgt hn r h.2]
end
mutual
theorem WB (hn:n∈ns):∀(x:AV),x.fgt ns=x->x.drp n=x
 | .sr m e' lo hi,h=>by grind [AV.fgt,AV.drp,Ge]
 | .ep m e' i path off,h=>by grind [AV.fgt,AV.drp,Ge]
 | .nin m e' i len,h=>by grind [AV.fgt,AV.drp,Ge]
 | .ag l,h=>by
  simp only[AV.fgt,AV.ag.injEq]at h
  simp only[AV.drp,drps_of_fgt hn l h]
 | .tup l,h=>by
  simp only[AV.fgt,AV.tup.injEq]at h
  simp only[AV.drp,drps_of_fgt hn l h]
 | .p _ _,_=>rfl
 | .pc _ _,_=>rfl
 | .raw _,_=>rfl
 | .ip _ _,_=>rfl
 | .bp _ _ _,_=>rfl
 | .fn _,_=>rfl
 | .clo _ _,_=>rfl
 | .mp _,_=>rfl
 | .yl _,_=>rfl
 | .top,_=>rfl
theorem drps_of_fgt (hn:n∈ns):∀(l:List AV),AV.fgts ns l=l->AV.drps n l=l
 | [],_=>rfl
 | x :: r,h=>by
  simp only[AV.fgts,AEU]at h
  simp only[AV.drps,WB hn x h.1,drps_of_fgt hn r h.2]
end
end
section
variable {n:Nat} {ns tl:List Nat}
theorem EB (a:∀n,n∈tl->n∈ns) {m:Nat} (h:¬Ab m ns=true):¬Ab m tl=true:=λh1=>h ((Am _ _).2 (a _ ((Am _ _).1 h1)))
theorem t4 (a:∀n,n∈tl->n∈ns) {l:List Nat} (h:¬(l.any λm=>Ab m ns)=true):¬(l.any λm=>Ab m tl)=true:=λh1=>by grind [Am]
mutual
theorem WC (htl:∀n,n∈tl->n∈ns):∀(x:AV),x.fgt ns=x->x.fgt tl=x
 | .sr m e' lo hi,h=>by grind [AV.fgt,EB]
 | .ep m e' i path off,h=>by grind [AV.fgt,EB]
 | .nin m e' i len,h=>by grind [AV.fgt,EB]
 | .bp m path off,h=>by grind [AV.fgt,EB]
 | .mp m,h=>by grind [AV.fgt,EB]
 | .yl m,h=>by grind [AV.fgt,EB]
 | .clo f cs,h=>by
  simp only[AV.fgt]at h
  split at h
  .cases h
  rename_i hm;simp only[AV.fgt,As (t4 htl hm)]
 | .ag l,h=>by
  simp only[AV.fgt,AV.ag.injEq]at h
  simp only[AV.fgt,fgts_of_fgt htl l h]
 | .tup l,h=>by
  simp only[AV.fgt,AV.tup.injEq]at h
  simp only[AV.fgt,fgts_of_fgt htl l h]
 | .p _ _,_=>rfl
 | .pc _ _,_=>rfl
 | .raw _,_=>rfl
 | .ip _ _,_=>rfl
 | .fn _,_=>rfl
 | .top,_=>rfl
theorem fgts_of_fgt (htl:∀n,n∈tl->n∈ns):∀(l:List AV),AV.fgts ns l=l->AV.fgts tl l=l
 | [],_=>rfl
 | x :: r,h=>by
  simp only[AV.fgts,AEU]at h
  simp only[AV.fgts,WC htl x h.1,fgts_of_fgt htl r h.2]
end
mutual
theorem WD (hn:n∈ns) (htl:∀n,n∈tl->n∈ns):∀(x:AV),x.fgt ns=x->x.trn n tl=x
 | .sr m e' lo hi,h=>by grind [AV.fgt,AV.trn,EB]
 | .ep m e' i path off,h=>by grind [AV.fgt,AV.trn,EB]
 | .nin m e' i len,h=>by grind [AV.fgt,AV.trn,Ge,EB]
 | .bp m path off,h=>by grind [AV.fgt,AV.trn,EB]
 | .mp m,h=>by grind [AV.fgt,AV.trn,EB]
 | .yl m,h=>by grind [AV.fgt,AV.trn,EB]
 | .clo f cs,h=>by
  simp only[AV.fgt]at h
  split at h
  .cases h
  rename_i hm;simp only[AV.trn,As (t4 htl hm)]
 | .ag l,h=>by
  simp only[AV.fgt,AV.ag.injEq]at h
  simp only[AV.trn,trns_of_fgt hn htl l h]
 | .tup l,h=>by
  simp only[AV.fgt,AV.tup.injEq]at h
  simp only[AV.trn,trns_of_fgt hn htl l h]
 | .p _ _,_=>rfl
 | .pc _ _,_=>rfl
 | .raw _,_=>rfl
 | .ip _ _,_=>rfl
 | .fn _,_=>rfl
 | .top,_=>rfl
theorem trns_of_fgt (hn:n∈ns) (htl:∀n,n∈tl->n∈ns):∀(l:List AV),AV.fgts ns l=l->AV.trns n tl l=l
 | [],_=>rfl
 | x :: r,h=>by
  simp only[AV.fgts,AEU]at h
  simp only[AV.trns,WD hn htl x h.1,trns_of_fgt hn htl r h.2]
end
end
def LE:AV->Bool
 | .raw _=>true
 | .p _ _=>true
 | _=>false
def MQ:Obj->Bool
 | .arr _ _ _=>true
 | .box _ _ fs=>fs.all LE
 | _=>false
theorem WE {n:Nat} {e:Ty} {xs:List e.den}:∀fs:List AV,fs.all LE=true->AV.frzs n e xs fs=fs
 | [],_=>rfl
 | x :: r,h=>by
  rw[AAk,An]at h;simp only[AV.frzs,WE r h.2];cases x<;>first|rfl|(have:=h.1;simp[LE]at this)
theorem WF {n:Nat}:∀fs:List AV,fs.all LE=true->AV.drps n fs=fs
 | [],_=>rfl
 | x :: r,h=>by
  rw[AAk,An]at h;simp only[AV.drps,WF r h.2];cases x<;>first|rfl|(have:=h.1;simp[LE]at this)
theorem A1m {n:Nat} {e:Ty} {xs:List e.den} {o:Obj} (h:MQ o=true):Obj.frz n e xs o=o:=by
 cases o with
 | box et st fs=>simp only[Obj.frz,WE fs h]
 | arr et a ys=>rfl
 | _=>cases h
theorem A1n {n:Nat} {o:Obj} (h:MQ o=true):Obj.drp n o=o:=by
 cases o with
 | box et st fs=>simp only[Obj.drp,WF fs h]
 | arr et a ys=>rfl
 | _=>cases h
theorem WG {hs:List Nat}:∀fs:List AV,fs.all LE=true->AV.fgts hs fs=fs
 | [],_=>rfl
 | x :: r,h=>by
  rw[AAk,An]at h;simp only[AV.fgts,WG r h.2];cases x<;>first|rfl|(have:=h.1;simp[LE]at this)
theorem Zx {hs:List Nat} {o:Obj} (h:MQ o=true):Obj.fgt hs o=o:=by
 cases o with
 | box et st fs=>simp only[Obj.fgt,WG fs h]
 | arr et a ys=>rfl
 | _=>cases h
theorem WH {n:Nat} {hs:List Nat}:∀fs:List AV,fs.all LE=true->AV.trns n hs fs=fs
 | [],_=>rfl
 | x :: r,h=>by
  rw[AAk,An]at h;simp only[AV.trns,WH r h.2];cases x<;>first|rfl|(have:=h.1;simp[LE]at this)
theorem A1o {n:Nat} {hs:List Nat} {o:Obj} (h:MQ o=true):Obj.trn n hs o=o:=by
 cases o with
 | box et st fs=>simp only[Obj.trn,WH fs h]
 | arr et a ys=>rfl
 | _=>cases h
structure IR (X σ:St) (ns:List Nat):Prop where
 env:∀s v,lk s X.env=some v->v.fgt ns=v
 arr:∀n o,lk n X.objs=some o->MQ o=true
 new:∀n o,lk n X.objs=some o->lk n σ.objs=none
 nm:∀n o,lk n X.objs=some o->n∉ns
section
variable {σ σ' X:St} {ns:List Nat}
theorem Ra.lkn (hx:Ra σ σ' X) (ha:IR X σ ns) {n:Nat} (hn:n∈ns):lk n σ'.objs=lk n σ.objs:=by
 rw[hx.objs];cases a:lk n X.objs with
 | none=>rfl
 | some o=>exact absurd hn (ha.nm n o a)
theorem Ra.obs (hx:Ra σ σ' X) (ha:IR X σ ns):gW σ σ':=by
 intro n o hn;rw[hx.objs];cases a:lk n X.objs with
 | none=>exact hn
 | some b=>rw[ha.new n b a]at hn;cases hn
theorem t5 {n:Nat} (hx:Ra σ σ' X) (ha:IR X σ ns) (hn:n∈ns):Ra (frz n σ) (frz n σ') X/\IR X (frz n σ) ns:=by
 unfold frz;split
 .exact⟨hx,ha⟩
 have core:∀(e:Ty) (xs:List e.den),Ra ⟨DR n e xs σ.env,A5 n e xs (del n σ.objs)⟩ ⟨DR n e xs σ'.env,A5 n e xs (del n σ'.objs)⟩ X/\IR X ⟨DR n e xs σ.env,A5 n e xs (del n σ.objs)⟩ ns:=by
  intro e xs;refine⟨⟨λs=>?_,λm=>?_⟩,ha.env,ha.arr,λm o b=>?_,ha.nm⟩
  .simp only[NK,hx.env];cases a:lk s X.env with
   | none=>rfl
   | some v=>simp[WA hn v (ha.env s v a)]
  .simp only[Cd,Rj];by_cases b:m=n
   .subst b;cases a:lk m X.objs with
    | none=>simp
    | some o=>exact absurd hn (ha.nm m o a)
   simp only[As b,hx.objs];cases a:lk m X.objs with
   | none=>rfl
   | some o=>exact Yp some (A1m (ha.arr m o a))
  simp only[Cd,Rj];split
  .rfl
  rw[ha.new m o b];rfl
 rw[hx.lkn ha hn];unfold oC;grind
theorem WI:∀ {l:List Nat} {σ σ':St},Ra σ σ' X->IR X σ ns->(∀n∈l,n∈ns)->Ra (Cr l σ) (Cr l σ') X/\IR X (Cr l σ) ns
 | [],_,_,hx,ha,_=>⟨hx,ha⟩
 | n :: l,σ,σ',hx,ha,h=>by
  obtain⟨h1,a⟩:=t5 hx ha (h n (by simp));have:=WI (l:=l) h1 a λm b=>h m (by simp[b]);exact this
def A1p (σ σ':St) (xs:List Operand):Prop:=∀x∈xs,Aq σ' x=Aq σ x
theorem dI (hx:Ra σ σ' X) {xs:List Operand} (h:∀t∈xs.filterMap Qa,lk t X.env=none):A1p σ σ' xs:=by
 intro x a;cases x with
 | tmp t =>
  simp only[Aq,hx.env];rw[h t (AG5.2 ⟨_,a,rfl⟩)];rfl
 | const v=>rfl
 | global g=>rfl
 | func f=>rfl
theorem MR:∀ {l:List (Nat×Operand)},A1p σ σ' (l.map (·.2))->DS σ' l=DS σ l
 | [],_=>rfl
 | (i,x) :: r,h=>by
  simp only[DS];rw[h x (by simp),MR (λy a=>h y (by simp only[UY,By];exact .inr a))]
theorem Ql:∀ {l:List (Nat×Operand)},A1p σ σ' (l.map (·.2))->FG σ' l=FG σ l
 | [],_=>rfl
 | (i,x) :: r,h=>by
  simp only[FG];rw[h x (by simp),Ql (λy a=>h y (by simp only[UY,By];exact .inr a))]
theorem pF (hx:Ra σ σ' X) (ha:IR X σ ns) (n:Nat):Cp (lk n σ'.objs)=Cp (lk n σ.objs):=by
 rw[hx.objs];cases a:lk n X.objs with
 | none=>rfl
 | some o =>
  rw[ha.new n o a];have:=ha.arr n o a;cases o<;>first|rfl|cases this
theorem jK (hx:Ra σ σ' X) (ha:IR X σ ns) {op:Op} (h:A1p σ σ' op.operands.toList):DK σ' op=DK σ op:=by
 cases op<;>simp only[DK];case buildSlice t n parts =>
  exact MR (λx hx=>h x (by simpa[Op.operands] using hx))
 case build t parts =>
  exact Ql (λx hx=>h x (by simpa[Op.operands] using hx))
 case store t x y =>
  rw[h x (by simp[Op.operands]),h y (by simp[Op.operands])];unfold Cc;split
  .rw[pF hx ha]
  rfl
 case mapUpdate t m x y =>
  rw[h m (by simp[Op.operands]),h x (by simp[Op.operands]),h y (by simp[Op.operands])]
def KC (σ:St):Option AV->Option AV->List Nat
 | some (.sr n _ _ _),some (.sr m _ _ _)=>if Cp (lk n σ.objs)=true then [n,m] else [n]
 | some (.sr n _ _ _),_=>[n]
 | some (.nin n _ _ _),_=>[n]
 | some (.raw _),some (.sr m _ _ _)=>if Cp (lk m σ.objs)=true then [m] else []
 | _,_=>[]
def jL (σ:St):Option AV->Option AV->List Nat
 | some (.ep n _ _ _ _),some (.sr m _ _ _)=>if Cp (lk n σ.objs)=true then [n,m] else []
 | _,_=>[]
def dJ (σ:St):Op->List Nat
 | .call c=>match c.callee,c.args.toList with
  | .builtin .append,[x,y]=>KC σ (Aq σ x) (Aq σ y)
  | _,_=>[]
 | .store _ x y=>jL σ (Aq σ x) (Aq σ y)
 | _=>[]
theorem A3U {n:Nat} {e:Ty} {lo hi:Nat} {v:AV}:n∈KC σ (some (.sr n e lo hi)) (some v):=by
 cases v<;>first|(simp[KC];done)|(simp only[KC];split<;>simp)
theorem t6 (hx:Ra σ σ' X) (ha:IR X σ ns) {tl:List Nat} (e:∀n,n∈tl->n∈ns) {d b:Nat} {v:AV} {f:Obj} (g:lk d X.env=none) (i:lk b X.objs=none) :
  Ra ⟨(d,v) :: CR tl σ.env,(b,f) :: Aw tl tl σ.objs⟩ ⟨(d,v) :: CR tl σ'.env,(b,f) :: Aw tl tl σ'.objs⟩ X:=by
 refine⟨λs=>?_,λm=>?_⟩
 .simp only[lk];by_cases hs:s=d
  .grind
  rw[As hs,As hs,Eu,Eu,hx.env];cases a:lk s X.env with
  | none=>rfl
  | some w=>simp[WC e w (ha.env s w a)]
 simp only[lk];by_cases c:m=b
 .grind
 rw[As c,As c,B8,B8,hx.objs];cases a:lk m X.objs with
 | none=>rfl
 | some w =>
  rw[As λh=>ha.nm m w a (e _ ((Am _ _).1 h))];exact Yp some (Zx (ha.arr m w a))
theorem t7 (hx:Ra σ σ' X) (ha:IR X σ ns) {n:Nat} {tl:List Nat} (hn:n∈ns) (b:∀n,n∈tl->n∈ns) {en:List (Nat×AV)} {new:List (Nat×Obj)} (c:∀s v,lk s en=some v->lk s X.env=none) (e:∀m o,lk m new=some o->lk m X.objs=none) :
  Ra ⟨en++E7 n tl σ.env,new++DJ n tl σ.objs⟩ ⟨en++E7 n tl σ'.env,new++DJ n tl σ'.objs⟩ X:=by
 refine⟨λs=>?_,λm=>?_⟩
 .simp only[A6];cases hs:lk s en with
  | some v=>rw[c s v hs];rfl
  | none =>
   rw[Hv,Hv,hx.env];cases a:lk s X.env with
   | none=>rfl
   | some w=>simp[WD hn b w (ha.env s w a)]
 simp only[A6];cases d:lk m new with
 | some o=>rw[e m o d];rfl
 | none =>
  rw[Ei,Ei,hx.objs];cases a:lk m X.objs with
  | none=>rfl
  | some w =>
   rw[As λh=>ha.nm m w a (by
    rcases By.1 ((Am _ _).1 h) with rfl|h
    .exact hn
    exact b _ h)]
   exact Yp some (A1o (ha.arr m w a))
theorem dL {n:Nat} {o c:Obj} (hx:Ra σ σ' X) (ha:IR X σ ns) (hn:lk n σ.objs=some o) {env b:List (Nat×AV)} (e:∀s,lk s b=(lk s X.env).or (lk s env)):Ra ⟨env,upd n c σ.objs⟩ ⟨b,upd n c σ'.objs⟩ X:=by
 refine⟨e,λm=>?_⟩;simp only[Ga];have d:lk n X.objs=none:=by
  cases h:lk n X.objs with
  | none=>rfl
  | some u=>rw[ha.new n u h]at hn;cases hn
 by_cases a:m=n
 .subst a;rw[Bq rfl,Bq rfl,hx.objs,d];rfl
 rw[As a,As a,hx.objs]
theorem Ra.some_lk (hx:Ra σ σ' X) (ha:IR X σ ns) {n:Nat} {o:Obj} (h:lk n σ.objs=some o):lk n σ'.objs=some o:=hx.obs ha n o h
theorem A1q {tb:Tb} {op:Op} {d:Option Nat} {vc:Prop} {τ:St} (hx:Ra σ σ' X) (ha:IR X σ ns) (H:A1p σ σ' op.operands.toList) (f:∀n∈dJ σ op,n∈ns) (R:∀t,d=some t->lk t X.env=none) (Q:∀n,(∃u,lk n τ.objs=some u)->lk n X.objs=none) (h:HZ tb σ d op=some (vc,τ)) :
  (∃ag,HZ tb σ' d op=some (vc,ag)/\Ra τ ag X)/\∀k,aq tb σ' k op=none:=by
 have O:=hx.obs ha;cases op<;>simp only[HZ]at h<;>try(cases h;done)
 case store t x y =>
  refine⟨?_,λ_=>rfl⟩;simp only[HZ];have f:∀n∈jL σ (Aq σ x) (Aq σ y),n∈ns:=f;rw[H x (by simp[Op.operands]),H y (by simp[Op.operands])];cases d with
  | some d=>simp[Dr]at h
  | none =>
   simp only[Dr]at h ⊢;generalize Aq σ x=ah at h f ⊢;generalize Aq σ y=ai at h f ⊢;unfold H9 at h ⊢;split at h
   .rename_i ti n ap off v V;try simp only
    unfold Da at h ⊢;split at h
    .rename_i et st fs hl;rw[hx.some_lk ha hl];try simp only
     unfold FE at h ⊢;split at h
     .rename_i u av h1 C;try rw[h1,C]
      try simp only
      split at h
      .rename_i p;rw[Bq p];cases h;exact⟨_,rfl,dL hx ha hl hx.env⟩
      cases h
     cases h
    cases h
   .rename_i ti n e i ap off v V;try simp only
    unfold Db at h ⊢;split at h
    .rename_i et aa xs hl;rw[hx.some_lk ha hl];try simp only
     cases W:ND false σ ti.ty v with
     | none=>rw[W]at h;unfold Ee at h;split at h<;>first|(cases h;done)|(rename_i C;cases C)
     | some w =>
      rw[FK O W];rw[W]at h;unfold Ee at h ⊢;split at h
      .rename_i ys w' h1 C;cases C;try rw[h1]
       try simp only
       unfold F0 at h ⊢;split at h
       .rename_i z M;try rw[M]
        try simp only
        split at h
        .rename_i p;rw[Bq p];cases h;exact⟨_,rfl,dL hx ha hl hx.env⟩
        cases h
       cases h
      cases h
    .rename_i et Z k e1 xs j hl;rw[hx.some_lk ha hl];try simp only
     split at h
     .rename_i m E hi;try simp only
      split at h
      .rename_i p;rw[Bq p];unfold L4 at h ⊢;split at h
       .rename_i G;rw[Bq G];unfold L2 at h ⊢;split at h
        .rename_i ax e2 ys B;rw[hx.some_lk ha B];try simp only
         split at h
         .rename_i al;rw[Bq al];unfold Kt at h ⊢;split at h
          .rename_i af Y;try rw[Y]
           try simp only
           cases h;have ae:∀q,q∈[n,m]->q∈ns:=λq a=>f q (by simp only[jL,hl,Cp,ZU];exact a);refine⟨_,rfl,t7 (en:=[]) (new:=[(n,_)]) hx ha (ae n (by simp)) (λq a=>ae q (by simp at a;simp[a])) (λs v h=>by cases h) (λq o a=>Q q ⟨o,?_⟩)⟩;simp only[lk]at a ⊢;split at a
           .rename_i e1;cases a;rw[Bq e1]
           cases a
          cases h
         cases h
        cases h
       cases h
      cases h
     cases h
    cases h
   cases h
 case mapUpdate t m x y =>
  refine⟨?_,λ_=>rfl⟩;simp only[HZ];rw[H m (by simp[Op.operands]),H x (by simp[Op.operands]),H y (by simp[Op.operands])];cases d with
  | some d=>simp[Dr]at h
  | none =>
   simp only[Dr]at h ⊢;generalize Aq σ m=ar at h ⊢;generalize Aq σ x=ah at h ⊢;generalize Aq σ y=ai at h ⊢;unfold Kv at h ⊢;split at h
   .try simp only
    unfold F1 at h ⊢;split at h
    .rename_i bb bd l hl;rw[hx.some_lk ha hl];try simp only
     split at h
     .rename_i p;rw[Bq p];unfold Gx at h ⊢;split at h
      .rename_i az v1 h1 C;rw[FK O h1,FK O C];try simp only
       split at h
       .rename_i G;rw[Bq G];cases h;exact⟨_,rfl,dL hx ha hl hx.env⟩
       cases h
      cases h
     cases h
    cases h
   cases h
 case call cl =>
  obtain⟨callee,⟨args⟩,⟨argTypes⟩⟩:=cl;cases callee with
  | value g=>simp[Dq]at h
  | invoke r m=>simp[Dq]at h
  | builtin b =>
   simp only[Dq]at h;unfold Eg at h;split at h
   .rename_i x y t u;have L:Aq σ' x=Aq σ x:=H x (by simp[Op.operands,Call.operands]);have P:Aq σ' y=Aq σ y:=H y (by simp[Op.operands,Call.operands]);have f:∀n∈KC σ (Aq σ x) (Aq σ y),n∈ns:=λn hn=>f n (by simpa[dJ] using hn);unfold EU at h;split at h
    .rename_i n e hi v A F;rw[A,F]at f;refine⟨?_,λk=>by simp[aq,Dp,Ed,DZ,L,A]⟩;simp only[HZ,Dq,Eg,EU,L,A,P,F];split at h
     .rename_i c ;have I:=R c rfl;have J:n∈ns:=f n A3U;try simp only
      split at h
      .rename_i K;rw[Bq K];unfold Ef at h ⊢;split at h
       .rename_i e2 ao el b2 U;try rw[U]
        try simp only
        split at h
        .rename_i T;rw[Bq T];unfold Cg at h ⊢;split at h
         .rename_i ti et aa xs h1 hl;try rw[h1]
          try rw[hx.some_lk ha hl]
          try simp only
          split at h
          .rename_i am;rw[Bq am];unfold FF at h ⊢;split at h
           .rename_i af ys C M;try rw[C]
            rw[QY O M];try simp only
            cases h;refine⟨_,rfl,⟨λs=>?_,λm=>?_⟩⟩
            .simp only[lk];by_cases hs:s=c
             .subst hs;rw[Bq rfl,Bq rfl,I];rfl
             rw[As hs,As hs,Jz,Jz,hx.env];cases D:lk s X.env with
             | none=>rfl
             | some w=>simp[WB J w (ha.env s w D)]
            simp only[Ga,Bo];have ak:lk n X.objs=none:=by
             cases D:lk n X.objs with
             | none=>rfl
             | some w=>exact absurd J (ha.nm n w D)
            by_cases B:m=n
            .subst B;rw[Bq rfl,Bq rfl,hx.objs,ak];rfl
            rw[As B,As B,hx.objs];cases D:lk m X.objs with
            | none=>rfl
            | some w=>exact Yp some (A1n (ha.arr m w D))
           cases h
          cases h
         .rename_i ti et Z k aa xs h1 hl;try rw[h1]
          try rw[hx.some_lk ha hl]
          try simp only
          split at h
          .rename_i p;rw[Bq p];unfold Su at h ⊢;split at h
           .rename_i m E an;try simp only
            unfold L3 at h ⊢;split at h
            .rename_i aj aw ba au ys B;rw[hx.some_lk ha B];try simp only
             split at h
             .rename_i G;rw[Bq G];unfold Ku at h ⊢;split at h
              .rename_i af Y;try rw[Y]
               try simp only
               cases h;refine⟨_,rfl,t6 hx ha (λq a=>f q (by simp only[KC,hl,Cp,ZU];exact a)) I ?_⟩;cases D:lk n X.objs with
               | none=>rfl
               | some w=>exact absurd J (ha.nm n w D)
              cases h
             cases h
            cases h
           cases h
          cases h
         cases h
        cases h
       cases h
      cases h
     cases h
    .rename_i n e i len v A F;rw[A,F]at f;refine⟨?_,λk=>by simp[aq,Dp,Ed,DZ,L,A]⟩;simp only[HZ,Dq,Eg,EU,L,A,P,F];split at h
     .rename_i c ;have I:=R c rfl;have J:n∈ns:=f n (by simp[KC]);try simp only
      split at h
      .rename_i K;rw[Bq K];unfold QC at h ⊢;split at h
       .rename_i e2 ao el b2 U;try rw[U]
        try simp only
        split at h
        .rename_i T;rw[Bq T];unfold Ss at h ⊢;split at h
         .rename_i ti et Z k e1 xs h1 hl;try rw[h1]
          try rw[hx.some_lk ha hl]
          try simp only
          split at h
          .rename_i p;rw[Bq p];unfold OH at h ⊢;split at h
           .rename_i ys M;rw[QY O M];try simp only
            split at h
            .rename_i ab;have N:lk c X.objs=none:=by
              refine Q c ?_;cases h;exact⟨_,by simp only[lk,ZU];rfl⟩
             have S:(lk c σ'.objs).isNone=true/\ys.isEmpty=false:=⟨by rw[hx.objs,N];exact ab.1,ab.2⟩;rw[Bq S];cases h;refine⟨_,rfl,t7 (en:=[(c,_)]) (new:=[(c,_),(n,_)]) hx ha J (λq a=>by cases a) (λs v h=>?_) (λq o a=>?_)⟩
             .simp only[lk]at h;split at h
              .rename_i e1;rw[e1];exact I
              cases h
             simp only[lk]at a;split at a
             .rename_i e1;rw[e1];exact N
             split at a
             .rename_i e1;rw[e1];cases D:lk n X.objs with
              | none=>rfl
              | some w=>exact absurd J (ha.nm n w D)
             cases a
            cases h
           cases h
          cases h
         cases h
        cases h
       cases h
      cases h
     cases h
    .rename_i v A F;rw[A,F]at f;split at h
     .rename_i c ;have I:=R c rfl;split at h
      .rename_i K;unfold cF at h;split at h
       .rename_i m E an bc offs el b V;unfold QE at h;split at h
        .rename_i ti aj Z k e ys h1 B;split at h
         .rename_i p;unfold QD at h;split at h
          .rename_i G;have N:lk c X.objs=none:=by
            refine Q c ?_;cases h;exact⟨_,by simp only[lk,ZU];rfl⟩
           have S:(lk c σ'.objs).isNone=true:=by rw[hx.objs,N];exact G.1
           have ad:=hx.some_lk ha B;refine⟨?_,λay=>by simp[aq,Dp,Ed,DZ,L,A,P,F,K,Ec,Py,ad,Cp];split<;>simp[FD]⟩;cases h;simp only[HZ,Dq,Eg,EU,L,A,P,F,cF,QE,QD];rw[Bq K,V];simp only;rw[ad,h1];simp only;rw[Bq p,Bq ⟨S,G.2⟩];exact⟨_,rfl,t6 hx ha (λq a=>f q (by simp only[KC,B,Cp,ZU];exact a)) I N⟩
          cases h
         cases h
        cases h
       cases h
      cases h
     cases h
    cases h
   cases h
end
end
section
open Go Go.RowKit
def A3V (o:Obj):Bool:=MQ o
def MS (o:Oper):EN->Bool
 | []=>true
 | (d,_,_) :: r=>!Ab d (HP o.op)&&!Ab d o.dst.toList&&MS o r
def Uu (ns:List Nat) (σ:List (Nat×Obj)):List (Nat×Obj)->Bool
 | []=>true
 | (n,o) :: r=>(lk n σ).isNone&&!Ab n ns&&A3V o&&Uu ns σ r
def IT (ns:List Nat) (σ:List (Nat×Obj)):EN->Bool
 | []=>true
 | (_,_,obs) :: r=>Uu ns σ obs&&IT ns σ r
def dM (τ:List (Nat×Obj)):List (Nat×Obj)->Bool
 | []=>true
 | (n,_) :: r=>(lk n τ).isNone&&dM τ r
def TG (τ:List (Nat×Obj)):EN->Bool
 | []=>true
 | (_,_,obs) :: r=>dM τ obs&&TG τ r
def Hb (ns:List Nat):EN->EN
 | []=>[]
 | (d,v,obs) :: r=>(d,v.fgt ns,obs) :: Hb ns r
def tn (σ:St) (o:Op):List Nat:=DK σ o++dJ (Cr (DK σ o) σ) o
theorem HB {o:Oper}:∀ {ens:EN},MS o ens=true->∀e∈ens,e.1∉HP o.op/\o.dst≠some e.1
 | [],_,e,a=>by cases a
 | (d,v,obs) :: r,h,e,a=>by
  simp only[MS,An,UL]at h;rcases By.1 a with rfl|a
  .grind [Am,Ab]
  exact HB h.2 e a
theorem Qm {ns:List Nat} {σ:List (Nat×Obj)}:∀ {l:List (Nat×Obj)},Uu ns σ l=true->∀p∈l,lk p.1 σ=none/\p.1∉ns/\A3V p.2=true
 | [],_,e,a=>by cases a
 | (n,o) :: r,h,p,hp=>by
  simp only[Uu,An,UL,Yt]at h;rcases By.1 hp with rfl|hp
  .grind [Am]
  exact Qm h.2 p hp
theorem HC {ns:List Nat} {σ:List (Nat×Obj)}:∀ {ens:EN},IT ns σ ens=true->∀e∈ens,∀p∈e.2.2,lk p.1 σ=none/\p.1∉ns/\A3V p.2=true
 | [],_,e,a=>by cases a
 | (d,v,obs) :: r,h,e,a=>by
  simp only[IT,An]at h;rcases By.1 a with rfl|a
  .exact Qm h.1
  exact HC h.2 e a
theorem TH {τ:List (Nat×Obj)}:∀ {l:List (Nat×Obj)},dM τ l=true->∀p∈l,lk p.1 τ=none
 | [],_,e,a=>by cases a
 | (n,o) :: r,h,p,hp=>by
  simp only[dM,An,Yt]at h;rcases By.1 hp with rfl|hp
  .exact h.1
  exact TH h.2 p hp
theorem PN {τ:List (Nat×Obj)}:∀ {ens:EN},TG τ ens=true->∀e∈ens,∀p∈e.2.2,lk p.1 τ=none
 | [],_,e,a=>by cases a
 | (d,v,obs) :: r,h,e,a=>by
  simp only[TG,An]at h;rcases By.1 a with rfl|a
  .exact TH h.1
  exact PN h.2 e a
theorem PO {ns:List Nat}:∀ {ens:EN},Hb ns ens=ens->∀e∈ens,e.2.1.fgt ns=e.2.1
 | [],_,e,a=>by cases a
 | (d,v,obs) :: r,h,e,a=>by
  simp only[Hb,AEU,AGi,and_true,true_and]at h;rcases By.1 a with rfl|a
  .exact h.1
  exact PO h.2 e a
section
variable {c:Cx} {o:Oper} {σ:St} {ens:EN} {N:St->Prop}
theorem jM {X:St} {ns:List Nat} (b:XIn ens X) (hn:IT ns σ.objs ens=true) (hf:Hb ns ens=ens):IR X σ ns:=by
 refine⟨λs v hs=>?_,λn o a=>?_,λn o a=>?_,λn o a=>?_⟩
 .obtain⟨obs,d⟩:=b.env s v hs;exact PO hf _ d
 all_goals
  obtain⟨e,c,hp⟩:=b.objs n o a;have:=HC hn e c _ hp
 .exact this.2.2
 .exact this.1
 exact this.2.1
theorem Zy (aa:c.Ok) {τ:St} {vc:Prop} (ns:List Nat) (h:IA c.tb o σ=some (vc,τ)) (T:tn σ o.op=ns) (K:MS o ens=true) (hn:IT ns σ.objs ens=true) (R:TG τ.objs ens=true) (hf:Hb ns ens=ens) (ab:JF c.nt o=true) (ad:vc) (Z:N τ):Y9 c o σ ens N:=by
 subst T;intro X σ' hx j a w next Q hs hk
 have ha:=jM j hn hf;have E:∀t∈HP o.op,lk t X.env=none:=λt z=>by
  cases g:lk t X.env with
  | none=>rfl
  | some v=>obtain⟨obs,f⟩:=j.env t v g;exact absurd z (HB K _ f).1
 have C:∀t,o.dst=some t->lk t X.env=none:=λt z=>by
  cases g:lk t X.env with
  | none=>rfl
  | some v=>obtain⟨obs,f⟩:=j.env t v g;exact absurd z (HB K _ f).2
 have F:∀n,(∃u,lk n τ.objs=some u)->lk n X.objs=none:=λn hu=>by
  cases g:lk n X.objs with
  | none=>rfl
  | some v =>
   obtain⟨e,P,hp⟩:=j.objs n v g;obtain⟨u,hu⟩:=hu;rw[PN R e P _ hp]at hu;cases hu
 have W:=jK hx ha (op:=o.op) (dI hx E);obtain⟨b,q⟩:=WI (l:=DK σ o.op) hx ha (λm f=>by simp[tn,f]);have key:∃k,IA c.tb o σ'=some (vc,k)/\Ra τ k X:=by
  have G:∀n∈dJ (Cr (DK σ o.op) σ) o.op,n∈tn σ o.op:=λm f=>by simp[tn,f]
  unfold IA Sv at h ⊢;rw[W];generalize Cr (DK σ o.op) σ=A at h b q G;generalize Cr (DK σ o.op) σ'=B at b;have J:=dI b E;cases y:aq c.tb A (o.dst.getD 0) o.op with
  | some r =>
   obtain⟨ae,v,obs⟩:=r;rw[y]at h;have V:=Uq (b.obs q) (λx hx v Y=>by rw[J x hx];exact Y) y;rw[V];simp only[OI]at h ⊢;split at h
   .rename_i H;cases h;have I:∀n,lk n (A.add v obs o.dst).objs=(lk n obs).or (lk n A.objs):=λn=>by cases o.dst<;>simp only[St.add,A6]
    have U:∀n,lk n (B.add v obs o.dst).objs=(lk n obs).or (lk n B.objs):=λn=>by cases o.dst<;>simp only[St.add,A6]
    have D:∀n u,lk n obs=some u->lk n X.objs=none:=λn u hu=>F n ⟨u,by rw[I,hu];rfl⟩;have S:Bd obs B=true:=by
     simp only[Bd,OR,Yt]at H ⊢;intro p hp;obtain⟨u,hu⟩:=NX hp;rw[b.objs,D _ u hu,H p hp];rfl
    rw[Bq S];refine⟨_,rfl,λs=>?_,λn=>?_⟩
    .cases O:o.dst with
     | none=>simp only[St.add];exact b.env s
     | some d =>
      simp only[St.add,lk];by_cases i:s=d
      .rw[Bq i,Bq i,i,C d O];rfl
      rw[As i,As i];exact b.env s
    rw[I,U,b.objs];cases hu:lk n obs with
    | none=>rfl
    | some u=>rw[D n u hu];rfl
   cases h
  | none =>
   rw[y]at h;simp only[OI]at h;obtain⟨⟨k,h1,L⟩,M⟩:=A1q b q J G C F h;rw[M];simp only[OI];exact⟨k,h1,L⟩
 grind [Vk,Ct]
theorem jN {σ σ':St}:∀ {xs:List Operand},A1p σ σ' xs->Iv σ' xs=Iv σ xs
 | [],_=>rfl
 | x :: r,h=>by
  simp only[Iv];rw[h x (by simp),jN (λy a=>h y (by simp[a]))]
theorem dN {σ σ':St} (h:gW σ σ') {ren:List (Nat×B1)} {x y:AV} (a:HA σ ren x y):HA σ' ren x y:=by
 cases y<;>first|exact a|exact FK h a
theorem OP {σ σ':St} (h:gW σ σ') {ren:List (Nat×B1)}:∀ {l r:List AV},BM σ ren l r->BM σ' ren l r
 | [],[],_=>trivial
 | [],_ :: _,a=>a.elim
 | _ :: _,[],a=>a.elim
 | _ :: _,_ :: _,a=>⟨dN h a.1,OP h a.2⟩
theorem OQ {l l':List (Nat×Obj)} (h:∀n o,lk n l=some o->lk n l'=some o) {ren:List (Nat×B1)}:∀ {r:List (Nat×Obj)},Ae l ren r->Ae l' ren r
 | [],_=>trivial
 | (m,o) :: r,a=>by
  refine⟨?_,OQ h a.2⟩;have h1:=a.1;cases hf:lk m ren with
  | none=>rw[hf]at h1;exact h1.elim
  | some f =>
   rw[hf]at h1;cases f with
   | nil=>exact h1
   | nm n =>
    simp only[Gd]at h1 ⊢;cases hn:lk n l with
    | none=>rw[hn]at h1;simp only[IJ]at h1
    | some x=>rw[h n x hn,<-hn];exact h1
theorem A3W (m:Nat) {b τ:St} (g:Y9 c o σ ens (λd=>d=τ)) (hn:IT [m] τ.objs ens=true) (hf:Hb [m] ens=ens) (l:frz m τ=b) (i:N b):Y9 c o σ ens N:=by
 intro X σ' hx e a w next Q hs hk
 refine g X σ' hx e a w next Q hs ?_
 rintro n rfl f w' d k j;refine hk b i f w' (frz m d) ?_ ?_
 .rw[<-l];exact(t5 k (jM e hn hf) (by simp)).1
 obtain⟨ρ,h⟩:=j;exact⟨ρ,tM h m⟩
theorem A1r (ae:c.Ok) {dst:Option Nat} {g:Operand} {xs:List Operand} {ts:Array TypeId} {ty:TypeId} {pos:String} {after:Array Edge}
  {f:FuncId} {C:List Nat} (ai:DM (Aq σ g)=some (f,C)) {as:List AV} (ad:Iv σ xs=some as)
  {A:List AV} {objs:List (Nat×Obj)} {stay:List Nat} {post:AV->List (Nat×Obj)->Prop} (Z:BA c.P f A objs stay post)
  (ren:List (Nat×B1)) (hs:List Nat) (h1:B9 ren=true) (U:CS objs ren=true) (al:(c.ds.pin.all λp=>!Ab p.1 hs)=true)
  (H:MS ⟨dst,.call ⟨.value g,xs.toArray,ts⟩,ty,pos,after,none⟩ ens=true) (hn:IT (Ah ren) σ.objs ens=true) (hf:Hb hs ens=ens) (af:JF c.nt ⟨dst,.call ⟨.value g,xs.toArray,ts⟩,ty,pos,after,none⟩=true)
  (Y:BM σ ren (as++C.map λn=>AV.bp n [] 0) A) (aa:Ae σ.objs ren objs)
  (hk:∀res q,post res q->∃(l:List (Nat×B1)) (r:AV) (i:List (Nat×Obj)),B9 l=true/\CS i l=true/\Ae q l i/\Bj l res r /\
   JL ren l stay hs=true/\FP (Ah ren) i σ.objs=true/\TG i ens=true/\N (CT σ (Ah ren) hs dst r i)) :
  Y9 c ⟨dst,.call ⟨.value g,xs.toArray,ts⟩,ty,pos,after,none⟩ σ ens N:=by
 intro X σ' hx k a w next Q an ak
 have ag:∀s v,lk s X.env=some v->v.fgt hs=v:=λs v hs=>by
  obtain⟨obs,m⟩:=k.env s v hs;exact PO hf _ m
 have F:gW σ σ':=by
  intro n o x;rw[hx.objs];cases b:lk n X.objs with
  | none=>exact x
  | some ap =>
   obtain⟨e,j,hp⟩:=k.objs n ap b;rw[(HC hn e j _ hp).1]at x;cases x
 have aj:∀n o,lk n X.objs=some o->n∉Ah ren:=λn o z=>by
  obtain⟨e,j,hp⟩:=k.objs n o z;exact(HC hn e j _ hp).2.1
 have ab:∀t∈(g :: xs).filterMap Qa,lk t X.env=none:=λt B=>by
  cases b:lk t X.env with
  | none=>rfl
  | some v =>
   obtain⟨obs,m⟩:=k.env t v b;refine absurd ?_ (HB H _ m).1;simpa[HP,Op.operands,Call.operands] using B
 have aq:∀t,dst=some t->lk t X.env=none:=λt B=>by
  cases b:lk t X.env with
  | none=>rfl
  | some v=>obtain⟨obs,m⟩:=k.env t v b;exact absurd B (HB H _ m).2
 have G:=dI hx ab;refine dC ae (xs:=xs) (ts:=ts) rfl rfl (by rw[G g (by simp)];exact ai) (by rw[jN (λy ao=>G y (by simp[ao]))];exact ad) Z ren h1 U (OP F Y) (OQ F aa) hs al an (Ct af) λres q hp=>?_;obtain⟨l,r,i,K,L,M,O,R,D,S,T⟩:=hk res q hp;have E:∀n o,lk n X.objs=some o->lk n i=none:=λn o z=>by
  obtain⟨e,j,hp⟩:=k.objs n o z;exact PN S e j _ hp
 refine⟨l,r,i,K,L,M,O,R,?_,λJ w' am=>ak _ T J w' _ ⟨λs=>?_,λn=>?_⟩ am⟩
 .simp only[FP,OR,Ub,Yt]at D ⊢;intro p hp;rcases D p hp with h|h
  .exact .inl h
  right;rw[hx.objs,h];cases b:lk p.1 X.objs with
  | none=>rfl
  | some u =>
   obtain⟨au,I⟩:=NX hp;rw[E _ u b]at I;cases I
 .have ah:lk s (CR hs σ'.env)=(lk s X.env).or (lk s (CR hs σ.env)):=by
   rw[Eu,Eu,hx.env];cases b:lk s X.env with
   | none=>rfl
   | some v=>simp[ag s v b]
  simp only[CT];cases dst with
  | none=>exact ah
  | some d =>
   simp only[LD,lk];by_cases ar:s=d
   .grind
   grind
 simp only[CT,A6,B8,hx.objs];cases b:lk n X.objs with
 | none=>simp
 | some u =>
  have W:MQ u=true:=by
   obtain⟨e,j,hp⟩:=k.objs n u b;exact(HC hn e j _ hp).2.2
  have V:¬Ab n (Ah ren)=true:=λh=>aj n _ b ((Am _ _).1 h);rw[E n _ b,As V];exact Yp some (Zx W)
end
section
variable {c:Cx} {ops:List Oper} {Kf:St->Prop} {τ:St} {ens:EN} {vc:Prop}
theorem A3X {D:List Nat} (h:pB c.tb ops τ.objs D [] τ.env=some (vc,ens)) (b:vc) (a:Rx ens τ.objs=true) (hk:Kf (MO ens τ)):Mix c ops Kf [] D ens τ:=⟨⟨vc,h,b,a⟩,hk⟩
theorem A3Y {A D:List Nat} {l:Nat} {b:List (List Nat×Nat)} {o:Oper} {d:St} {a:EN} (h:pB c.tb ops τ.objs (A++qs b D) [] τ.env=some (vc,ens)) (j:vc) (g:Rx ens τ.objs=true) (i:ops[l]?=some o) (k:MO (ens.take A.length) τ=d) (f:ens.drop A.length=a)
  (e:Y9 c o d a (λm=>Mix c ops Kf b D a m)):Mix c ops Kf ((A,l) :: b) D ens τ:=by
 subst k f;exact⟨⟨vc,h,j,g⟩,o,i,e⟩
end
end
section
open Go
attribute [local go_sem] i5 AM List.toList_toArray Br evG evK Yy Et Kw G9 F5 IA Sv OI DK DS NE Cc Cr frz oC Gz DR A5 Fu Bb AV.frz AV.frzs AV.drp AV.drps AV.names AV.namess aq G2 Le Km Tw JW Bc Bh Jw EZ Iz Ea I8 I0 I9 VV P0 HO Ko Fy ET VW Re qUn Jx JA Ly FO Dn Ja Kp Eb Tx DZ Ec FD Rf JB OG FZ OE P6 Rg Lz Jb Kq Ed Dp HZ Dr H9 Da FE Db Ee F0 Cc Cp Py Rd Oj Gw JZ JY Kn QC Ss OH L4 L2 Kt Su L3 Ku cF QE QD AV.trn AV.trns E7 DJ Obj.trn KC jL Dq Eg EU Ef Cg FF Aq lk He G0 H6 bin oB Y4 oE Sq zf1 zfs pfs AV.cells CH Jv Pz Ks QB CZ OD Ty.cell1 Iy E8 Dm GQ ND E6 Kl Lx RZ FY HN Nu Tu VU Lw Kj cD g9 Sp H5 Cq HY RV.flat Ty.flat Ty.size St.add upd del Bd Value.oneCell' Ls Ty.dflt Ix QX IK Qj List.take_succ_cons List.take_zero List.length_cons jC jD Qi J9 ML Hw KA A3z F6 NQ NR NS NT Rq Rr NU JH Vl Option.map_some Option.map_none Option.bind_some Option.getD_some Option.getD_none Option.isNone_none Option.isNone_some Bool.and_true Bool.true_and Bool.and_false Bool.false_and Bool.not_true Bool.not_false if_true if_false List.length_cons List.length_nil and_true true_and and_self List.all_cons List.all_nil List.append_nil List.nil_append List.cons_append List.getElem?_cons_zero List.getElem?_cons_succ List.getElem?_nil List.map_cons List.map_nil List.set_cons_zero List.set_cons_succ List.isEmpty_nil List.isEmpty_cons decide_true decide_false beq_self_eq_true bne_self_eq_false Nat.zero_add Nat.add_zero Nat.sub_zero Int.toNat_natCast Int.toNat_zero Int.toNat_one List.take_length List.length_append List.length_singleton true_or or_true or_self false_or or_false Ty.agg.injEq Ty.slice.injEq Ty.prod.injEq Ty.int.injEq Option.some.injEq beq_iff_eq MJ evMG evMQ opM IM MF B5 J8 HP Qa J6 IL JJ K9 Lj Oz OO PI UB MG Qc Qd J7 Ab Ak Op.operands Call.operands List.filterMap_cons List.filterMap_nil List.append_eq Bool.cond_false_right Bool.cond_true_left cond_true cond_false implies_true decide_eq_true_eq beq_true beq_false Bool.or_true Bool.or_false Bool.true_or Bool.false_or Option.isSome_some Array.empty_append List.append_toArray Fv NF FG H7 cE QA Fz GZ GY JC H8 Kr L1 Y5 oD Ir inB Kv F1 Gx Jy Aj jE List.drop_zero Dg X1 dF CT LD CR AV.fgt AV.fgts Obj.fgt Aw Ah Ab DM Iv BM HA List.any_cons List.any_nil pB jF dG jG MO Rx qs List.flatMap_cons List.flatMap_nil List.cons_append tn dJ Hb List.take_succ_cons List.drop_succ_cons B9 CS Ae FJ K8 Bj FI Dt II JG Gd IJ
end
end Go.Proofs.YtapkhdkbkodbjaaGreat.Fw
