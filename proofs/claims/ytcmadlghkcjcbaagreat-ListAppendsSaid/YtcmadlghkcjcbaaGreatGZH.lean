/- Regions in which operations on memory float among quiet ones. -/
import Derived.Test.YtcmadlghkcjcbaaGreatGZG
set_option linter.unusedVariables false
set_option linter.unusedSimpArgs false
namespace Go.Proofs.YtcmadlghkcjcbaaGreat.Fw
variable {L Q A:List Nat} {Z:List (List Nat)} {Y:List Oper} {n j:Nat} {X:List (Nat×Obj)} {E:List (Nat×List (Nat×Obj))} {o:Obj} {W:Op} {V:St} {v:AV}
section
open Go Go.RowKit
abbrev EN:=List (Nat×AV×List (Nat×Obj))
def n4 (x:Option Oper) (f:Oper->Option (Prop×EN)):Option (Prop×EN) :=
 match x with
 | some o=>f o
 | none=>none
def gL (d:Option Nat) (r:BX) (f:Nat->Prop->AV->List (Nat×Obj)->Option (Prop×EN)):Option (Prop×EN) :=
 match d,r with
 | some d,some (vc,v,obs)=>f d vc v obs
 | _,_=>none
def n5 (d:Nat) (vc:Prop) (v:AV) (obs:List (Nat×Obj)) (r:Option (Prop×EN)):Option (Prop×EN) :=
 match r with
 | some (a,l)=>some (vc/\a,(d,v,obs) :: l)
 | none=>none
def tL (tb:Tb) (ops:List Oper) (base:List (Nat×Obj)):List Nat->List (Nat×List (Nat×Obj))->List (Nat×AV)->Option (Prop×EN)
 | [],_,_=>some (True,[])
 | i :: Q,E,env=>n4 (ops[i]?) λo=>gL o.dst (aq tb ⟨env,OH false o.op base E⟩ (o.dst.getD 0) o.op) λd vc v obs=>n5 d vc v obs (tL tb ops base Q (LV d obs E) ((d,v) :: env))
def N5:EN->St->St
 | [],σ=>σ
 | (d,v,obs) :: r,σ=>N5 r ⟨(d,v) :: σ.env,obs++σ.objs⟩
def Ub:EN->List (Nat×Obj)->Bool
 | [],_=>true
 | (_,_,obs) :: r,objs=>(obs.all λp=>(lk p.1 objs).isNone)&&Ub r (obs++objs)
def A7W (tb:Tb) (ops:List Oper) (Q:List Nat) (ens:EN) (τ:St):Prop:=∃vc:Prop,tL tb ops τ.objs Q [] τ.env=some (vc,ens)/\vc/\Ub ens τ.objs=true
def qs (a:List (List Nat×Nat)) (D:List Nat):List Nat:=(a.flatMap (·.1))++D
def qB1 (ops:List Oper) (anc:List (List Nat)) (L Q:List Nat):List Nat->List Nat->Bool
 | [],_=>true
 | i :: r,pre=>(match ops[i]? with
   | some o=>o.dst.isSome&&o.guard.isNone&&((D8 o).all λe=>Ad e L||Ad e pre)&&((HP o.op).all λt=>Q.all λj=>Ap ops j != some t||(Ad j (anc.getD i [])&&Ad j pre))&&(pre.all λj=>Ap ops j != o.dst)&&!Ad i L&&!Ad i pre
   | none=>false)&&qB1 ops anc L Q r (i :: pre)
def Uc (ops:List Oper) (anc:List (List Nat)) (p0:Nat):List Nat->List (List Nat×Nat)->List Nat->Bool
 | L,[],D=>qB1 ops anc L D D []&&((List.range p0).all λi=>Ad i L||Ad i D)&&decide (L.length+D.length=p0)&&decide (p0<=ops.length)&&(L.all λi=>decide (i<p0))&&(D.all λi=>decide (i<p0))&&((List.range ops.length).all λi=>decide (i<p0)||(List.range i).all λj=>Ad j (anc.getD i []))
 | L,(A,l) :: a,D=>qB1 ops anc L (A++qs a D) (A++qs a D) []&&(match ops[l]? with
   | some o=>o.guard.isNone&&((D8 o).all λe=>Ad e L||Ad e A)&&(A.all λj=>Ad j (anc.getD l []))&&!Ad l L&&!Ad l (A++qs a D)
   | none=>false)&&(a.all λp=>Ad l (anc.getD p.2 []))&&Uc ops anc p0 (l :: (A++L)) a D
def A7X (ops:List Oper) (anc:List (List Nat)):Bool :=
 (List.range ops.length).all λi=>match ops[i]? with|some o=>((D8 o).all λe=>decide (e<i))&&((anc.getD i []).all λj=>Ad j (D8 o)||(D8 o).any λe=>Ad j (anc.getD e []))|none=>false
structure N6 (σ σ' X:St):Prop where
 env:∀s,lk s σ'.env=(lk s X.env).or (lk s σ.env)
 objs:∀n,lk n σ'.objs=(lk n X.objs).or (lk n σ.objs)
structure XIn (ens:EN) (X:St):Prop where
 env:∀s v,lk s X.env=some v->∃obs,(s,v,obs)∈ens
 objs:∀n o,lk n X.objs=some o->∃e∈ens,(n,o)∈e.2.2
def Ud (c:Cx) (o:Oper) (σ:St) (ens:EN) (N:St->Prop):Prop :=
 ∀(X σ':St),N6 σ σ' X->XIn ens X->∀(a:Act) (w:World) (next:Act->World->Prop) (Q:Exit->Act->World->Prop),c.sat σ' a w ->
  (∀τ,N τ->∀(b:Act) (w':World) (d:St),N6 τ d X->c.sat d b w'->next b w')->o.wpIn (FR c.r) 0 c.P a w next Q
def Mix (c:Cx) (ops:List Oper) (Kf:St->Prop):List (List Nat×Nat)->List Nat->EN->St->Prop
 | [],D,ens,τ=>A7W c.tb ops D ens τ/\Kf (N5 ens τ)
 | (A,l) :: a,D,ens,τ=>A7W c.tb ops (A++qs a D) ens τ/\∃o,ops[l]?=some o/\Ud c o (N5 (ens.take A.length) τ) (ens.drop A.length) (λb=>Mix c ops Kf a D (ens.drop A.length) b)
def O2 (Q:List Nat) (ens:EN) (i:Nat):En :=
 match lk i (Q.zip ens) with
 | some (_,v,obs)=>⟨true,v,obs⟩
 | none=>⟨true,.top,[]⟩
section
variable {ops:List Oper} {en:Nat->En} {τ:St}
theorem R1:∀(l:List Nat),(Au ops en τ l).env=(Au ops en ⟨[],[]⟩ l).env++τ.env
 | []=>rfl
 | i :: r=>by
  simp only[Au];cases Ap ops i with
  | none=>simp only[St.add];exact R1 r
  | some d=>simp only[St.add,AB6];rw[R1 r]
theorem n6 (l:List Nat):(Au ops en τ l).objs=(Au ops en ⟨[],[]⟩ l).objs++τ.objs:=by
 rw[Fj,Fj];simp
theorem A1e (l:List Nat):N6 τ (Au ops en τ l) (Au ops en ⟨[],[]⟩ l) :=
 ⟨λs=>by rw[R1,A2],λn=>by rw[n6,A2]⟩
structure Own (ops:List Oper) (en:Nat->En) (τ:St) (Q:List Nat):Prop where
 slot:∀i∈Q,∀j∈Q,∀s,Ap ops i=some s->Ap ops j=some s->i=j
 new:∀i∈Q,∀n o,lk n (en i).obs=some o->lk n τ.objs=none
 name:∀i∈Q,∀j∈Q,∀n o o',lk n (en i).obs=some o->lk n (en j).obs=some o'->i=j
theorem lkE {Q l:List Nat} (h:Own ops en τ Q) (hl:∀i∈l,i∈Q) (s:Nat) (v:AV):lk s (Au ops en τ l).env=some v↔(∃i∈l,Ap ops i=some s/\(en i).v=v)\/((∀i∈l,Ap ops i≠some s)/\lk s τ.env=some v):=by
 rw[Fk];cases hf:l.find? (λj=>Ap ops j==some s) with
 | none =>
  have hn:∀i∈l,Ap ops i≠some s:=λi hi=>by simpa using ACA.1 hf i hi
  constructor
  .grind
  grind
 | some j =>
  have a:=AC0 hf;have hd:Ap ops j=some s:=by simpa using ACW hf
  constructor
  .grind
  rintro (⟨i,hi,b,rfl⟩|⟨hn,_⟩)
  .rw[h.slot i (hl i hi) j (hl j a) s b hd]
  exact absurd hd (hn j a)
theorem lkO {Q l:List Nat} (h:Own ops en τ Q) (hl:∀i∈l,i∈Q) (n:Nat) (o:Obj):lk n (Au ops en τ l).objs=some o↔(∃i∈l,lk n (en i).obs=some o)\/((∀i∈l,lk n (en i).obs=none)/\lk n τ.objs=some o):=by
 rw[Fj,A2];cases hf:lk n (l.flatMap λj=>(en j).obs) with
 | some d =>
  obtain⟨j,c,a⟩:=tB hf;simp only[ACE];constructor
  .grind
  rintro (⟨i,hi,b⟩|⟨hn,_⟩)
  .have:=h.name i (hl i hi) j (hl j c) n o d b a;subst this;rw[<-a,b]
  rw[hn j c]at a;cases a
 | none =>
  have hn:=Ks hf;simp only[Option.none_or];constructor
  .grind
  grind
theorem xY {Q l A:List Nat} (h:Own ops en τ Q) (hl:∀i∈l,i∈Q) (f:∀i∈A,i∈l):N6 (Au ops en τ A) (Au ops en τ l) (Au ops en ⟨[],[]⟩ (l.filter λi=>!Ad i A)):=by
 have h0:Own ops en ⟨[],[]⟩ Q:=⟨h.slot,λ_ _ _ _ _=>rfl,h.name⟩;have hf:∀i∈l.filter (λi=>!Ad i A),i∈Q:=λi hi=>hl i (AAn.1 hi).1;have g:∀i∈A,i∈Q:=λi hi=>hl i (f i hi);have e:∀i,i∈l.filter (λi=>!Ad i A)↔i∈l/\i∉A:=λi=>by grind [Al,Ad]
 refine⟨λs=>ACH λv=>?_,λn=>ACH λo=>?_⟩
 .rw[lkE h hl,Option.or_eq_some_iff,lkE h0 hf,lkE h g];constructor
  .rintro (⟨i,hi,hd,a⟩|⟨hn,a⟩)
   .by_cases b:i∈A
    .refine .inr ⟨?_,.inl ⟨i,b,hd,a⟩⟩;cases hx:lk s (Au ops en ⟨[],[]⟩ (l.filter λi=>!Ad i A)).env with
     | none=>rfl
     | some u =>
      rcases (lkE h0 hf s u).1 hx with ⟨j,c,d,_⟩|⟨_,hx⟩
      .have:=h.slot i (hl i hi) j (hf j c) s hd d;subst this;exact absurd b ((e i).1 c).2
      cases hx
    exact .inl (.inl ⟨i,(e i).2 ⟨hi,b⟩,hd,a⟩)
   refine .inr ⟨?_,.inr ⟨λi hi=>hn i (f i hi),a⟩⟩;cases hx:lk s (Au ops en ⟨[],[]⟩ (l.filter λi=>!Ad i A)).env with
   | none=>rfl
   | some u =>
    rcases (lkE h0 hf s u).1 hx with ⟨j,c,d,_⟩|⟨_,hx⟩
    .exact absurd d (hn j ((e j).1 c).1)
    cases hx
  rintro ((⟨i,hi,hd,a⟩|⟨_,a⟩)|⟨hx,⟨i,hi,hd,a⟩|⟨hn,a⟩⟩)
  .grind
  .cases a
  .grind
  refine .inr ⟨λi hi hd=>?_,a⟩;by_cases b:i∈A
  .exact hn i b hd
  have:=(lkE h0 hf s (en i).v).2 (.inl ⟨i,(e i).2 ⟨hi,b⟩,hd,rfl⟩);rw[hx]at this;cases this
 rw[lkO h hl,Option.or_eq_some_iff,lkO h0 hf,lkO h g];constructor
 .rintro (⟨i,hi,a⟩|⟨hn,a⟩)
  .by_cases b:i∈A
   .refine .inr ⟨?_,.inl ⟨i,b,a⟩⟩;cases hx:lk n (Au ops en ⟨[],[]⟩ (l.filter λi=>!Ad i A)).objs with
    | none=>rfl
    | some u =>
     rcases (lkO h0 hf n u).1 hx with ⟨j,c,d⟩|⟨_,hx⟩
     .have:=h.name i (hl i hi) j (hf j c) n _ _ a d;subst this;exact absurd b ((e i).1 c).2
     cases hx
   exact .inl (.inl ⟨i,(e i).2 ⟨hi,b⟩,a⟩)
  refine .inr ⟨?_,.inr ⟨λi hi=>hn i (f i hi),a⟩⟩;cases hx:lk n (Au ops en ⟨[],[]⟩ (l.filter λi=>!Ad i A)).objs with
  | none=>rfl
  | some u =>
   rcases (lkO h0 hf n u).1 hx with ⟨j,c,d⟩|⟨_,hx⟩
   .rw[hn j ((e j).1 c).1]at d;cases d
   cases hx
 rintro ((⟨i,hi,a⟩|⟨_,a⟩)|⟨hx,⟨i,hi,a⟩|⟨hn,a⟩⟩)
 .grind
 .cases a
 .grind
 refine .inr ⟨λi hi=>?_,a⟩;by_cases b:i∈A
 .exact hn i b
 cases hd:lk n (en i).obs with
 | none=>rfl
 | some u =>
  have:=(lkO h0 hf n u).2 (.inl ⟨i,(e i).2 ⟨hi,b⟩,hd⟩);rw[hx]at this;cases this
end
def A1h (tb:Tb) (ops:List Oper) (τ:St) (en:Nat->En) (pre:List Nat) (i:Nat) (o:Oper):Prop :=
 ∃vc:Prop,aq tb ⟨(Au ops en τ pre).env,CE false (HP o.op) τ.objs (ES ops en pre)⟩ (o.dst.getD 0) o.op=some (vc,(en i).v,(en i).obs)/\vc
theorem gM {ts:List Nat} {d:Nat} {obs:List (Nat×Obj)}:CE false ts X (LV d obs E)=CE false ts X ((d,obs) :: E):=by
 cases obs with
 | nil=>simp only[LV,CE,ABm];split<;>rfl
 | cons x r=>rfl
theorem A1i {o:Op}:OH false o X E=CE false (HP o) X E:=by
 cases E<;>rfl
theorem Y8 {tb:Tb} {ops:List Oper} {τ:St} {en:Nat->En}:∀ {Q:List Nat} {ens:EN} {pre:List Nat} {E:List (Nat×List (Nat×Obj))} {vc:Prop},tL tb ops τ.objs Q E (Au ops en τ pre).env=some (vc,ens)->vc ->
  (∀ts,CE false ts τ.objs E=CE false ts τ.objs (ES ops en pre))->(∀(j i:Nat) (e:Nat×AV×List (Nat×Obj)),Q[j]?=some i->ens[j]?=some e->en i=⟨true,e.2.1,e.2.2⟩) ->
  ens.length=Q.length/\∀(j i:Nat),Q[j]?=some i->∃(o:Oper) (e:Nat×AV×List (Nat×Obj)),ops[i]?=some o/\ens[j]?=some e/\Ap ops i=some e.1/\A1h tb ops τ en ((Q.take j).reverse++pre) i o
 | [],ens,pre,E,vc,h,n,f,l=>by grind [tL]
 | i :: Q,ens,pre,E,vc,h,n,f,l=>by
  simp only[tL]at h;cases a:ops[i]? with
  | none=>rw[a]at h;simp[n4]at h
  | some o =>
   rw[a]at h;simp only[n4]at h;cases hd:o.dst with
   | none=>rw[hd]at h;simp[gL]at h
   | some d =>
    cases b:aq tb ⟨(Au ops en τ pre).env,OH false o.op τ.objs E⟩ (o.dst.getD 0) o.op with
    | none=>rw[b,hd]at h;simp[gL]at h
    | some r =>
     obtain⟨x,v,obs⟩:=r;rw[b,hd]at h;simp only[gL]at h;cases m:tL tb ops τ.objs Q (LV d obs E) ((d,v) :: (Au ops en τ pre).env) with
     | none=>rw[m]at h;simp[n5]at h
     | some p =>
      obtain⟨z,y⟩:=p;rw[m]at h;simp only[n5]at h;cases h;have hi:=l 0 i (d,v,obs) rfl rfl;have g:Ap ops i=some d:=by simp[Ap,a,hd]
      have u:(Au ops en τ (i :: pre)).env=(d,v) :: (Au ops en τ pre).env:=by simp[Au,g,St.add,hi]
      have q:=Y8 (pre:=i :: pre) (by rw[u];exact m) n.2 (λts=>by
       rw[gM];simp only[ES,Rd,g,ABc,hi,CE];rw[f ts];rfl) (λj k e h1 c=>l (j+1) k e (by simpa using h1) (by simpa using c))
      refine⟨by simp[q.1],λj k hk=>?_⟩;cases j with
      | zero =>
       simp only[ABQ,AAJ]at hk;subst hk;refine⟨o,(d,v,obs),a,rfl,g,x,?_,n.1⟩;rw[A1i,f]at b;simp only[AAG,List.reverse_nil,ABm];rw[hi];exact b
      | succ j =>
       obtain⟨w,e,h1,c,s,t⟩:=q.2 j k (by simpa using hk);refine⟨w,e,h1,by simpa using c,s,?_⟩;simpa[AAX] using t
theorem R2:∀ {ens:EN} {objs:List (Nat×Obj)},Ub ens objs=true->∀(j:Nat) (e:Nat×AV×List (Nat×Obj)),ens[j]?=some e->∀n o,lk n e.2.2=some o->lk n objs=none/\∀(b:Nat) (a:Nat×AV×List (Nat×Obj)) (c:Obj),ens[b]?=some a->lk n a.2.2=some c->j=b
 | [],objs,_,j,e,h=>by simp at h
 | (d,v,obs) :: r,objs,h,j,e,f=>by
  simp only[Ub,An,Of,AAB]at h;have h0:∀n o,lk n obs=some o->lk n objs=none:=λn o hn=>h.1 _ (F9 hn);have g:=R2 h.2;grind [lk,A2]
end
section
open Go Go.RowKit
structure Y9 (ops:Array Oper) (anc:List (List Nat)):Prop where
 lt:∀i o,ops[i]?=some o->∀e∈D8 o,e<i
 cl:∀i o,ops[i]?=some o->∀j∈anc.getD i [],j∈D8 o\/∃e∈D8 o,j∈anc.getD e []
theorem A9z {ops:Array Oper} {anc:List (List Nat)} (h:A7X ops.toList anc=true):Y9 ops anc:=by
 simp only[A7X,Of,Ra]at h;have hi:∀i o,ops[i]?=some o->((D8 o).all λe=>decide (e<i))=true/\((anc.getD i []).all λj=>Ad j (D8 o)||(D8 o).any λe=>Ad j (anc.getD e []))=true:=by grind
 refine⟨λi o a e b=>?_,λi o a j c=>?_⟩
 .grind
 grind [Al]
section
variable {ops:Array Oper} {k:Nat} {anc:List (List Nat)} {Q:Exit->Act->World->Prop}
theorem Tm (a:Y9 ops anc) {listed:Array Bool} (f:∀i o,ops[i]?=some o->listed.getD i true=true->∀e∈D8 o,listed.getD e false=true) :
  ∀i o,ops[i]?=some o->(∀e∈D8 o,listed.getD e false=true)->∀j∈anc.getD i [],listed.getD j false=true:=by
 intro i;induction i using Nat.strongRecOn with
 | _ i k =>
  intro o b hd j d;rcases a.cl i o b j d with h1|⟨e,c,g⟩
  .exact hd j h1
  have h:=a.lt i o b e c;grind
theorem R3 {F:Fence} {P:Program} (f:Y9 ops anc) (m:∀i o,ops[i]?=some o->k<=i->∀j,j<i->j∈anc.getD i []):∀ {rest:List Oper} {p:Nat} {listed:Array Bool} {a:Act} {w:World},ops.toList.drop p=rest->k<=p->p<=ops.size->listed.size=ops.size ->
  (∀i,i<ops.size->(listed.getD i true=true↔i<p))->wpListIn F 0 P ops Q rest a w->wpAnyIn F 0 P .any ops Q rest.length listed a w
 | [],p,listed,a,w,hd,A,B,h,hl,c=>by
  have L:p=ops.size:=by
   have:=AAv List.length hd;simp at this;omega
  refine⟨?_,c⟩;apply ACf.2;grind [Db]
 | o :: r,p,listed,a,w,hd,A,B,h,hl,c=>by
  obtain⟨d,t⟩:=Y4 hd;have d:ops[p]?=some o:=by simpa using d
  have C:p<ops.size:=(TC.1 d).1;have u:∀e b,e<ops.size->listed.getD e b=listed.getD e true:=λe b g=>by grind
  have J:∀i o,ops[i]?=some o->listed.getD i true=true->∀e∈D8 o,listed.getD e false=true:=by
   intro i o s h1 e g;have E:i<ops.size:=(TC.1 s).1;have H:=(hl i E).1 h1;have I:=f.lt i o s e g;grind
  have D:∀i,i∈Region.ready .any ops listed->i=p:=by grind [Db,Tm]
  refine⟨λK=>?_,λi hi=>?_⟩
  .exfalso;have:p∈Region.ready .any ops listed:=by
    rw[Db];refine⟨?_,o,d,λe g=>?_⟩
    .cases hh:listed.getD p true with
     | false=>rfl
     | true=>have:=(hl p C).1 hh;omega
    have:=f.lt p o d e g;rw[u e false O1];exact(hl e O1).2 this
   grind
  have x:=D i hi;subst x;have q:∀(j:Nat),j<ops.size->((listed.setIfInBounds i true).getD j true=true↔j<i+1):=by
   intro j y;have z:j<listed.size:=by omega
   by_cases n:j=i
   .subst n;simp[Array.getD,z]
   have h1:(listed.setIfInBounds i true).getD j true=listed.getD j true:=getD_set_ne true (λe=>n e.symm);rw[h1,hl j y];omega
  unfold wpOpIn;rw[d];simp only;unfold wpListIn at c;split
  .rename_i l;rw[BY l]at c;exact Oper.wpIn_mono (λG w' v=>R3 f m t.symm O1 O1 (by simpa using h) q v) c
  rename_i l;rw[At l]at c;exact⟨c.1,R3 f m t.symm O1 O1 (by simpa using h) q c.2⟩
end
structure QOk (ops:List Oper) (anc:List (List Nat)) (L Q:List Nat):Prop where
 nodup:Q.Nodup
 pos:∀(j i:Nat),Q[j]?=some i->i∉L/\∃o,ops[i]?=some o/\o.guard=none/\(∀e∈D8 o,e∈L\/e∈Q.take j)/\(∀t∈HP o.op,∀k∈Q,Ap ops k=some t->k∈anc.getD i []/\k∈Q.take j)
 slot:∀i∈Q,∀j∈Q,∀s,Ap ops i=some s->Ap ops j=some s->i=j
theorem gP {ops:List Oper} {anc:List (List Nat)} {L Q:List Nat}:∀ {r pre:List Nat},qB1 ops anc L Q r pre=true ->
  (∀(j i:Nat),r[j]?=some i->i∉L/\i∉pre/\i∉r.take j/\∃o,ops[i]?=some o/\o.guard=none/\(∀e∈D8 o,e∈L\/e∈pre\/e∈r.take j)/\(∀t∈HP o.op,∀k∈Q,Ap ops k=some t->k∈anc.getD i []/\(k∈pre\/k∈r.take j)) /\
   ∀k,k∈pre\/k∈r.take j->Ap ops k≠Ap ops i)
 | [],pre,h,j,i,a=>by simp at a
 | x :: r,pre,h,j,i,a=>by
  simp only[qB1,An]at h;obtain⟨h1,s⟩:=h;cases j with
  | zero =>
   simp only[ABQ,AAJ]at a;subst a;cases f:ops[x]? with
   | none=>rw[f]at h1;cases h1
   | some o =>
    rw[f]at h1;simp only[An,Of,TB,Al,ACb,RQ,AAB]at h1;obtain⟨⟨⟨⟨⟨⟨y,q⟩,z⟩,A⟩,B⟩,c⟩,d⟩:=h1;refine⟨λh=>(by rw[(Al _ _).2 h]at c;cases c),λh=>(by rw[(Al _ _).2 h]at d;cases d),by simp,o,rfl,q,λe u=>?_,λt ht k hk hd=>?_,λk hk=>?_⟩
    .grind
    .grind
    grind [Ap]
  | succ j =>
   obtain⟨g,b,l,o,m,n,v,w,p⟩:=gP s j i (by simpa using a);simp only[DO,not_or]at b;refine⟨g,b.2,by simp[AAX,b.1,l],o,m,n,λe u=>?_,λt ht k hk hd=>?_,λk hk=>p k ?_⟩
   .grind
   .grind
   grind
theorem gR {α:Type} {l:List α} {i:Nat} {x:α} (h:l[i]?=some x) (a:i<j):x∈l.take j:=by
 rw[tO];exact⟨i,by rw[TD,BY a];exact h⟩
theorem qOk {ops:List Oper} {anc:List (List Nat)} (h:qB1 ops anc L Q Q []=true):QOk ops anc L Q:=by
 have hs:=gP h;have m:∀ {i j x y:Nat},Q[i]?=some x->Q[j]?=some y->i<j->x≠y/\Ap ops x≠Ap ops y:=by grind [gR]
 refine⟨?_,λj i c=>?_,λi hi j c s h1 q=>?_⟩
 .rw[List.nodup_iff_pairwise_ne,RZ];intro i j hi c l e;exact(m (AT hi) (AT c) l).1 e
 .obtain⟨d,_,_,o,f,g,n,p,_⟩:=hs j i c;refine⟨d,o,f,g,λe r=>?_,λt ht k hk hd=>?_⟩
  .grind
  grind
 obtain⟨a,ha⟩:=tO.1 hi;obtain⟨b,hb⟩:=tO.1 c;grind
theorem n7:∀ {Q:List Nat} {ens:EN},Q.Nodup->∀(j i:Nat) (e:Nat×AV×List (Nat×Obj)),Q[j]?=some i->ens[j]?=some e->O2 Q ens i=⟨true,e.2.1,e.2.2⟩
 | [],ens,_,j,i,e,h,_=>by simp at h
 | x :: Q,[],_,j,i,e,_,h=>by simp at h
 | x :: Q,f :: ens,hn,j,i,e,h1,a=>by
  cases j with
  | zero =>
   simp only[ABQ,AAJ]at h1 a;subst h1;subst a;simp[O2,ACv,lk]
  | succ j =>
   have h1:Q[j]?=some i:=by simpa using h1
   have hx:i≠x:=λe=>by grind
   have:=n7 (iS.1 hn).2 j i e h1 (by simpa using a);simp only[O2,ACv,lk,At hx]at this ⊢;exact this
structure Fr (tb:Tb) (ops:List Oper) (anc:List (List Nat)) (L Q:List Nat) (ens:EN) (τ:St):Prop where
 q:QOk ops anc L Q
 len:ens.length=Q.length
 own:Own ops (O2 Q ens) τ Q
 at_:∀(j i:Nat),Q[j]?=some i->∃(o:Oper) (e:Nat×AV×List (Nat×Obj)),ops[i]?=some o/\ens[j]?=some e/\Ap ops i=some e.1/\O2 Q ens i=⟨true,e.2.1,e.2.2⟩/\A1h tb ops τ (O2 Q ens) (Q.take j).reverse i o
theorem A1j {tb:Tb} {ops:List Oper} {anc:List (List Nat)} {ens:EN} {τ:St} (d:QOk ops anc L Q) (h:A7W tb ops Q ens τ):Fr tb ops anc L Q ens τ:=by
 obtain⟨vc,h1,m,p⟩:=h;have s:=λ(j i:Nat) (e:Nat×AV×List (Nat×Obj))=>n7 (ens:=ens) d.nodup j i e;obtain⟨hl,hf⟩:=Y8 (en:=O2 Q ens) (pre:=[]) h1 m (λts=>rfl) s;have k:∀i∈Q,∃(j:Nat) (e:Nat×AV×List (Nat×Obj)),Q[j]?=some i/\ens[j]?=some e/\O2 Q ens i=⟨true,e.2.1,e.2.2⟩:=by
  intro i hi;obtain⟨j,c⟩:=tO.1 hi;grind
 refine⟨d,hl,⟨d.slot,λi hi n o hn=>?_,λi hi j c n o v f g=>?_⟩,λj i c=>?_⟩
 .grind [R2]
 .obtain⟨a,e,ha,q,t⟩:=k i hi;obtain⟨b,l,hb,r,u⟩:=k j c;rw[t]at f;rw[u]at g;have:=(R2 p a e q n o f).2 b l v r g;subst this;rw[ha]at hb;injection hb
 grind
theorem xZ {ops:List Oper} {en:Nat->En} {τ:St} {Q:List Nat} (h:Own ops en τ Q) {ts pre ex:List Nat} (g:∀j∈pre,j∈Q) (e:∀j∈ex,j∈Q) (d:∀j∈pre,Ad ((Ap ops j).getD 0) ts=true->j∈ex) :
  lk n (CE false ts τ.objs (ES ops en pre))=some o->lk n (Au ops en τ ex).objs=some o:=by
 rw[lkO h e];induction pre with
 | nil =>
  simp only[ES,ABN,CE];intro hn;refine .inr ⟨λj b=>?_,hn⟩;cases a:lk n (en j).obs with
  | none=>rfl
  | some f=>have:=h.new j (e j b) n f a;rw[this]at hn;cases hn
 | cons i r c =>
  simp only[ES,Rd,CE];have c:=c (λj b=>g j (by simp[b])) (λj b=>d j (by simp[b]));split
  .rename_i hm;intro hn;rw[A2]at hn;cases a:lk n (en i).obs with
   | some f =>
    rw[a]at hn;simp only[ACE]at hn;cases hn;exact .inl ⟨i,d i sc (by simpa using hm),a⟩
   | none =>
    rw[a]at hn;exact c (by simpa[ES] using hn)
  exact c
theorem NV {p:Nat×Obj}:∀ {l:List (Nat×Obj)},p∈l->∃b,lk p.1 l=some b
 | (c,d) :: r,h=>by
  simp only[lk];by_cases a:p.1=c
  .simp_all
  rw[At a];rcases DO.1 h with rfl|h
  .exact absurd rfl a
  exact NV h
theorem n8 {c:Cx} (y:c.Ok) {ops:List Oper} {anc:List (List Nat)} {ens:EN} {τ:St} (hF:Fr c.tb ops anc L Q ens τ) {ex:List Nat} (h:∀i∈ex,i∈Q) {j i:Nat} {o:Oper} (m:Q[j]?=some i) (s:ops[i]?=some o) (af:i∉ex)
  (Z:∀k∈anc.getD i [],k∈Q->k∈ex) (I:∀d,o.dst=some d->d<c.nt) {a:Act} {w:World} {next:Act->World->Prop} {Qe:Exit->Act->World->Prop} (hs:c.sat (Au ops (O2 Q ens) τ ex) a w)
  (hn:∀A w',c.sat (Au ops (O2 Q ens) τ (i :: ex)) A w'->next A w'):o.wpIn (FR c.r) 0 c.P a w next Qe:=by
 obtain⟨l,e,D,ab,hd,ai,vc,T,W⟩:=hF.at_ j i m;rw[s]at D;cases D;obtain⟨_,aj,E,_,_,ah⟩:=hF.q.pos j i m;rw[s]at E;cases E;have z:∀k∈(Q.take j).reverse,k∈Q:=λk hk=>TO (by simpa using hk);have R:Ops ⟨(Au ops (O2 Q ens) τ (Q.take j).reverse).env,CE false (HP o.op) τ.objs (ES ops (O2 Q ens) (Q.take j).reverse)⟩ (Au ops (O2 Q ens) τ ex) o.op.operands.toList:=by
  intro x hx v b;cases x with
  | tmp t =>
   simp only[Aq]at b ⊢;have ht:t∈HP o.op:=ABD.2 ⟨_,hx,rfl⟩;rw[lkE hF.own z]at b;rw[lkE hF.own h];rcases b with ⟨k,hk,ad,ae⟩|⟨ag,b⟩
   .grind
   grind
  | const ak=>exact b
  | global g=>exact b
  | func f=>exact b
 have N:eX ⟨(Au ops (O2 Q ens) τ (Q.take j).reverse).env,CE false (HP o.op) τ.objs (ES ops (O2 Q ens) (Q.take j).reverse)⟩ (Au ops (O2 Q ens) τ ex):=by
  intro n l hn;refine xZ hF.own z h (λk hk hm=>?_) hn;obtain⟨X,J⟩:=tO.1 (z k hk);obtain⟨_,Y,_,_,aa,_⟩:=hF.at_ X k J;grind [Al]
 have U:=Uw N R T;have C:=AAm m;have B:Bh (O2 Q ens i).obs (Au ops (O2 Q ens) τ ex)=true:=by
  simp only[Bh,Of,AAB];intro p S;obtain⟨l,F⟩:=NV S;cases hl:lk p.1 (Au ops (O2 Q ens) τ ex).objs with
  | none=>rfl
  | some u =>
   rcases (lkO hF.own h p.1 u).1 hl with ⟨k,hk,M⟩|⟨_,hu⟩
   .have:=hF.own.name i C k (h k hk) p.1 l u F M;grind
   rw[hF.own.new i C p.1 l F]at hu;cases hu
 obtain⟨ρ,G⟩:=hs;refine sU (A5g y G) U W B λu ρ' w' V=>hn _ _ ?_;have H:Ap ops i=o.dst:=by simp[Ap,s]
 simp only[Au,H];exact⟨ρ',G.add y.K y.O I B V⟩
end
section
open Go Go.RowKit
theorem MN:∀ {l l':List Nat},l.Nodup->(∀x∈l,x∈l')->l.length<=l'.length
 | [],_,_,_=>by simp
 | x :: l,l',hn,h=>by
  have hx:=h x sc;have:=MN (l:=l) (l':=l'.erase x) (iS.1 hn).2 (λy hy=>by
   have:y≠x:=λe=>(iS.1 hn).1 (e▸hy);exact(ACk this).2 (h y (by simp[hy])))
  grind
theorem I9 (A:List Nat) (l:Nat) (a:List (List Nat×Nat)) (D:List Nat):qs ((A,l) :: a) D=A++qs a D:=by simp[qs]
structure A9A (ops:List Oper) (anc:List (List Nat)) (p0:Nat) (L:List Nat) (ps:List (List Nat×Nat)) (D:List Nat):Prop where
 all:∀i,i<p0->i∈L\/i∈qs ps D\/i∈ps.map (·.2)
 back:∀i,p0<=i->i<ops.length->∀j,j<i->j∈anc.getD i []
 L:∀i∈L,i<p0
 Q:∀i∈qs ps D,i<p0
 lo:∀p∈ps,p.2<p0
 p0:p0<=ops.length
theorem WC {ops:List Oper} {anc:List (List Nat)} (h:Uc ops anc n L [] Q=true):QOk ops anc L Q/\(∀i,i<n->i∈L\/i∈Q)/\L.length+Q.length=n/\n<=ops.length/\(∀i∈L,i<n)/\(∀i∈Q,i<n)/\(∀i,n<=i->i<ops.length->∀j,j<i->j∈anc.getD i []):=by
 simp only[Uc,An,Of,Ra,TB,ON,Al]at h;grind [qOk]
theorem J2 {ops:List Oper} {anc:List (List Nat)} {l:Nat} {b:List (List Nat×Nat)} (h:Uc ops anc n L ((A,l) :: b) Q=true):QOk ops anc L (A++qs b Q)/\(∃o,ops[l]?=some o/\o.guard=none/\(∀e∈D8 o,e∈L\/e∈A))/\(∀j∈A,j∈anc.getD l [])/\l∉L/\l∉A++qs b Q/\(∀p∈b,l∈anc.getD p.2 [])/\Uc ops anc n (l :: (A++L)) b Q=true:=by
 simp only[Uc,An,Of,Al]at h;obtain⟨⟨⟨h1,a⟩,m⟩,D⟩:=h;cases f:ops[l]? with
 | none=>rw[f]at a;cases a
 | some o =>
  rw[f]at a;simp only[An,Of,TB,Al,RQ,AAB]at a;obtain⟨⟨⟨⟨g,i⟩,k⟩,c⟩,d⟩:=a;exact⟨qOk h1,⟨o,rfl,g,i⟩,k,λh=>(by rw[(Al _ _).2 h]at c;cases c),λh=>(by rw[(Al _ _).2 h]at d;cases d),m,D⟩
theorem WD {ops:List Oper} {anc:List (List Nat)} {p0:Nat}:∀ {c:List (List Nat×Nat)} {L D:List Nat},Uc ops anc p0 L c D=true->A9A ops anc p0 L c D
 | [],L,D,h=>by
  obtain⟨_,h1,j,d,e,f,g⟩:=WC h;refine⟨λi hi=>?_,g,e,by simpa[qs] using f,by simp,d⟩;grind [qs]
 | (A,l) :: c,L,D,h=>by
  obtain⟨_,_,_,_,_,_,h1⟩:=J2 h;have a:=WD h1;refine⟨λi hi=>?_,a.back,λi hi=>a.L i (by simp[hi]),λi hi=>?_,λp b=>?_,a.p0⟩
  .rcases a.all i hi with h|h|h
   .grind [I9]
   .grind [I9]
   grind
  .rw[I9,Fg]at hi;rcases hi with hi|hi
   .exact a.L i (by simp[hi])
   exact a.Q i hi
  rcases DO.1 b with rfl|b
  .exact a.L l sc
  exact a.lo p b
theorem bV {ops:List Oper} {en:Nat->En} {τ:St}:∀ {Q:List Nat} {ens:EN} {pre:List Nat},ens.length=Q.length->(∀(j i:Nat) (e:Nat×AV×List (Nat×Obj)),Q[j]?=some i->ens[j]?=some e->Ap ops i=some e.1/\en i=⟨true,e.2.1,e.2.2⟩) ->
  N5 ens (Au ops en τ pre)=Au ops en τ (Q.reverse++pre)
 | [],[],pre,_,_=>rfl
 | [],_ :: _,_,h,_=>by simp at h
 | _ :: _,[],_,h,_=>by simp at h
 | i :: Q,(d,v,obs) :: ens,pre,hl,h=>by
  obtain⟨h1,a⟩:=h 0 i (d,v,obs) rfl rfl;have:(⟨(d,v) :: (Au ops en τ pre).env,obs++(Au ops en τ pre).objs⟩:St)=Au ops en τ (i :: pre):=by simp[Au,h1,a,St.add]
  simp only[N5];rw[this,bV (by simpa using hl) (λj k e b c=>h (j+1) k e (by simpa using b) (by simpa using c))];simp
section
variable {c:Cx} {ops:Array Oper} {anc:List (List Nat)} {p0:Nat} {Kf:St->Prop} {Qe:Exit->Act->World->Prop}
theorem A1k {a:List (List Nat×Nat)} {L D:List Nat} {ens:EN} {τ:St} (b:Uc ops.toList anc p0 L a D=true) (d:Mix c ops.toList Kf a D ens τ):Fr c.tb ops.toList anc L (qs a D) ens τ:=by
 cases a with
 | nil =>
  have:qs [] D=D:=rfl;rw[this];exact A1j (WC b).1 d.1
 | cons p a =>
  obtain⟨A,l⟩:=p;rw[I9];exact A1j (J2 b).1 d.1
theorem ZA (x:Y9 ops anc) {a:List (List Nat×Nat)} {L D:List Nat} {ex:List Nat} {listed:Array Bool} (w:Uc ops.toList anc p0 L a D=true) (v:QOk ops.toList anc L (qs a D)) (u:∀i∈ex,i∈qs a D) (G:listed.size=ops.size)
  (hl:∀i,i<ops.size->(listed.getD i true=true↔i∈L\/i∈ex)) (hf:¬(a=[]/\∀i∈qs a D,i∈ex)):∃i,i∈Region.ready .any ops listed:=by
 have B:∀e b,e<ops.size->listed.getD e b=listed.getD e true:=λe b c=>by grind
 have mk:∀i o,ops[i]?=some o->i∉L->i∉ex->(∀e∈D8 o,e∈L\/e∈ex)->i∈Region.ready .any ops listed:=by
  intro i o f h1 k C;have H:i<ops.size:=(TC.1 f).1;rw[Db];refine⟨?_,o,f,λe c=>?_⟩
  .grind
  have E:=x.lt i o f e c;grind
 by_cases t:∀i∈qs a D,i∈ex
 .cases a with
  | nil=>exact absurd ⟨rfl,t⟩ hf
  | cons p a =>
   obtain⟨A,l⟩:=p;rw[I9]at t u;obtain⟨_,⟨o,f,_,hd⟩,_,h1,k,_,_⟩:=J2 w;refine⟨l,mk l o (by simpa using f) h1 (λh=>k (u l h)) λe c=>?_⟩;rcases hd e c with h|h
   .exact .inl h
   grind
 have key:∀(n j:Nat),j<=n->(∃i,(qs a D)[j]?=some i/\i∉ex)->∃i,i∈Region.ready .any ops listed:=by
  intro n;induction n with
  | zero =>
   rintro j s ⟨i,hi,d⟩;have:j=0:=by omega
   subst this;obtain⟨m,o,q,_,r,_⟩:=v.pos 0 i hi;refine⟨i,mk i o (by simpa using q) m d λe c=>?_⟩;rcases r e c with h|h
   .exact .inl h
   simp at h
  | succ n z =>
   rintro j s ⟨i,hi,d⟩;by_cases y:∃g,g<j/\∃i',(qs a D)[g]?=some i'/\i'∉ex
   .obtain⟨g,h1,k⟩:=y;exact z g O1 k
   obtain⟨m,o,q,_,r,_⟩:=v.pos j i hi;refine⟨i,mk i o (by simpa using q) m d λe c=>?_⟩;rcases r e c with h|h
   .exact .inl h
   right;obtain⟨g,F⟩:=tO.1 h;grind
 have:∃i,i∈qs a D/\i∉ex:=by grind
 obtain⟨i,hi,d⟩:=this;obtain⟨j,s⟩:=tO.1 hi;exact key j j (IN _) ⟨i,s,d⟩
theorem ZB (G:Y9 ops anc) (hT:∀τ,Kf τ->∀a w,c.sat τ a w->wpListIn (FR c.r) 0 c.P ops Qe (ops.toList.drop p0) a w) {m:Nat} {L D:List Nat} {ens:EN} {τ:St} {ex:List Nat} {listed:Array Bool} {a:Act} {w:World}
  (C:Uc ops.toList anc p0 L [] D=true) (g:Mix c ops.toList Kf [] D ens τ) (K:(L++ex).Nodup) (b:∀i∈ex,i∈D) (hm:m+L.length+ex.length=ops.size) (I:listed.size=ops.size) (hl:∀i,i<ops.size->(listed.getD i true=true↔i∈L\/i∈ex))
  (hs:c.sat (Au ops.toList (O2 D ens) τ ex) a w) (d:∀i∈D,i∈ex):wpAnyIn (FR c.r) 0 c.P .any ops Qe m listed a w:=by
 obtain⟨q,h1,R,y,S,T,z⟩:=WC C;have hF:=A1j q g.1;have U:ex.length=D.length:=ABk (MN (AAu.1 K).2.1 b) (MN q.nodup d);have J:m=(ops.toList.drop p0).length:=by grind
 have E:N5 ens τ=Au ops.toList (O2 D ens) τ D.reverse:=by
  have:=bV (ops:=ops.toList) (en:=O2 D ens) (τ:=τ) (pre:=[]) hF.len (λj i e A B=>by
   obtain⟨o,O,_,f,u,x,_⟩:=hF.at_ j i A;rw[B]at f;cases f;exact⟨u,x⟩)
  simpa[Au] using this
 have N:c.sat (N5 ens τ) a w:=by
  rw[E];have t:∀i∈D.reverse,i∈D:=λi hi=>by simpa using hi
  have l:∀i,i∈ex↔i∈D.reverse:=λi=>⟨λh=>by simpa using b i h,λh=>d i (by simpa using h)⟩;refine V5 (λs=>ACH λv=>?_) (λn=>ACH λo=>?_) hs
  .rw[lkE hF.own t,lkE hF.own b];simp only[l]
  rw[lkO hF.own t,lkO hF.own b];simp only[l]
 have:=R3 (Q:=Qe) (F:=FR c.r) (P:=c.P) G (k:=p0) (λi o M hi j H=>z i hi (by have:=(TC.1 M).1;simpa using this) j H) (rest:=ops.toList.drop p0) (p:=p0) (listed:=listed) (a:=a) (w:=w) rfl (IN _) (by simpa using y) I
  (λi hi=>by
   rw[hl i hi];constructor
   .grind
   intro h;rcases h1 i h with h|h
   .exact .inl h
   exact .inr (d i h)) (hT _ g.2 a w N)
 rw[J];exact this
theorem A5r (cc:c.Ok) (bs:∀o∈ops.toList,He c.nt o=true) (Y:Y9 ops anc) (hT:∀τ,Kf τ->∀a w,c.sat τ a w->wpListIn (FR c.r) 0 c.P ops Qe (ops.toList.drop p0) a w) :
  ∀(m:Nat) (f:List (List Nat×Nat)) (L D:List Nat) (ens:EN) (τ:St) (ex:List Nat) (listed:Array Bool) (a:Act) (w:World),Uc ops.toList anc p0 L f D=true->Mix c ops.toList Kf f D ens τ->(L++ex).Nodup->(∀i∈ex,i∈qs f D) ->
   m+L.length+ex.length=ops.size->listed.size=ops.size->(∀i,i<ops.size->(listed.getD i true=true↔i∈L\/i∈ex))->(∀i o,ops[i]?=some o->(i∈L\/i∈ex)->∀e∈D8 o,e∈L\/e∈ex) ->
   c.sat (Au ops.toList (O2 (qs f D) ens) τ ex) a w->wpAnyIn (FR c.r) 0 c.P .any ops Qe m listed a w:=by
 intro m;induction m with
 | zero =>
  intro f L D ens τ ex listed a w B O G z hm R hl aa hs;have hF:=A1k B O;by_cases hf:f=[]/\∀i∈qs f D,i∈ex
  .obtain⟨rfl,am⟩:=hf;exact ZB Y hT B O G z hm R hl hs am
  exfalso;obtain⟨i,hi⟩:=ZA Y B hF.q z R hl hf;rw[Db]at hi;obtain⟨h1,o,C,_⟩:=hi;have U:i<ops.size:=(TC.1 C).1;have H:i∉L++ex:=λh=>by grind
  have M:=WD B;have:=EI ops.size (i :: (L++ex)) (iS.2 ⟨H,G⟩) (λj d=>by
   have ar:=M.p0;simp only[ACs]at ar;rcases DO.1 d with rfl|d
   .exact U
   rcases Fg.1 d with d|d
   .have:=M.L j d;omega
   have:=M.Q j (z j d);omega)
  grind
 | succ m be =>
  intro f L D ens τ ex listed a w B O G z hm R hl aa hs;have hF:=A1k B O;have M:=WD B;have bi:∀e b,e<ops.size->listed.getD e b=listed.getD e true:=λe b E=>by grind
  by_cases hf:f=[]/\∀i∈qs f D,i∈ex
  .obtain⟨rfl,am⟩:=hf;exact ZB Y hT B O G z hm R hl hs am
  refine⟨λcq=>?_,λi hi=>?_⟩
  .obtain⟨i,hi⟩:=ZA Y B hF.q z R hl hf;grind
  rw[Db]at hi;obtain⟨h1,o,C,cl⟩:=hi;have U:i<ops.size:=(TC.1 C).1;have H:¬(i∈L\/i∈ex):=λh=>by rw[(hl i U).2 h]at h1;cases h1
  have au:∀e∈D8 o,e∈L\/e∈ex:=λe E=>by grind
  have Z:∀j∈anc.getD i [],j∈L\/j∈ex:=by
   have co:∀i o,ops[i]?=some o->listed.getD i true=true->∀e∈D8 o,listed.getD e false=true:=by
    intro i o C h1 e E;have U:i<ops.size:=(TC.1 C).1;have V:=Y.lt i o C e E;rw[bi e false O1];exact(hl e O1).2 (aa i o C ((hl i U).1 h1) e E)
   grind [Tm]
  have ad:ops.toList[i]?=some o:=by simpa using C
  have ca:o∈ops.toList:=AAm ad;have br:=Ce (bs o ca);have ay:∀(S:List Nat),(∀j,j∈S↔j=i\/j∈L\/j∈ex)->∀j,j<ops.size->((listed.setIfInBounds i true).getD j true=true↔j∈S):=by
   intro S bp j d;have bx:j<listed.size:=by omega
   rw[bp];by_cases aq:j=i
   .subst aq;simp[Array.getD,bx]
   have V:(listed.setIfInBounds i true).getD j true=listed.getD j true:=getD_set_ne true (λe=>aq e.symm);rw[V,hl j d];simp[aq]
  have bd:∀ {g:Option (Nat×Bool)},g=none->o.guard=g->Region.wanted o (yielded ops a.tmps)=true:=by
   intro g ao e;simp[Region.wanted,e,ao]
  by_cases ab:i∈qs f D
  .obtain⟨j,d⟩:=tO.1 ab;obtain⟨_,ct,az,ao,_,_⟩:=hF.q.pos j i d;rw[ad]at az;cases az;unfold wpOpIn;rw[C];simp only;rw[BY (bd rfl ao)];refine n8 cc hF z d ad (λh=>H (.inr h)) (λk hk bz=>?_) br hs λag w' cd=>?_
   .rcases Z k hk with h|h
    .obtain⟨t,N⟩:=tO.1 bz;exact absurd h (hF.q.pos t k N).1
    exact h
   refine be f L D ens τ (i :: ex) _ ag w' B O ?_ (λk hk=>?_) (by simp only[NO];omega) (by simpa using R) (λk hk=>?_) (λi' T F ap e E=>?_) cd
   .rw[AAu]at G ⊢;refine⟨G.1,iS.2 ⟨λh=>H (.inr h),G.2.1⟩,λx hx y hy=>?_⟩;rcases DO.1 hy with rfl|hy
    .exact λe=>H (.inl (e▸hx))
    exact G.2.2 x hx y hy
   .rcases DO.1 hk with rfl|hk
    .exact ab
    exact z k hk
   .rw[ay (i :: (L++ex)) (λj=>by simp) k hk];simp only[DO,Fg];constructor
    .rintro (h|h|h)
     .exact .inr (.inl h)
     .exact .inl h
     exact .inr (.inr h)
    rintro (h|h|h)
    .exact .inr (.inl h)
    .exact .inl h
    exact .inr (.inr h)
   have:e∈L\/e∈ex:=by
    rcases ap with h|h
    .exact aa i' T F (.inl h) e E
    rcases DO.1 h with rfl|h
    .rw[C]at F;cases F;exact au e E
    exact aa i' T F (.inr h) e E
   rcases this with h|h
   .exact .inl h
   exact .inr (by simp[h])
  . -- no operation of the front
   have cr:¬p0<=i:=by
    intro bu;have hb:=M.back i bu (by simpa using U);cases f with
    | nil =>
     refine hf ⟨rfl,λj d=>?_⟩;have V:=M.Q j d;rcases Z j (hb j O1) with h|h
     .obtain⟨t,N⟩:=tO.1 d;exact absurd h (hF.q.pos t j N).1
     exact h
    | cons p f =>
     obtain⟨A,l⟩:=p;obtain⟨_,_,_,ai,aj,_,_⟩:=J2 B;have V:=M.lo (A,l) sc;simp only at V;rcases Z l (hb l O1) with h|h
     .exact ai h
     exact aj (by rw[<-I9 A l];exact z l h)
   cases f with
   | nil =>
    rcases M.all i O1 with h|h|h
    .exact absurd (.inl h) H
    .exact absurd h ab
    cases h
   | cons p f =>
    obtain⟨A,l⟩:=p;obtain⟨_,⟨ol,ba,bv,cp⟩,bl,ai,aj,bj,bm⟩:=J2 B;have bw:i=l:=by
     rcases M.all i O1 with h|h|h
     .exact absurd (.inl h) H
     .exact absurd h ab
     simp only[Rd,DO,Do]at h;rcases h with h|⟨p,ar,rfl⟩
     .exact h
     rcases Z l (bj p ar) with h|h
     .exact absurd h ai
     exact absurd (z l h) (by rw[I9];exact aj)
    subst bw;rw[ad]at ba;cases ba;rw[I9]at hF z hs ab;obtain⟨cn,T,F,bn⟩:=O;rw[ad]at F;cases F;have W:∀j∈A,j∈ex:=λj d=>by
     rcases Z j (bl j d) with h|h
     .obtain⟨t,N⟩:=tO.1 (show j∈A++qs f D by simp[d]);exact absurd h (hF.q.pos t j N).1
     exact h
    have ak:A.Nodup/\(qs f D).Nodup/\∀x∈A,∀y∈qs f D,x≠y:=AAu.1 hF.q.nodup;have bq:N5 (ens.take A.length) τ=Au ops.toList (O2 (A++qs f D) ens) τ A.reverse:=by
     have:=bV (ops:=ops.toList) (en:=O2 (A++qs f D) ens) (τ:=τ) (pre:=[]) (Q:=A) (ens:=ens.take A.length) (by have:=hF.len;simp only[By]at this;simp only[On];omega) (λj i e K u=>by
      have ax:j<A.length:=(RL.1 K).1;obtain⟨o,ck,_,I,J,ah,_⟩:=hF.at_ j i (by rw[RU ax];exact K);rw[TD,BY ax,I]at u;cases u;exact⟨J,ah⟩)
     simpa[Au] using this
    have bc:=xY (A:=A.reverse) hF.own z (λj d=>W j (by simpa using d));rw[<-bq]at bc;have af:∀j,j∈ex.filter (λj=>!Ad j A.reverse)↔j∈ex/\j∉A:=λj=>by
     rw[AAn];have:=Al j A.reverse;constructor
     .rintro⟨K,u⟩;exact⟨K,λI=>by rw[this.2 (by simpa using I)]at u;cases u⟩
     rintro⟨K,u⟩;refine⟨K,?_⟩;cases cb:Ad j A.reverse with
     | false=>rfl
     | true=>exact absurd (by simpa using this.1 cb) u
    have X:∀j∈ex.filter (λj=>!Ad j A.reverse),j∈qs f D:=λj d=>by
     have:=z j ((af j).1 d).1;rcases Fg.1 this with h|h
     .exact absurd h ((af j).1 d).2
     exact h
    have an:∀j∈qs f D,∃(t:Nat) (e:Nat×AV×List (Nat×Obj)),(qs f D)[t]?=some j/\(ens.drop A.length)[t]?=some e/\Ap ops.toList j=some e.1/\O2 (A++qs f D) ens j=⟨true,e.2.1,e.2.2⟩:=by
     intro j d;obtain⟨t,N⟩:=tO.1 d;obtain⟨o,e,_,I,J,ah,_⟩:=hF.at_ (A.length+t) j (by rw[RS O1,AC7];exact N);exact⟨t,e,N,by rw[AAd];exact I,J,ah⟩
    have bb:Own ops.toList (O2 (A++qs f D) ens) ⟨[],[]⟩ (A++qs f D):=⟨hF.own.slot,λ_ _ _ _ _=>rfl,hF.own.name⟩;have av:∀j∈ex.filter (λj=>!Ad j A.reverse),j∈A++qs f D:=λj d=>by simp[X j d]
    unfold wpOpIn;rw[C];simp only;rw[BY (bd rfl bv)];refine bn _ _ bc ⟨λs v ae=>?_,λn T hn=>?_⟩ a w _ _ hs λbh bo ag w' cu aw ce=>?_
    .rcases (lkE bb av s v).1 ae with ⟨j,d,hd,rfl⟩|⟨_,ae⟩
     .obtain⟨t,e,_,u,I,J⟩:=an j (X j d);rw[hd]at I;cases I;rw[J];exact⟨e.2.2,AAm u⟩
     cases ae
    .rcases (lkO bb av n T).1 hn with ⟨j,d,hd⟩|⟨_,ae⟩
     .obtain⟨t,e,_,u,I,J⟩:=an j (X j d);rw[J]at hd;exact⟨e,AAm u,F9 hd⟩
     cases ae
    have cm:ex.length=A.length+(ex.filter (λj=>!Ad j A.reverse)).length:=by
     have cf:∀l:List Nat,l.length=(l.filter (λj=>Ad j A.reverse)).length+(l.filter (λj=>!Ad j A.reverse)).length:=by
      intro l;induction l with
      | nil=>rfl
      | cons x r cs =>
       simp only[oR,NO];cases Ad x A.reverse<;>simp<;>omega
     rw[cf ex];have bt:=(AAu.1 G).2.1;have K:(ex.filter (λj=>Ad j A.reverse)).length<=A.length:=MN (bt.filter _) λx hx=>by
      have:=(Al _ _).1 (AAn.1 hx).2;simpa using this
     have u:A.length<=(ex.filter (λj=>Ad j A.reverse)).length:=MN ak.1 λx hx=>AAn.2 ⟨W x hx,(Al _ _).2 (by simpa using hx)⟩;omega
    have al:∀x,(x∈i :: (A++L)\/x∈ex.filter (λj=>!Ad j A.reverse))↔x=i\/x∈L\/x∈ex:=by
     intro x;rw[af];simp only[DO,Fg];constructor
     .rintro ((h|h|h)|h)
      .exact .inl h
      .exact .inr (.inr (W x h))
      .exact .inr (.inl h)
      exact .inr (.inr h.1)
     rintro (h|h|h)
     .exact .inl (.inl h)
     .exact .inl (.inr (.inr h))
     by_cases hx:x∈A
     .exact .inl (.inr (.inl hx))
     exact .inr ⟨h,hx⟩
    refine be f (i :: (A++L)) D (ens.drop A.length) bh (ex.filter λj=>!Ad j A.reverse) _ ag w' bm bo ?_ X (by simp only[NO,By];omega) (by simpa using R) (λk hk=>?_) (λi' T F ap e E=>?_) ?_
    .obtain⟨n1,ci,bf⟩:=AAu.1 G;have bk:∀x∈A,x∉L:=λx hx cg=>bf x cg x (W x hx) rfl;rw[AAu];refine⟨iS.2 ⟨λh=>?_,AAu.2 ⟨ak.1,n1,λx hx y hy e=>bk x hx (e▸hy)⟩⟩,ci.filter _,λx hx y hy e=>?_⟩
     .rcases Fg.1 h with h|h
      .exact H (.inr (W i h))
      exact H (.inl h)
     subst e;obtain⟨bg,cj⟩:=(af x).1 hy;rcases DO.1 hx with rfl|hx
     .exact H (.inr bg)
     rcases Fg.1 hx with hx|hx
     .exact cj hx
     exact bf x hx x bg rfl
    .rw[al k,ay (i :: (L++ex)) (λj=>by simp) k hk];simp
    .rw[al];have:e∈L\/e∈ex:=by
      rcases (al i').1 ap with rfl|h
      .rw[C]at F;cases F;exact au e E
      exact aa i' T F h e E
     exact .inr this
    have ch:∀j∈ex.filter (λj=>!Ad j A.reverse),O2 (qs f D) (ens.drop A.length) j=O2 (A++qs f D) ens j:=λj d=>by
     obtain⟨t,e,K,u,_,J⟩:=an j (X j d);rw[J];exact n7 ak.2.1 t j e K u
    have hx:=A1e (ops:=ops.toList) (en:=O2 (qs f D) (ens.drop A.length)) (τ:=bh) (ex.filter λj=>!Ad j A.reverse);rw[Kr (en:=O2 (A++qs f D) ens) (σ0:=⟨[],[]⟩) ch]at hx;exact V5 (λs=>by rw[hx.env,aw.env]) (λn=>by rw[hx.objs,aw.objs]) ce
end
section
variable {c:Cx} {R:Exit->Act->World->Prop} {k:List DP} {σ:St}
theorem EP (hm:c.P.follows .mixedOrders=true) (g:c.Ok) {l:List Oper} (p0:Nat) (d:List (List Nat×Nat)) (D:List Nat) (b:(A7X l (A13 l)&&Uc l (A13 l) p0 [] d D)=true) {ens:EN}
  (h:Mix c l (fun τ=>N4 c R k l.toArray (l.drop p0) τ) d D ens σ):Ev c R (.run (.region n l.toArray true)) k σ:=by
 intro h1 e a w hs;simp only[IC,Bn,Of]at h1;simp only[An]at b;refine wpIn_region_any hm ?_;have hk:∀τ,N4 c R k l.toArray (l.drop p0) τ->∀a w,c.sat τ a w->wpListIn (FR c.r) 0 c.P l.toArray (Vr c R k) (l.toArray.toList.drop p0) a w:=fun τ f a w hs=>f (λo j=>h1 o (by simpa using ABs j)) e a w hs;exact A5r (ops:=l.toArray) (anc:=A13 l) g (by simpa using h1) (A9z (by simpa using b.1)) hk l.toArray.size d [] D ens σ [] (Array.replicate l.toArray.size false) a { w with drawn:=w.drawn+1 } (by simpa using b.2) (by simpa using h) sc sc sc sc (λi hi=>by simp at hi;simp[Array.getD,hi]) (λi o _ hi=>by simp at hi) (gI hs)
end
end
section
open Go Go.RowKit
section
variable {n:Nat} {ns:List Nat}
theorem Gn {m:Nat} (hn:n∈ns) (h:¬Ad m ns=true):¬m=n:=λe=>h ((Al _ _).2 (e▸hn))
mutual
theorem WE (hn:n∈ns) {e:Ty} {xs:List e.den}:∀(x:AV),x.fgt ns=x->x.frz n e xs=x
 | .sr m e' lo hi,h=>by grind [AV.fgt,AV.frz,Gn]
 | .ep m e' i path off,h=>by grind [AV.fgt,AV.frz,Gn]
 | .nin m e' i len,h=>by grind [AV.fgt,AV.frz,Gn]
 | .ag l,h=>by
  simp only[AV.fgt,AV.ag.injEq]at h
  simp only[AV.frz,frzs_of_fgt hn l h]
 | .tup l,h=>by
  simp only[AV.fgt,AV.tup.injEq]at h
  simp only[AV.frz,frzs_of_fgt hn l h]
 | .p _ _,_=>rfl
 | .pc _ _,_=>rfl
 | .raw _,_=>rfl
 | .ip _ _,_=>rfl
 | .bp _ _ _,_=>rfl
 | .fn _,_=>rfl
 | .clo _ _,_=>rfl
 | .mp _,_=>rfl
 | .yl _,_=>rfl
 | .top,_=>rfl
theorem frzs_of_fgt (hn:n∈ns) {e:Ty} {xs:List e.den}:∀(l:List AV),AV.fgts ns l=l->AV.frzs n e xs l=l
 | [],_=>rfl
 | x :: r,h=>by
  simp only[AV.fgts,ABw]at h
  simp only[AV.frzs,WE hn x h.1,frzs_of_fgt hn r h.2]
end
mutual
theorem WF (hn:n∈ns):∀(x:AV),x.fgt ns=x->x.drp n=x
 | .sr m e' lo hi,h=>by grind [AV.fgt,AV.drp,Gn]
 | .ep m e' i path off,h=>by grind [AV.fgt,AV.drp,Gn]
 | .nin m e' i len,h=>by grind [AV.fgt,AV.drp,Gn]
 | .ag l,h=>by
  simp only[AV.fgt,AV.ag.injEq]at h
  simp only[AV.drp,drps_of_fgt hn l h]
 | .tup l,h=>by
  simp only[AV.fgt,AV.tup.injEq]at h
  simp only[AV.drp,drps_of_fgt hn l h]
 | .p _ _,_=>rfl
 | .pc _ _,_=>rfl
 | .raw _,_=>rfl
 | .ip _ _,_=>rfl
 | .bp _ _ _,_=>rfl
 | .fn _,_=>rfl
 | .clo _ _,_=>rfl
 | .mp _,_=>rfl
 | .yl _,_=>rfl
 | .top,_=>rfl
theorem drps_of_fgt (hn:n∈ns):∀(l:List AV),AV.fgts ns l=l->AV.drps n l=l
 | [],_=>rfl
 | x :: r,h=>by
  simp only[AV.fgts,ABw]at h
  simp only[AV.drps,WF hn x h.1,drps_of_fgt hn r h.2]
end
end
section
variable {n:Nat} {ns tl:List Nat}
theorem D9 (a:∀n,n∈tl->n∈ns) {m:Nat} (h:¬Ad m ns=true):¬Ad m tl=true:=λh1=>h ((Al _ _).2 (a _ ((Al _ _).1 h1)))
theorem tM (a:∀n,n∈tl->n∈ns) {l:List Nat} (h:¬(l.any λm=>Ad m ns)=true):¬(l.any λm=>Ad m tl)=true:=λh1=>by grind [Al]
mutual
theorem WG (htl:∀n,n∈tl->n∈ns):∀(x:AV),x.fgt ns=x->x.fgt tl=x
 | .sr m e' lo hi,h=>by grind [AV.fgt,D9]
 | .ep m e' i path off,h=>by grind [AV.fgt,D9]
 | .nin m e' i len,h=>by grind [AV.fgt,D9]
 | .bp m path off,h=>by grind [AV.fgt,D9]
 | .mp m,h=>by grind [AV.fgt,D9]
 | .yl m,h=>by grind [AV.fgt,D9]
 | .clo f cs,h=>by
  simp only[AV.fgt]at h
  split at h
  .cases h
  rename_i hm;simp only[AV.fgt,At (tM htl hm)]
 | .ag l,h=>by
  simp only[AV.fgt,AV.ag.injEq]at h
  simp only[AV.fgt,fgts_of_fgt htl l h]
 | .tup l,h=>by
  simp only[AV.fgt,AV.tup.injEq]at h
  simp only[AV.fgt,fgts_of_fgt htl l h]
 | .p _ _,_=>rfl
 | .pc _ _,_=>rfl
 | .raw _,_=>rfl
 | .ip _ _,_=>rfl
 | .fn _,_=>rfl
 | .top,_=>rfl
theorem fgts_of_fgt (htl:∀n,n∈tl->n∈ns):∀(l:List AV),AV.fgts ns l=l->AV.fgts tl l=l
 | [],_=>rfl
 | x :: r,h=>by
  simp only[AV.fgts,ABw]at h
  simp only[AV.fgts,WG htl x h.1,fgts_of_fgt htl r h.2]
end
mutual
theorem WH (hn:n∈ns) (htl:∀n,n∈tl->n∈ns):∀(x:AV),x.fgt ns=x->x.trn n tl=x
 | .sr m e' lo hi,h=>by grind [AV.fgt,AV.trn,D9]
 | .ep m e' i path off,h=>by grind [AV.fgt,AV.trn,D9]
 | .nin m e' i len,h=>by grind [AV.fgt,AV.trn,Gn,D9]
 | .bp m path off,h=>by grind [AV.fgt,AV.trn,D9]
 | .mp m,h=>by grind [AV.fgt,AV.trn,D9]
 | .yl m,h=>by grind [AV.fgt,AV.trn,D9]
 | .clo f cs,h=>by
  simp only[AV.fgt]at h
  split at h
  .cases h
  rename_i hm;simp only[AV.trn,At (tM htl hm)]
 | .ag l,h=>by
  simp only[AV.fgt,AV.ag.injEq]at h
  simp only[AV.trn,trns_of_fgt hn htl l h]
 | .tup l,h=>by
  simp only[AV.fgt,AV.tup.injEq]at h
  simp only[AV.trn,trns_of_fgt hn htl l h]
 | .p _ _,_=>rfl
 | .pc _ _,_=>rfl
 | .raw _,_=>rfl
 | .ip _ _,_=>rfl
 | .fn _,_=>rfl
 | .top,_=>rfl
theorem trns_of_fgt (hn:n∈ns) (htl:∀n,n∈tl->n∈ns):∀(l:List AV),AV.fgts ns l=l->AV.trns n tl l=l
 | [],_=>rfl
 | x :: r,h=>by
  simp only[AV.fgts,ABw]at h
  simp only[AV.trns,WH hn htl x h.1,trns_of_fgt hn htl r h.2]
end
end
def Kt:AV->Bool
 | .raw _=>true
 | .p _ _=>true
 | _=>false
def MO:Obj->Bool
 | .arr _ _ _=>true
 | .box _ _ fs=>fs.all Kt
 | _=>false
theorem WI {n:Nat} {e:Ty} {xs:List e.den}:∀fs:List AV,fs.all Kt=true->AV.frzs n e xs fs=fs
 | [],_=>rfl
 | x :: r,h=>by
  rw[ABi,An]at h;simp only[AV.frzs,WI r h.2];cases x<;>first|rfl|(have:=h.1;simp[Kt]at this)
theorem WJ {n:Nat}:∀fs:List AV,fs.all Kt=true->AV.drps n fs=fs
 | [],_=>rfl
 | x :: r,h=>by
  rw[ABi,An]at h;simp only[AV.drps,WJ r h.2];cases x<;>first|rfl|(have:=h.1;simp[Kt]at this)
theorem x5 {e:Ty} {xs:List e.den} (h:MO o=true):Obj.frz n e xs o=o:=by
 cases o with
 | box et st fs=>simp only[Obj.frz,WI fs h]
 | arr et a ys=>rfl
 | _=>cases h
theorem x6 (h:MO o=true):Obj.drp n o=o:=by
 cases o with
 | box et st fs=>simp only[Obj.drp,WJ fs h]
 | arr et a ys=>rfl
 | _=>cases h
theorem WK {hs:List Nat}:∀fs:List AV,fs.all Kt=true->AV.fgts hs fs=fs
 | [],_=>rfl
 | x :: r,h=>by
  rw[ABi,An]at h;simp only[AV.fgts,WK r h.2];cases x<;>first|rfl|(have:=h.1;simp[Kt]at this)
theorem ZC {hs:List Nat} (h:MO o=true):Obj.fgt hs o=o:=by
 cases o with
 | box et st fs=>simp only[Obj.fgt,WK fs h]
 | arr et a ys=>rfl
 | _=>cases h
theorem WL {n:Nat} {hs:List Nat}:∀fs:List AV,fs.all Kt=true->AV.trns n hs fs=fs
 | [],_=>rfl
 | x :: r,h=>by
  rw[ABi,An]at h;simp only[AV.trns,WL r h.2];cases x<;>first|rfl|(have:=h.1;simp[Kt]at this)
theorem ZD {hs:List Nat} (h:MO o=true):Obj.trn n hs o=o:=by
 cases o with
 | box et st fs=>simp only[Obj.trn,WL fs h]
 | arr et a ys=>rfl
 | _=>cases h
structure IH (X σ:St) (ns:List Nat):Prop where
 env:∀s v,lk s X.env=some v->v.fgt ns=v
 arr:∀n o,lk n X.objs=some o->MO o=true
 new:∀n o,lk n X.objs=some o->lk n σ.objs=none
 nm:∀n o,lk n X.objs=some o->n∉ns
section
variable {σ σ' X:St} {ns:List Nat}
theorem N6.lkn (hx:N6 σ σ' X) (ha:IH X σ ns) {n:Nat} (hn:n∈ns):lk n σ'.objs=lk n σ.objs:=by
 rw[hx.objs];cases a:lk n X.objs with
 | none=>rfl
 | some o=>exact absurd hn (ha.nm n o a)
theorem N6.obs (hx:N6 σ σ' X) (ha:IH X σ ns):eX σ σ':=by
 intro n o hn;rw[hx.objs];cases a:lk n X.objs with
 | none=>exact hn
 | some b=>rw[ha.new n b a]at hn;cases hn
theorem tP {n:Nat} (hx:N6 σ σ' X) (ha:IH X σ ns) (hn:n∈ns):N6 (frz n σ) (frz n σ') X/\IH X (frz n σ) ns:=by
 unfold frz;split
 .exact⟨hx,ha⟩
 have core:∀(e:Ty) (xs:List e.den),N6 ⟨DY n e xs σ.env,BB n e xs (del n σ.objs)⟩ ⟨DY n e xs σ'.env,BB n e xs (del n σ'.objs)⟩ X/\IH X ⟨DY n e xs σ.env,BB n e xs (del n σ.objs)⟩ ns:=by
  intro e xs;refine⟨⟨λs=>?_,λm=>?_⟩,ha.env,ha.arr,λm o hm=>?_,ha.nm⟩
  .simp only[NI,hx.env];cases a:lk s X.env with
   | none=>rfl
   | some v=>simp[WE hn v (ha.env s v a)]
  .simp only[Cd,Rn];by_cases hm:m=n
   .subst hm;cases a:lk m X.objs with
    | none=>simp
    | some o=>exact absurd hn (ha.nm m o a)
   simp only[At hm,hx.objs];cases a:lk m X.objs with
   | none=>rfl
   | some o=>exact AAv some (x5 (ha.arr m o a))
  simp only[Cd,Rn];split
  .rfl
  rw[ha.new m o hm];rfl
 rw[hx.lkn ha hn];unfold wZ;grind
theorem WM:∀ {l:List Nat} {σ σ':St},N6 σ σ' X->IH X σ ns->(∀n∈l,n∈ns)->N6 (DB l σ) (DB l σ') X/\IH X (DB l σ) ns
 | [],_,_,hx,ha,_=>⟨hx,ha⟩
 | n :: l,σ,σ',hx,ha,h=>by
  obtain⟨h1,a⟩:=tP hx ha (h n sc);have:=WM (l:=l) h1 a λm hm=>h m (by simp[hm]);exact this
def n9 (σ σ':St) (xs:List Operand):Prop:=∀x∈xs,Aq σ' x=Aq σ x
theorem U4 (hx:N6 σ σ' X) {xs:List Operand} (h:∀t∈xs.filterMap Ti,lk t X.env=none):n9 σ σ' xs:=by
 intro x hm;cases x with
 | tmp t =>
  simp only[Aq,hx.env];rw[h t (ABD.2 ⟨_,hm,rfl⟩)];rfl
 | const v=>rfl
 | global g=>rfl
 | func f=>rfl
theorem MP:∀ {l:List (Nat×Operand)},n9 σ σ' (l.map (·.2))->Dp σ' l=Dp σ l
 | [],_=>rfl
 | (i,x) :: r,h=>by
  simp only[Dp];rw[h x sc,MP (λy hy=>h y (by simp only[Rd,DO];exact .inr hy))]
theorem QJ:∀ {l:List (Nat×Operand)},n9 σ σ' (l.map (·.2))->F8 σ' l=F8 σ l
 | [],_=>rfl
 | (i,x) :: r,h=>by
  simp only[F8];rw[h x sc,QJ (λy hy=>h y (by simp only[Rd,DO];exact .inr hy))]
theorem oC (hx:N6 σ σ' X) (ha:IH X σ ns) (n:Nat):C9 (lk n σ'.objs)=C9 (lk n σ.objs):=by
 rw[hx.objs];cases a:lk n X.objs with
 | none=>rfl
 | some o =>
  rw[ha.new n o a];have:=ha.arr n o a;cases o<;>first|rfl|cases this
theorem gS (hx:N6 σ σ' X) (ha:IH X σ ns) {op:Op} (h:n9 σ σ' op.operands.toList):CY σ' op=CY σ op:=by
 cases op<;>simp only[CY];case buildSlice t n parts =>
  exact MP (λx hx=>h x (by simpa[Op.operands] using hx))
 case build t parts =>
  exact QJ (λx hx=>h x (by simpa[Op.operands] using hx))
 case store t x y =>
  rw[h x (by simp[Op.operands]),h y (by simp[Op.operands])];unfold DL;split
  .rw[oC hx ha]
  rfl
 case mapUpdate t m x y =>
  rw[h m (by simp[Op.operands]),h x (by simp[Op.operands]),h y (by simp[Op.operands])]
def LY (σ:St):Option AV->Option AV->List Nat
 | some (.sr n _ _ _),some (.sr m _ _ _)=>if C9 (lk n σ.objs)=true then [n,m] else [n]
 | some (.sr n _ _ _),_=>[n]
 | some (.nin n _ _ _),_=>[n]
 | some (.raw _),some (.sr m _ _ _)=>if C9 (lk m σ.objs)=true then [m] else []
 | _,_=>[]
def oD (σ:St):Option AV->Option AV->List Nat
 | some (.ep n _ _ _ _),some (.sr m _ _ _)=>if C9 (lk n σ.objs)=true then [n,m] else []
 | _,_=>[]
def gT (σ:St):Op->List Nat
 | .call c=>match c.callee,c.args.toList with
  | .builtin .append,[x,y]=>LY σ (Aq σ x) (Aq σ y)
  | _,_=>[]
 | .store _ x y=>oD σ (Aq σ x) (Aq σ y)
 | _=>[]
theorem A1l {n:Nat} {e:Ty} {lo hi:Nat}:n∈LY σ (some (.sr n e lo hi)) (some v):=by
 cases v<;>first|(simp[LY];done)|(simp only[LY];split<;>simp)
theorem tQ (hx:N6 σ σ' X) (ha:IH X σ ns) {tl:List Nat} (c:∀n,n∈tl->n∈ns) {d b:Nat} {e:Obj} (hd:lk d X.env=none) (f:lk b X.objs=none) :
  N6 ⟨(d,v) :: Cc tl σ.env,(b,e) :: Az tl tl σ.objs⟩ ⟨(d,v) :: Cc tl σ'.env,(b,e) :: Az tl tl σ'.objs⟩ X:=by
 refine⟨λs=>?_,λm=>?_⟩
 .simp only[lk];by_cases hs:s=d
  .grind
  rw[At hs,At hs,Ez,Ez,hx.env];cases a:lk s X.env with
  | none=>rfl
  | some w=>simp[WG c w (ha.env s w a)]
 simp only[lk];by_cases hm:m=b
 .grind
 rw[At hm,At hm,CD,CD,hx.objs];cases a:lk m X.objs with
 | none=>rfl
 | some w =>
  rw[At λh=>ha.nm m w a (c _ ((Al _ _).1 h))];exact AAv some (ZC (ha.arr m w a))
theorem tR (hx:N6 σ σ' X) (ha:IH X σ ns) {n:Nat} {tl:List Nat} (hn:n∈ns) (b:∀n,n∈tl->n∈ns) {en:List (Nat×AV)} {new:List (Nat×Obj)} (hd:∀s v,lk s en=some v->lk s X.env=none) (c:∀m o,lk m new=some o->lk m X.objs=none) :
  N6 ⟨en++Eh n tl σ.env,new++C1 n tl σ.objs⟩ ⟨en++Eh n tl σ'.env,new++C1 n tl σ'.objs⟩ X:=by
 refine⟨λs=>?_,λm=>?_⟩
 .simp only[A2];cases hs:lk s en with
  | some v=>rw[hd s v hs];rfl
  | none =>
   rw[Fi,Fi,hx.env];cases a:lk s X.env with
   | none=>rfl
   | some w=>simp[WH hn b w (ha.env s w a)]
 simp only[A2];cases hm:lk m new with
 | some o=>rw[c m o hm];rfl
 | none =>
  rw[DN,DN,hx.objs];cases a:lk m X.objs with
  | none=>rfl
  | some w =>
   rw[At λh=>ha.nm m w a (by
    rcases DO.1 ((Al _ _).1 h) with rfl|h
    .exact hn
    exact b _ h)]
   exact AAv some (ZD (ha.arr m w a))
theorem bW {n:Nat} {b:Obj} (hx:N6 σ σ' X) (ha:IH X σ ns) (hn:lk n σ.objs=some o) {env a:List (Nat×AV)} (d:∀s,lk s a=(lk s X.env).or (lk s env)):N6 ⟨env,upd n b σ.objs⟩ ⟨a,upd n b σ'.objs⟩ X:=by
 refine⟨d,λm=>?_⟩;simp only[Gk];have c:lk n X.objs=none:=by
  cases h:lk n X.objs with
  | none=>rfl
  | some u=>rw[ha.new n u h]at hn;cases hn
 by_cases hm:m=n
 .subst hm;rw[BY rfl,BY rfl,hx.objs,c];rfl
 rw[At hm,At hm,hx.objs]
theorem N6.some_lk (hx:N6 σ σ' X) (ha:IH X σ ns) {n:Nat} (h:lk n σ.objs=some o):lk n σ'.objs=some o:=hx.obs ha n o h
theorem x7 {tb:Tb} {op:Op} {d:Option Nat} {vc:Prop} {τ:St} (hx:N6 σ σ' X) (ha:IH X σ ns) (H:n9 σ σ' op.operands.toList) (f:∀n∈gT σ op,n∈ns) (hd:∀t,d=some t->lk t X.env=none) (Q:∀n,(∃u,lk n τ.objs=some u)->lk n X.objs=none) (h:F7 tb σ d op=some (vc,τ)) :
  (∃ag,F7 tb σ' d op=some (vc,ag)/\N6 τ ag X)/\∀k,aq tb σ' k op=none:=by
 have O:=hx.obs ha;cases op<;>simp only[F7]at h<;>try(cases h;done)
 case store t x y =>
  refine⟨?_,λ_=>rfl⟩;simp only[F7];have f:∀n∈oD σ (Aq σ x) (Aq σ y),n∈ns:=f;rw[H x (by simp[Op.operands]),H y (by simp[Op.operands])];cases d with
  | some d=>simp[EZ]at h
  | none =>
   simp only[EZ]at h ⊢;generalize Aq σ x=ah at h f ⊢;generalize Aq σ y=ai at h f ⊢;unfold JS at h ⊢;split at h
   .rename_i ti n ap off v U;try simp only
    unfold Dl at h ⊢;split at h
    .rename_i et st fs hl;rw[hx.some_lk ha hl];try simp only
     unfold F5 at h ⊢;split at h
     .rename_i u av h1 C;try rw[h1,C]
      try simp only
      split at h
      .rename_i p;rw[BY p];cases h;exact⟨_,rfl,bW hx ha hl hx.env⟩
      cases h
     cases h
    cases h
   .rename_i ti n e i ap off v U;try simp only
    unfold Dm at h ⊢;split at h
    .rename_i et Z xs hl;rw[hx.some_lk ha hl];try simp only
     cases V:N2 false σ ti.ty v with
     | none=>rw[V]at h;unfold FG at h;split at h<;>first|(cases h;done)|(rename_i C;cases C)
     | some w =>
      rw[FJ O V];rw[V]at h;unfold FG at h ⊢;split at h
      .rename_i ys w' h1 C;cases C;try rw[h1]
       try simp only
       unfold G7 at h ⊢;split at h
       .rename_i z M;try rw[M]
        try simp only
        split at h
        .rename_i p;rw[BY p];cases h;exact⟨_,rfl,bW hx ha hl hx.env⟩
        cases h
       cases h
      cases h
    .rename_i et Y k B xs j hl;rw[hx.some_lk ha hl];try simp only
     split at h
     .rename_i m E hi;try simp only
      split at h
      .rename_i p;rw[BY p];unfold Oi at h ⊢;split at h
       .rename_i G;rw[BY G];unfold Og at h ⊢;split at h
        .rename_i ax aa ys hm;rw[hx.some_lk ha hm];try simp only
         split at h
         .rename_i al;rw[BY al];unfold Lv at h ⊢;split at h
          .rename_i af W;try rw[W]
           try simp only
           cases h;have ae:∀q,q∈[n,m]->q∈ns:=λq a=>f q (by simp only[oD,hl,C9,AAF];exact a);refine⟨_,rfl,tR (en:=[]) (new:=[(n,_)]) hx ha (ae n sc) (λq a=>ae q (by simp at a;simp[a])) (λs v h=>by cases h) (λq o a=>Q q ⟨o,?_⟩)⟩;simp only[lk]at a ⊢;split at a
           .rename_i B;cases a;rw[BY B]
           cases a
          cases h
         cases h
        cases h
       cases h
      cases h
     cases h
    cases h
   cases h
 case mapUpdate t m x y =>
  refine⟨?_,λ_=>rfl⟩;simp only[F7];rw[H m (by simp[Op.operands]),H x (by simp[Op.operands]),H y (by simp[Op.operands])];cases d with
  | some d=>simp[EZ]at h
  | none =>
   simp only[EZ]at h ⊢;generalize Aq σ m=ar at h ⊢;generalize Aq σ x=ah at h ⊢;generalize Aq σ y=ai at h ⊢;unfold Lx at h ⊢;split at h
   .try simp only
    unfold G2 at h ⊢;split at h
    .rename_i bb bd l hl;rw[hx.some_lk ha hl];try simp only
     split at h
     .rename_i p;rw[BY p];unfold Hj at h ⊢;split at h
      .rename_i az v1 h1 C;rw[FJ O h1,FJ O C];try simp only
       split at h
       .rename_i G;rw[BY G];cases h;exact⟨_,rfl,bW hx ha hl hx.env⟩
       cases h
      cases h
     cases h
    cases h
   cases h
 case call cl =>
  obtain⟨callee,⟨args⟩,⟨argTypes⟩⟩:=cl;cases callee with
  | value g=>simp[DW]at h
  | invoke r m=>simp[DW]at h
  | builtin b =>
   simp only[DW]at h;unfold D7 at h;split at h
   .rename_i x y t u;have L:Aq σ' x=Aq σ x:=H x (by simp[Op.operands,Call.operands]);have P:Aq σ' y=Aq σ y:=H y (by simp[Op.operands,Call.operands]);have f:∀n∈LY σ (Aq σ x) (Aq σ y),n∈ns:=λn hn=>f n (by simpa[gT] using hn);unfold DV at h;split at h
    .rename_i n e hi v A F;rw[A,F]at f;refine⟨?_,λk=>by simp[aq,DD,DZ,C2,L,A]⟩;simp only[F7,DW,D7,DV,L,A,P,F];split at h
     .rename_i c ;have I:=hd c rfl;have J:n∈ns:=f n A1l;try simp only
      split at h
      .rename_i K;rw[BY K];unfold FH at h ⊢;split at h
       .rename_i aa ao el b2 T;try rw[T]
        try simp only
        split at h
        .rename_i S;rw[BY S];unfold Ct at h ⊢;split at h
         .rename_i ti et Z xs h1 hl;try rw[h1]
          try rw[hx.some_lk ha hl]
          try simp only
          split at h
          .rename_i am;rw[BY am];unfold F6 at h ⊢;split at h
           .rename_i af ys C M;try rw[C]
            rw[ME O M];try simp only
            cases h;refine⟨_,rfl,⟨λs=>?_,λm=>?_⟩⟩
            .simp only[lk];by_cases hs:s=c
             .subst hs;rw[BY rfl,BY rfl,I];rfl
             rw[At hs,At hs,Jw,Jw,hx.env];cases D:lk s X.env with
             | none=>rfl
             | some w=>simp[WF J w (ha.env s w D)]
            simp only[Gk,Bm];have ak:lk n X.objs=none:=by
             cases D:lk n X.objs with
             | none=>rfl
             | some w=>exact absurd J (ha.nm n w D)
            by_cases hm:m=n
            .subst hm;rw[BY rfl,BY rfl,hx.objs,ak];rfl
            rw[At hm,At hm,hx.objs];cases D:lk m X.objs with
            | none=>rfl
            | some w=>exact AAv some (x6 (ha.arr m w D))
           cases h
          cases h
         .rename_i ti et Y k Z xs h1 hl;try rw[h1]
          try rw[hx.some_lk ha hl]
          try simp only
          split at h
          .rename_i p;rw[BY p];unfold Vd at h ⊢;split at h
           .rename_i m E an;try simp only
            unfold Oh at h ⊢;split at h
            .rename_i aj aw ba au ys hm;rw[hx.some_lk ha hm];try simp only
             split at h
             .rename_i G;rw[BY G];unfold Lw at h ⊢;split at h
              .rename_i af W;try rw[W]
               try simp only
               cases h;refine⟨_,rfl,tQ hx ha (λq a=>f q (by simp only[LY,hl,C9,AAF];exact a)) I ?_⟩;cases D:lk n X.objs with
               | none=>rfl
               | some w=>exact absurd J (ha.nm n w D)
              cases h
             cases h
            cases h
           cases h
          cases h
         cases h
        cases h
       cases h
      cases h
     cases h
    .rename_i n e i len v A F;rw[A,F]at f;refine⟨?_,λk=>by simp[aq,DD,DZ,C2,L,A]⟩;simp only[F7,DW,D7,DV,L,A,P,F];split at h
     .rename_i c ;have I:=hd c rfl;have J:n∈ns:=f n (by simp[LY]);try simp only
      split at h
      .rename_i K;rw[BY K];unfold Pm at h ⊢;split at h
       .rename_i aa ao el b2 T;try rw[T]
        try simp only
        split at h
        .rename_i S;rw[BY S];unfold TM at h ⊢;split at h
         .rename_i ti et Y k B xs h1 hl;try rw[h1]
          try rw[hx.some_lk ha hl]
          try simp only
          split at h
          .rename_i p;rw[BY p];unfold OC at h ⊢;split at h
           .rename_i ys M;rw[ME O M];try simp only
            split at h
            .rename_i ab;have N:lk c X.objs=none:=by
              refine Q c ?_;cases h;exact⟨_,by simp only[lk,AAF];rfl⟩
             have R:(lk c σ'.objs).isNone=true/\ys.isEmpty=false:=⟨by rw[hx.objs,N];exact ab.1,ab.2⟩;rw[BY R];cases h;refine⟨_,rfl,tR (en:=[(c,_)]) (new:=[(c,_),(n,_)]) hx ha J (λq a=>by cases a) (λs v h=>?_) (λq o a=>?_)⟩
             .simp only[lk]at h;split at h
              .rename_i B;rw[B];exact I
              cases h
             simp only[lk]at a;split at a
             .rename_i B;rw[B];exact N
             split at a
             .rename_i B;rw[B];cases D:lk n X.objs with
              | none=>rfl
              | some w=>exact absurd J (ha.nm n w D)
             cases a
            cases h
           cases h
          cases h
         cases h
        cases h
       cases h
      cases h
     cases h
    .rename_i v A F;rw[A,F]at f;split at h
     .rename_i c ;have I:=hd c rfl;split at h
      .rename_i K;unfold fG at h;split at h
       .rename_i m E an bc offs el b U;unfold TP at h;split at h
        .rename_i ti aj Y k e ys h1 hm;split at h
         .rename_i p;unfold TN at h;split at h
          .rename_i G;have N:lk c X.objs=none:=by
            refine Q c ?_;cases h;exact⟨_,by simp only[lk,AAF];rfl⟩
           have R:(lk c σ'.objs).isNone=true:=by rw[hx.objs,N];exact G.1
           have ad:=hx.some_lk ha hm;refine⟨?_,λay=>by simp[aq,DD,DZ,C2,L,A,P,F,K,FF,Rf,ad,C9];split<;>simp[F3]⟩;cases h;simp only[F7,DW,D7,DV,L,A,P,F,fG,TP,TN];rw[BY K,U];simp only;rw[ad,h1];simp only;rw[BY p,BY ⟨R,G.2⟩];exact⟨_,rfl,tQ hx ha (λq a=>f q (by simp only[LY,hm,C9,AAF];exact a)) I N⟩
          cases h
         cases h
        cases h
       cases h
      cases h
     cases h
    cases h
   cases h
end
end
section
open Go Go.RowKit
def A1m (o:Obj):Bool:=MO o
def Je (o:Oper):EN->Bool
 | []=>true
 | (d,_,_) :: r=>!Ad d (HP o.op)&&!Ad d o.dst.toList&&Je o r
def U5 (ns:List Nat) (σ:List (Nat×Obj)):List (Nat×Obj)->Bool
 | []=>true
 | (n,o) :: r=>(lk n σ).isNone&&!Ad n ns&&A1m o&&U5 ns σ r
def Gp (ns:List Nat) (σ:List (Nat×Obj)):EN->Bool
 | []=>true
 | (_,_,obs) :: r=>U5 ns σ obs&&Gp ns σ r
def bX (τ:List (Nat×Obj)):List (Nat×Obj)->Bool
 | []=>true
 | (n,_) :: r=>(lk n τ).isNone&&bX τ r
def OI (τ:List (Nat×Obj)):EN->Bool
 | []=>true
 | (_,_,obs) :: r=>bX τ obs&&OI τ r
def II (ns:List Nat):EN->EN
 | []=>[]
 | (d,v,obs) :: r=>(d,v.fgt ns,obs) :: II ns r
def tn (σ:St) (o:Op):List Nat:=CY σ o++gT (DB (CY σ o) σ) o
theorem Ej {o:Oper}:∀ {ens:EN},Je o ens=true->∀e∈ens,e.1∉HP o.op/\o.dst≠some e.1
 | [],_,e,a=>by cases a
 | (d,v,obs) :: r,h,e,a=>by
  simp only[Je,An,RQ]at h;rcases DO.1 a with rfl|a
  .grind [Al,Ad]
  exact Ej h.2 e a
theorem QK {ns:List Nat} {σ:List (Nat×Obj)}:∀ {l:List (Nat×Obj)},U5 ns σ l=true->∀p∈l,lk p.1 σ=none/\p.1∉ns/\A1m p.2=true
 | [],_,e,b=>by cases b
 | (n,o) :: r,h,p,a=>by
  simp only[U5,An,RQ,AAB]at h;rcases DO.1 a with rfl|a
  .grind [Al]
  exact QK h.2 p a
theorem Fl {ns:List Nat} {σ:List (Nat×Obj)}:∀ {ens:EN},Gp ns σ ens=true->∀e∈ens,∀p∈e.2.2,lk p.1 σ=none/\p.1∉ns/\A1m p.2=true
 | [],_,e,a=>by cases a
 | (d,v,obs) :: r,h,e,a=>by
  simp only[Gp,An]at h;rcases DO.1 a with rfl|a
  .exact QK h.1
  exact Fl h.2 e a
theorem Tn {τ:List (Nat×Obj)}:∀ {l:List (Nat×Obj)},bX τ l=true->∀p∈l,lk p.1 τ=none
 | [],_,e,b=>by cases b
 | (n,o) :: r,h,p,a=>by
  simp only[bX,An,AAB]at h;rcases DO.1 a with rfl|a
  .exact h.1
  exact Tn h.2 p a
theorem Ku {τ:List (Nat×Obj)}:∀ {ens:EN},OI τ ens=true->∀e∈ens,∀p∈e.2.2,lk p.1 τ=none
 | [],_,e,a=>by cases a
 | (d,v,obs) :: r,h,e,a=>by
  simp only[OI,An]at h;rcases DO.1 a with rfl|a
  .exact Tn h.1
  exact Ku h.2 e a
theorem O3 {ns:List Nat}:∀ {ens:EN},II ns ens=ens->∀e∈ens,e.2.1.fgt ns=e.2.1
 | [],_,e,a=>by cases a
 | (d,v,obs) :: r,h,e,a=>by
  simp only[II,ABw,ACn,and_true,true_and]at h;rcases DO.1 a with rfl|a
  .exact h.1
  exact O3 h.2 e a
section
variable {c:Cx} {o:Oper} {σ:St} {ens:EN} {N:St->Prop}
theorem gU {X:St} {ns:List Nat} (b:XIn ens X) (hn:Gp ns σ.objs ens=true) (hf:II ns ens=ens):IH X σ ns:=by
 refine⟨λs v hs=>?_,λn o a=>?_,λn o a=>?_,λn o a=>?_⟩
 .obtain⟨obs,hm⟩:=b.env s v hs;exact O3 hf _ hm
 all_goals
  obtain⟨e,c,d⟩:=b.objs n o a;have:=Fl hn e c _ d
 .exact this.2.2
 .exact this.1
 exact this.2.1
theorem ZE (Z:c.Ok) {τ:St} {vc:Prop} (ns:List Nat) (h:Ga c.tb o σ=some (vc,τ)) (S:tn σ o.op=ns) (J:Je o ens=true) (hn:Gp ns σ.objs ens=true) (P:OI τ.objs ens=true) (hf:II ns ens=ens) (hd:He c.nt o=true) (aa:vc) (Y:N τ):Ud c o σ ens N:=by
 subst S;intro X σ' hx i a w next Q hs hk
 have ha:=gU i hn hf;have D:∀t∈HP o.op,lk t X.env=none:=λt ht=>by
  cases f:lk t X.env with
  | none=>rfl
  | some v=>obtain⟨obs,hm⟩:=i.env t v f;exact absurd ht (Ej J _ hm).1
 have B:∀t,o.dst=some t->lk t X.env=none:=λt ht=>by
  cases f:lk t X.env with
  | none=>rfl
  | some v=>obtain⟨obs,hm⟩:=i.env t v f;exact absurd ht (Ej J _ hm).2
 have E:∀n,(∃u,lk n τ.objs=some u)->lk n X.objs=none:=λn hu=>by
  cases f:lk n X.objs with
  | none=>rfl
  | some v =>
   obtain⟨e,O,j⟩:=i.objs n v f;obtain⟨u,hu⟩:=hu;rw[Ku P e O _ j]at hu;cases hu
 have V:=gS hx ha (op:=o.op) (U4 hx D);obtain⟨b,q⟩:=WM (l:=CY σ o.op) hx ha (λm hm=>by simp[tn,hm]);have key:∃k,Ga c.tb o σ'=some (vc,k)/\N6 τ k X:=by
  have F:∀n∈gT (DB (CY σ o.op) σ) o.op,n∈tn σ o.op:=λm hm=>by simp[tn,hm]
  unfold Ga TQ at h ⊢;rw[V];generalize DB (CY σ o.op) σ=z at h b q F;generalize DB (CY σ o.op) σ'=A at b;have I:=U4 b D;cases y:aq c.tb z (o.dst.getD 0) o.op with
  | some r =>
   obtain⟨ab,v,obs⟩:=r;rw[y]at h;have U:=Uw (b.obs q) (λx hx v W=>by rw[I x hx];exact W) y;rw[U];simp only[Lz]at h ⊢;split at h
   .rename_i G;cases h;have H:∀n,lk n (z.add v obs o.dst).objs=(lk n obs).or (lk n z.objs):=λn=>by cases o.dst<;>simp only[St.add,A2]
    have T:∀n,lk n (A.add v obs o.dst).objs=(lk n obs).or (lk n A.objs):=λn=>by cases o.dst<;>simp only[St.add,A2]
    have C:∀n u,lk n obs=some u->lk n X.objs=none:=λn u hu=>E n ⟨u,by rw[H,hu];rfl⟩;have R:Bh obs A=true:=by
     simp only[Bh,Of,AAB]at G ⊢;intro p j;obtain⟨u,hu⟩:=NV j;rw[b.objs,C _ u hu,G p j];rfl
    rw[BY R];refine⟨_,rfl,λs=>?_,λn=>?_⟩
    .cases M:o.dst with
     | none=>simp only[St.add];exact b.env s
     | some d =>
      simp only[St.add,lk];by_cases g:s=d
      .rw[BY g,BY g,g,B d M];rfl
      rw[At g,At g];exact b.env s
    rw[H,T,b.objs];cases hu:lk n obs with
    | none=>rfl
    | some u=>rw[C n u hu];rfl
   cases h
  | none =>
   rw[y]at h;simp only[Lz]at h;obtain⟨⟨k,h1,K⟩,L⟩:=x7 b q I F B E h;rw[L];simp only[Lz];exact⟨k,h1,K⟩
 grind [P4,Ce]
theorem gV {σ σ':St}:∀ {xs:List Operand},n9 σ σ' xs->Jc σ' xs=Jc σ xs
 | [],_=>rfl
 | x :: r,h=>by
  simp only[Jc];rw[h x sc,gV (λy hy=>h y (by simp[hy]))]
theorem bZ {σ σ':St} (h:eX σ σ') {ren:List (Nat×B3)} {x y:AV} (hm:IE σ ren x y):IE σ' ren x y:=by
 cases y<;>first|exact hm|exact FJ h hm
theorem OJ {σ σ':St} (h:eX σ σ') {ren:List (Nat×B3)}:∀ {l r:List AV},BS σ ren l r->BS σ' ren l r
 | [],[],_=>trivial
 | [],_ :: _,hm=>hm.elim
 | _ :: _,[],hm=>hm.elim
 | _ :: _,_ :: _,hm=>⟨bZ h hm.1,OJ h hm.2⟩
theorem OK {l l':List (Nat×Obj)} (h:∀n o,lk n l=some o->lk n l'=some o) {ren:List (Nat×B3)}:∀ {r:List (Nat×Obj)},Ah l ren r->Ah l' ren r
 | [],_=>trivial
 | (m,o) :: r,hm=>by
  refine⟨?_,OK h hm.2⟩;have h1:=hm.1;cases hf:lk m ren with
  | none=>rw[hf]at h1;exact h1.elim
  | some f =>
   rw[hf]at h1;cases f with
   | nil=>exact h1
   | nm n =>
    simp only[HO]at h1 ⊢;cases hn:lk n l with
    | none=>rw[hn]at h1;simp only[JZ]at h1
    | some x=>rw[h n x hn,<-hn];exact h1
theorem A1n (m:Nat) {b τ:St} (g:Ud c o σ ens (λd=>d=τ)) (hn:Gp [m] τ.objs ens=true) (hf:II [m] ens=ens) (l:frz m τ=b) (i:N b):Ud c o σ ens N:=by
 intro X σ' hx e a w next Q hs hk
 refine g X σ' hx e a w next Q hs ?_
 rintro n rfl f w' d k j;refine hk b i f w' (frz m d) ?_ ?_
 .rw[<-l];exact(tP k (gU e hn hf) sc).1
 obtain⟨ρ,h⟩:=j;exact⟨ρ,s7 h m⟩
theorem x8 (ad:c.Ok) {dst:Option Nat} {g:Operand} {xs:List Operand} {ts:Array TypeId} {ty:TypeId} {pos:String} {after:Array Edge}
  {f:FuncId} {B:List Nat} (ag:Dc (Aq σ g)=some (f,B)) {as:List AV} (ab:Jc σ xs=some as)
  {A:List AV} {objs:List (Nat×Obj)} {post:AV->List (Nat×Obj)->Prop} (Y:BK c.P f A objs Q post)
  (ren:List (Nat×B3)) (hs:List Nat) (h1:CJ ren=true) (T:Ca objs ren=true) (aj:(c.ds.pin.all λp=>!Ad p.1 hs)=true)
  (G:Je ⟨dst,.call ⟨.value g,xs.toArray,ts⟩,ty,pos,after,none⟩ ens=true) (hn:Gp (Ao ren) σ.objs ens=true) (hf:II hs ens=ens) (hd:He c.nt ⟨dst,.call ⟨.value g,xs.toArray,ts⟩,ty,pos,after,none⟩=true)
  (W:BS σ ren (as++B.map λn=>AV.bp n [] 0) A) (Z:Ah σ.objs ren objs)
  (hk:∀res q,post res q->∃(m:List (Nat×B3)) (r:AV) (j:List (Nat×Obj)),CJ m=true/\Ca j m=true/\Ah q m j/\B2 m res r /\
   I7 ren m Q hs=true/\FY (Ao ren) j σ.objs=true/\OI j ens=true/\N (Cf σ (Ao ren) hs dst r j)) :
  Ud c ⟨dst,.call ⟨.value g,xs.toArray,ts⟩,ty,pos,after,none⟩ σ ens N:=by
 intro X σ' hx l a w next stay al ai
 have ae:∀s v,lk s X.env=some v->v.fgt hs=v:=λs v hs=>by
  obtain⟨obs,hm⟩:=l.env s v hs;exact O3 hf _ hm
 have E:eX σ σ':=by
  intro n o x;rw[hx.objs];cases b:lk n X.objs with
  | none=>exact x
  | some am =>
   obtain⟨e,k,i⟩:=l.objs n am b;rw[(Fl hn e k _ i).1]at x;cases x
 have ah:∀n o,lk n X.objs=some o->n∉Ao ren:=λn o z=>by
  obtain⟨e,k,i⟩:=l.objs n o z;exact(Fl hn e k _ i).2.1
 have aa:∀t∈(g :: xs).filterMap Ti,lk t X.env=none:=λt ht=>by
  cases b:lk t X.env with
  | none=>rfl
  | some v =>
   obtain⟨obs,hm⟩:=l.env t v b;refine absurd ?_ (Ej G _ hm).1;simpa[HP,Op.operands,Call.operands] using ht
 have an:∀t,dst=some t->lk t X.env=none:=λt ht=>by
  cases b:lk t X.env with
  | none=>rfl
  | some v=>obtain⟨obs,hm⟩:=l.env t v b;exact absurd ht (Ej G _ hm).2
 have F:=U4 hx aa;refine bU ad (xs:=xs) (ts:=ts) rfl rfl (by rw[F g sc];exact ag) (by rw[gV (λy hy=>F y (by simp[hy]))];exact ab) Y ren h1 T (OJ E W) (OK E Z) hs aj al (Ce hd) λres q i=>?_;obtain⟨m,r,j,J,K,L,M,O,C,R,S⟩:=hk res q i;have D:∀n o,lk n X.objs=some o->lk n j=none:=λn o z=>by
  obtain⟨e,k,i⟩:=l.objs n o z;exact Ku R e k _ i
 refine⟨m,r,j,J,K,L,M,O,?_,λI w' ak=>ai _ S I w' _ ⟨λs=>?_,λn=>?_⟩ ak⟩
 .simp only[FY,Of,TB,AAB]at C ⊢;intro p i;rcases C p i with h|h
  .exact .inl h
  right;rw[hx.objs,h];cases b:lk p.1 X.objs with
  | none=>rfl
  | some u =>
   obtain⟨ap,H⟩:=NV i;rw[D _ u b]at H;cases H
 .have af:lk s (Cc hs σ'.env)=(lk s X.env).or (lk s (Cc hs σ.env)):=by
   rw[Ez,Ez,hx.env];cases b:lk s X.env with
   | none=>rfl
   | some v=>simp[ae s v b]
  simp only[Cf];cases dst with
  | none=>exact af
  | some d =>
   simp only[ML,lk];by_cases ao:s=d
   .grind
   grind
 simp only[Cf,A2,CD,hx.objs];cases b:lk n X.objs with
 | none=>simp
 | some u =>
  have V:MO u=true:=by
   obtain⟨e,k,i⟩:=l.objs n u b;exact(Fl hn e k _ i).2.2
  have U:¬Ad n (Ao ren)=true:=λh=>ah n _ b ((Al _ _).1 h);rw[D n _ b,At U];exact AAv some (ZC V)
end
section
variable {c:Cx} {ops:List Oper} {Kf:St->Prop} {τ:St} {ens:EN} {vc:Prop}
theorem A1o {D:List Nat} (h:tL c.tb ops τ.objs D [] τ.env=some (vc,ens)) (b:vc) (a:Ub ens τ.objs=true) (hk:Kf (N5 ens τ)):Mix c ops Kf [] D ens τ:=⟨⟨vc,h,b,a⟩,hk⟩
theorem A1p {A D:List Nat} {l:Nat} {b:List (List Nat×Nat)} {o:Oper} {d:St} {a:EN} (h:tL c.tb ops τ.objs (A++qs b D) [] τ.env=some (vc,ens)) (j:vc) (g:Ub ens τ.objs=true) (i:ops[l]?=some o) (k:N5 (ens.take A.length) τ=d) (f:ens.drop A.length=a)
  (e:Ud c o d a (λm=>Mix c ops Kf b D a m)):Mix c ops Kf ((A,l) :: b) D ens τ:=by
 subst k f;exact⟨⟨vc,h,j,g⟩,o,i,e⟩
end
end
end Go.Proofs.YtcmadlghkcjcbaaGreat.Fw
