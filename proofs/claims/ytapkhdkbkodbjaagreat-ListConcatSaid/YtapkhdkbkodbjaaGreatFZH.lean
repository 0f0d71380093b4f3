/- Regions in which operations on memory float among quiet ones. -/
import Derived.Test.YtapkhdkbkodbjaaGreatFZG
set_option linter.unusedVariables false
set_option linter.unusedSimpArgs false
namespace Go.Proofs.YtapkhdkbkodbjaaGreat.Fw
section
open Go Go.RowKit
abbrev EN:=List (Nat×AV×List (Nat×Obj))
def mP (x:Option Oper) (f:Oper->Option (Prop×EN)):Option (Prop×EN) :=
 match x with
 | some o=>f o
 | none=>none
def fS (d:Option Nat) (r:BZ) (f:Nat->Prop->AV->List (Nat×Obj)->Option (Prop×EN)):Option (Prop×EN) :=
 match d,r with
 | some d,some (vc,v,obs)=>f d vc v obs
 | _,_=>none
def mQ (d:Nat) (vc:Prop) (v:AV) (obs:List (Nat×Obj)) (r:Option (Prop×EN)):Option (Prop×EN) :=
 match r with
 | some (a,l)=>some (vc/\a,(d,v,obs) :: l)
 | none=>none
def lM (tb:Tb) (ops:List Oper) (base:List (Nat×Obj)):List Nat->List (Nat×List (Nat×Obj))->List (Nat×AV)->Option (Prop×EN)
 | [],_,_=>some (True,[])
 | i :: Q,E,env=>mP (ops[i]?) λo=>fS o.dst (aq tb ⟨env,Nh false o.op base E⟩ (o.dst.getD 0) o.op) λd vc v obs=>mQ d vc v obs (lM tb ops base Q (LE d obs E) ((d,v) :: env))
def Ik:EN->St->St
 | [],σ=>σ
 | (d,v,obs) :: r,σ=>Ik r ⟨(d,v) :: σ.env,obs++σ.objs⟩
def P0:EN->List (Nat×Obj)->Bool
 | [],_=>true
 | (_,_,obs) :: r,objs=>(obs.all λp=>(lk p.1 objs).isNone)&&P0 r (obs++objs)
def A4z (tb:Tb) (ops:List Oper) (Q:List Nat) (ens:EN) (τ:St):Prop:=∃vc:Prop,lM tb ops τ.objs Q [] τ.env=some (vc,ens)/\vc/\P0 ens τ.objs=true
def qs (a:List (List Nat×Nat)) (D:List Nat):List Nat:=(a.flatMap (·.1))++D
def qB1 (ops:List Oper) (anc:List (List Nat)) (L Q:List Nat):List Nat->List Nat->Bool
 | [],_=>true
 | i :: r,pre=>(match ops[i]? with
   | some o=>o.dst.isSome&&o.guard.isNone&&((DF o).all λe=>AU e L||AU e pre)&&((Hc o.op).all λt=>Q.all λj=>Ak ops j != some t||(AU j (anc.getD i [])&&AU j pre))&&(pre.all λj=>Ak ops j != o.dst)&&!AU i L&&!AU i pre
   | none=>false)&&qB1 ops anc L Q r (i :: pre)
def RQ (ops:List Oper) (anc:List (List Nat)) (p0:Nat):List Nat->List (List Nat×Nat)->List Nat->Bool
 | L,[],D=>qB1 ops anc L D D []&&((List.range p0).all λi=>AU i L||AU i D)&&decide (L.length+D.length=p0)&&decide (p0<=ops.length)&&(L.all λi=>decide (i<p0))&&(D.all λi=>decide (i<p0))&&((List.range ops.length).all λi=>decide (i<p0)||(List.range i).all λj=>AU j (anc.getD i []))
 | L,(A,l) :: a,D=>qB1 ops anc L (A++qs a D) (A++qs a D) []&&(match ops[l]? with
   | some o=>o.guard.isNone&&((DF o).all λe=>AU e L||AU e A)&&(A.all λj=>AU j (anc.getD l []))&&!AU l L&&!AU l (A++qs a D)
   | none=>false)&&(a.all λp=>AU l (anc.getD p.2 []))&&RQ ops anc p0 (l :: (A++L)) a D
def A4A (ops:List Oper) (anc:List (List Nat)):Bool :=
 (List.range ops.length).all λi=>match ops[i]? with|some o=>((DF o).all λe=>decide (e<i))&&((anc.getD i []).all λj=>AU j (DF o)||(DF o).any λe=>AU j (anc.getD e []))|none=>false
structure Q2 (σ σ' X:St):Prop where
 env:∀s,lk s σ'.env=(lk s X.env).or (lk s σ.env)
 objs:∀n,lk n σ'.objs=(lk n X.objs).or (lk n σ.objs)
structure XIn (ens:EN) (X:St):Prop where
 env:∀s v,lk s X.env=some v->∃obs,(s,v,obs)∈ens
 objs:∀n o,lk n X.objs=some o->∃e∈ens,(n,o)∈e.2.2
def RR (c:Cx) (o:Oper) (σ:St) (ens:EN) (N:St->Prop):Prop :=
 ∀(X σ':St),Q2 σ σ' X->XIn ens X->∀(a:Act) (w:World) (next:Act->World->Prop) (Q:Exit->Act->World->Prop),c.sat σ' a w ->
  (∀τ,N τ->∀(b:Act) (w':World) (d:St),Q2 τ d X->c.sat d b w'->next b w')->o.wpIn (FR c.r) 0 c.P a w next Q
def zM (c:Cx) (ops:List Oper) (Kf:St->Prop):List (List Nat×Nat)->List Nat->EN->St->Prop
 | [],D,ens,τ=>A4z c.tb ops D ens τ/\Kf (Ik ens τ)
 | (A,l) :: a,D,ens,τ=>A4z c.tb ops (A++qs a D) ens τ/\∃o,ops[l]?=some o/\RR c o (Ik (ens.take A.length) τ) (ens.drop A.length) (λb=>zM c ops Kf a D (ens.drop A.length) b)
def JQ (Q:List Nat) (ens:EN) (i:Nat):En :=
 match lk i (Q.zip ens) with
 | some (_,v,obs)=>⟨true,v,obs⟩
 | none=>⟨true,.top,[]⟩
section
variable {ops:List Oper} {en:Nat->En} {τ:St}
theorem RS:∀(l:List Nat),(Am ops en τ l).env=(Am ops en ⟨[],[]⟩ l).env++τ.env
 | []=>rfl
 | i :: r=>by
  simp only[Am];cases Ak ops i with
  | none=>simp only[St.add];exact RS r
  | some d=>simp only[St.add,AAo];rw[RS r]
theorem mR (l:List Nat):(Am ops en τ l).objs=(Am ops en ⟨[],[]⟩ l).objs++τ.objs:=by
 rw[FU,FU];simp
theorem fT (l:List Nat):Q2 τ (Am ops en τ l) (Am ops en ⟨[],[]⟩ l) :=
 ⟨λs=>by rw[RS,A7],λn=>by rw[mR,A7]⟩
structure Own (ops:List Oper) (en:Nat->En) (τ:St) (Q:List Nat):Prop where
 slot:∀i∈Q,∀j∈Q,∀s,Ak ops i=some s->Ak ops j=some s->i=j
 new:∀i∈Q,∀n o,lk n (en i).obs=some o->lk n τ.objs=none
 name:∀i∈Q,∀j∈Q,∀n o o',lk n (en i).obs=some o->lk n (en j).obs=some o'->i=j
theorem rV {Q l:List Nat} (h:Own ops en τ Q) (hl:∀i∈l,i∈Q) (s:Nat) (v:AV):lk s (Am ops en τ l).env=some v↔(∃i∈l,Ak ops i=some s/\(en i).v=v)\/((∀i∈l,Ak ops i≠some s)/\lk s τ.env=some v):=by
 rw[FW];cases hf:l.find? (λj=>Ak ops j==some s) with
 | none =>
  have hn:∀i∈l,Ak ops i≠some s:=λi hi=>by simpa using ABU.1 hf i hi
  constructor
  .grind
  grind
 | some j =>
  have a:=ABo hf;have hd:Ak ops j=some s:=by simpa using AC9 hf
  constructor
  .grind
  rintro (⟨i,hi,b,rfl⟩|⟨hn,_⟩)
  .rw[h.slot i (hl i hi) j (hl j a) s b hd]
  exact absurd hd (hn j a)
theorem rW {Q l:List Nat} (h:Own ops en τ Q) (hl:∀i∈l,i∈Q) (n:Nat) (o:Obj):lk n (Am ops en τ l).objs=some o↔(∃i∈l,lk n (en i).obs=some o)\/((∀i∈l,lk n (en i).obs=none)/\lk n τ.objs=some o):=by
 rw[FU,A7];cases hf:lk n (l.flatMap λj=>(en j).obs) with
 | some d =>
  obtain⟨j,c,a⟩:=rH hf;simp only[ABX];constructor
  .grind
  rintro (⟨i,hi,b⟩|⟨hn,_⟩)
  .have:=h.name i (hl i hi) j (hl j c) n o d b a;subst this;rw[<-a,b]
  rw[hn j c]at a;cases a
 | none =>
  have hn:=Kg hf;simp only[Option.none_or];constructor
  .grind
  grind
theorem Yx {Q l A:List Nat} (h:Own ops en τ Q) (hl:∀i∈l,i∈Q) (f:∀i∈A,i∈l):Q2 (Am ops en τ A) (Am ops en τ l) (Am ops en ⟨[],[]⟩ (l.filter λi=>!AU i A)):=by
 have h0:Own ops en ⟨[],[]⟩ Q:=⟨h.slot,λ_ _ _ _ _=>rfl,h.name⟩;have hf:∀i∈l.filter (λi=>!AU i A),i∈Q:=λi hi=>hl i (AAe.1 hi).1;have g:∀i∈A,i∈Q:=λi hi=>hl i (f i hi);have e:∀i,i∈l.filter (λi=>!AU i A)↔i∈l/\i∉A:=λi=>by grind [Aa,AU]
 refine⟨λs=>ABx λv=>?_,λn=>ABx λo=>?_⟩
 .rw[rV h hl,Option.or_eq_some_iff,rV h0 hf,rV h g];constructor
  .rintro (⟨i,hi,hd,a⟩|⟨hn,a⟩)
   .by_cases b:i∈A
    .refine .inr ⟨?_,.inl ⟨i,b,hd,a⟩⟩;cases hx:lk s (Am ops en ⟨[],[]⟩ (l.filter λi=>!AU i A)).env with
     | none=>rfl
     | some u =>
      rcases (rV h0 hf s u).1 hx with ⟨j,c,d,_⟩|⟨_,hx⟩
      .have:=h.slot i (hl i hi) j (hf j c) s hd d;subst this;exact absurd b ((e i).1 c).2
      cases hx
    exact .inl (.inl ⟨i,(e i).2 ⟨hi,b⟩,hd,a⟩)
   refine .inr ⟨?_,.inr ⟨λi hi=>hn i (f i hi),a⟩⟩;cases hx:lk s (Am ops en ⟨[],[]⟩ (l.filter λi=>!AU i A)).env with
   | none=>rfl
   | some u =>
    rcases (rV h0 hf s u).1 hx with ⟨j,c,d,_⟩|⟨_,hx⟩
    .exact absurd d (hn j ((e j).1 c).1)
    cases hx
  rintro ((⟨i,hi,hd,a⟩|⟨_,a⟩)|⟨hx,⟨i,hi,hd,a⟩|⟨hn,a⟩⟩)
  .grind
  .cases a
  .grind
  refine .inr ⟨λi hi hd=>?_,a⟩;by_cases b:i∈A
  .exact hn i b hd
  have:=(rV h0 hf s (en i).v).2 (.inl ⟨i,(e i).2 ⟨hi,b⟩,hd,rfl⟩);rw[hx]at this;cases this
 rw[rW h hl,Option.or_eq_some_iff,rW h0 hf,rW h g];constructor
 .rintro (⟨i,hi,a⟩|⟨hn,a⟩)
  .by_cases b:i∈A
   .refine .inr ⟨?_,.inl ⟨i,b,a⟩⟩;cases hx:lk n (Am ops en ⟨[],[]⟩ (l.filter λi=>!AU i A)).objs with
    | none=>rfl
    | some u =>
     rcases (rW h0 hf n u).1 hx with ⟨j,c,d⟩|⟨_,hx⟩
     .have:=h.name i (hl i hi) j (hf j c) n _ _ a d;subst this;exact absurd b ((e i).1 c).2
     cases hx
   exact .inl (.inl ⟨i,(e i).2 ⟨hi,b⟩,a⟩)
  refine .inr ⟨?_,.inr ⟨λi hi=>hn i (f i hi),a⟩⟩;cases hx:lk n (Am ops en ⟨[],[]⟩ (l.filter λi=>!AU i A)).objs with
  | none=>rfl
  | some u =>
   rcases (rW h0 hf n u).1 hx with ⟨j,c,d⟩|⟨_,hx⟩
   .rw[hn j ((e j).1 c).1]at d;cases d
   cases hx
 rintro ((⟨i,hi,a⟩|⟨_,a⟩)|⟨hx,⟨i,hi,a⟩|⟨hn,a⟩⟩)
 .grind
 .cases a
 .grind
 refine .inr ⟨λi hi=>?_,a⟩;by_cases b:i∈A
 .exact hn i b
 cases hd:lk n (en i).obs with
 | none=>rfl
 | some u =>
  have:=(rW h0 hf n u).2 (.inl ⟨i,(e i).2 ⟨hi,b⟩,hd⟩);rw[hx]at this;cases this
end
def A0q (tb:Tb) (ops:List Oper) (τ:St) (en:Nat->En) (pre:List Nat) (i:Nat) (o:Oper):Prop :=
 ∃vc:Prop,aq tb ⟨(Am ops en τ pre).env,B8 false (Hc o.op) τ.objs (ES ops en pre)⟩ (o.dst.getD 0) o.op=some (vc,(en i).v,(en i).obs)/\vc
theorem fU {ts:List Nat} {base:List (Nat×Obj)} {d:Nat} {obs:List (Nat×Obj)} {E:List (Nat×List (Nat×Obj))}:B8 false ts base (LE d obs E)=B8 false ts base ((d,obs) :: E):=by
 cases obs with
 | nil=>simp only[LE,B8,AAl];split<;>rfl
 | cons x r=>rfl
theorem A0r {o:Op} {base:List (Nat×Obj)} {E:List (Nat×List (Nat×Obj))}:Nh false o base E=B8 false (Hc o) base E:=by
 cases E<;>rfl
theorem Yy {tb:Tb} {ops:List Oper} {τ:St} {en:Nat->En}:∀ {Q:List Nat} {ens:EN} {pre:List Nat} {E:List (Nat×List (Nat×Obj))} {vc:Prop},lM tb ops τ.objs Q E (Am ops en τ pre).env=some (vc,ens)->vc ->
  (∀ts,B8 false ts τ.objs E=B8 false ts τ.objs (ES ops en pre))->(∀(j i:Nat) (e:Nat×AV×List (Nat×Obj)),Q[j]?=some i->ens[j]?=some e->en i=⟨true,e.2.1,e.2.2⟩) ->
  ens.length=Q.length/\∀(j i:Nat),Q[j]?=some i->∃(o:Oper) (e:Nat×AV×List (Nat×Obj)),ops[i]?=some o/\ens[j]?=some e/\Ak ops i=some e.1/\A0q tb ops τ en ((Q.take j).reverse++pre) i o
 | [],ens,pre,E,vc,h,n,f,l=>by grind [lM]
 | i :: Q,ens,pre,E,vc,h,n,f,l=>by
  simp only[lM]at h;cases a:ops[i]? with
  | none=>rw[a]at h;simp[mP]at h
  | some o =>
   rw[a]at h;simp only[mP]at h;cases hd:o.dst with
   | none=>rw[hd]at h;simp[fS]at h
   | some d =>
    cases b:aq tb ⟨(Am ops en τ pre).env,Nh false o.op τ.objs E⟩ (o.dst.getD 0) o.op with
    | none=>rw[b,hd]at h;simp[fS]at h
    | some r =>
     obtain⟨x,v,obs⟩:=r;rw[b,hd]at h;simp only[fS]at h;cases m:lM tb ops τ.objs Q (LE d obs E) ((d,v) :: (Am ops en τ pre).env) with
     | none=>rw[m]at h;simp[mQ]at h
     | some p =>
      obtain⟨z,y⟩:=p;rw[m]at h;simp only[mQ]at h;cases h;have hi:=l 0 i (d,v,obs) rfl rfl;have g:Ak ops i=some d:=by simp[Ak,a,hd]
      have u:(Am ops en τ (i :: pre)).env=(d,v) :: (Am ops en τ pre).env:=by simp[Am,g,St.add,hi]
      have q:=Yy (pre:=i :: pre) (by rw[u];exact m) n.2 (λts=>by
       rw[fU];simp only[ES,Sj,g,ABF,hi,B8];rw[f ts];rfl) (λj k e h1 c=>l (j+1) k e (by simpa using h1) (by simpa using c))
      refine⟨by simp[q.1],λj k hk=>?_⟩;cases j with
      | zero =>
       simp only[ABc,AAf]at hk;subst hk;refine⟨o,(d,v,obs),a,rfl,g,x,?_,n.1⟩;rw[A0r,f]at b;simp only[AAg,List.reverse_nil,AAl];rw[hi];exact b
      | succ j =>
       obtain⟨w,e,h1,c,s,t⟩:=q.2 j k (by simpa using hk);refine⟨w,e,h1,by simpa using c,s,?_⟩;simpa[AAk] using t
theorem RT:∀ {ens:EN} {objs:List (Nat×Obj)},P0 ens objs=true->∀(j:Nat) (e:Nat×AV×List (Nat×Obj)),ens[j]?=some e->∀n o,lk n e.2.2=some o->lk n objs=none/\∀(b:Nat) (a:Nat×AV×List (Nat×Obj)) (c:Obj),ens[b]?=some a->lk n a.2.2=some c->j=b
 | [],objs,_,j,e,h=>by simp at h
 | (d,v,obs) :: r,objs,h,j,e,f=>by
  simp only[P0,An,NO,AA3]at h;have h0:∀n o,lk n obs=some o->lk n objs=none:=λn o hn=>h.1 _ (FK hn);have g:=RT h.2;grind [lk,A7]
end
section
open Go Go.RowKit
structure P6 (ops:Array Oper) (anc:List (List Nat)):Prop where
 lt:∀i o,ops[i]?=some o->∀e∈DF o,e<i
 cl:∀i o,ops[i]?=some o->∀j∈anc.getD i [],j∈DF o\/∃e∈DF o,j∈anc.getD e []
theorem A6f {ops:Array Oper} {anc:List (List Nat)} (h:A4A ops.toList anc=true):P6 ops anc:=by
 simp only[A4A,NO,UJ]at h;have hi:∀i o,ops[i]?=some o->((DF o).all λe=>decide (e<i))=true/\((anc.getD i []).all λj=>AU j (DF o)||(DF o).any λe=>AU j (anc.getD e []))=true:=by grind
 refine⟨λi o a e b=>?_,λi o a j c=>?_⟩
 .grind
 grind [Aa]
section
variable {ops:Array Oper} {k:Nat} {anc:List (List Nat)} {Q:Exit->Act->World->Prop}
theorem Lz (a:P6 ops anc) {listed:Array Bool} (f:∀i o,ops[i]?=some o->listed.getD i true=true->∀e∈DF o,listed.getD e false=true) :
  ∀i o,ops[i]?=some o->(∀e∈DF o,listed.getD e false=true)->∀j∈anc.getD i [],listed.getD j false=true:=by
 intro i;induction i using Nat.strongRecOn with
 | _ i k =>
  intro o b hd j d;rcases a.cl i o b j d with h1|⟨e,c,g⟩
  .exact hd j h1
  have h:=a.lt i o b e c;grind
theorem M3 {F:Fence} {P:Program} (f:P6 ops anc) (m:∀i o,ops[i]?=some o->k<=i->∀j,j<i->j∈anc.getD i []):∀ {rest:List Oper} {p:Nat} {listed:Array Bool} {a:Act} {w:World},ops.toList.drop p=rest->k<=p->p<=ops.size->listed.size=ops.size ->
  (∀i,i<ops.size->(listed.getD i true=true↔i<p))->wpListIn F 0 P ops Q rest a w->wpAnyIn F 0 P .any ops Q rest.length listed a w
 | [],p,listed,a,w,hd,A,B,h,hl,c=>by
  have L:p=ops.size:=by
   have:=oN List.length hd;simp at this;omega
  refine⟨?_,c⟩;apply ABD.2;grind [CS]
 | o :: r,p,listed,a,w,hd,A,B,h,hl,c=>by
  obtain⟨d,t⟩:=Yt hd;have d:ops[p]?=some o:=by simpa using d
  have C:p<ops.size:=(Sg.1 d).1;have u:∀e b,e<ops.size->listed.getD e b=listed.getD e true:=λe b g=>by grind
  have J:∀i o,ops[i]?=some o->listed.getD i true=true->∀e∈DF o,listed.getD e false=true:=by
   intro i o s h1 e g;have E:i<ops.size:=(Sg.1 s).1;have H:=(hl i E).1 h1;have I:=f.lt i o s e g;grind
  have D:∀i,i∈Region.ready .any ops listed->i=p:=by grind [CS,Lz]
  refine⟨λK=>?_,λi hi=>?_⟩
  .exfalso;have:p∈Region.ready .any ops listed:=by
    rw[CS];refine⟨?_,o,d,λe g=>?_⟩
    .cases hh:listed.getD p true with
     | false=>rfl
     | true=>have:=(hl p C).1 hh;omega
    have:=f.lt p o d e g;rw[u e false oa];exact(hl e oa).2 this
   grind
  have x:=D i hi;subst x;have q:∀(j:Nat),j<ops.size->((listed.setIfInBounds i true).getD j true=true↔j<i+1):=by
   intro j y;have z:j<listed.size:=by omega
   by_cases n:j=i
   .subst n;simp[Array.getD,z]
   have h1:(listed.setIfInBounds i true).getD j true=listed.getD j true:=getD_set_ne true (λe=>n e.symm);rw[h1,hl j y];omega
  unfold wpOpIn;rw[d];simp only;unfold wpListIn at c;split
  .rename_i l;rw[DO l]at c;exact Oper.wpIn_mono (λG w' v=>M3 f m t.symm oa oa (by simpa using h) q v) c
  rename_i l;rw[BY l]at c;exact⟨c.1,M3 f m t.symm oa oa (by simpa using h) q c.2⟩
end
structure QOk (ops:List Oper) (anc:List (List Nat)) (L Q:List Nat):Prop where
 nodup:Q.Nodup
 pos:∀(j i:Nat),Q[j]?=some i->i∉L/\∃o,ops[i]?=some o/\o.guard=none/\(∀e∈DF o,e∈L\/e∈Q.take j)/\(∀t∈Hc o.op,∀k∈Q,Ak ops k=some t->k∈anc.getD i []/\k∈Q.take j)
 slot:∀i∈Q,∀j∈Q,∀s,Ak ops i=some s->Ak ops j=some s->i=j
theorem fV {ops:List Oper} {anc:List (List Nat)} {L Q:List Nat}:∀ {r pre:List Nat},qB1 ops anc L Q r pre=true ->
  (∀(j i:Nat),r[j]?=some i->i∉L/\i∉pre/\i∉r.take j/\∃o,ops[i]?=some o/\o.guard=none/\(∀e∈DF o,e∈L\/e∈pre\/e∈r.take j)/\(∀t∈Hc o.op,∀k∈Q,Ak ops k=some t->k∈anc.getD i []/\(k∈pre\/k∈r.take j)) /\
   ∀k,k∈pre\/k∈r.take j->Ak ops k≠Ak ops i)
 | [],pre,h,j,i,a=>by simp at a
 | x :: r,pre,h,j,i,a=>by
  simp only[qB1,An]at h;obtain⟨h1,s⟩:=h;cases j with
  | zero =>
   simp only[ABc,AAf]at a;subst a;cases f:ops[x]? with
   | none=>rw[f]at h1;cases h1
   | some o =>
    rw[f]at h1;simp only[An,NO,UO,Aa,ABw,Sa,AA3]at h1;obtain⟨⟨⟨⟨⟨⟨y,q⟩,z⟩,A⟩,B⟩,c⟩,d⟩:=h1;refine⟨λh=>(by rw[(Aa _ _).2 h]at c;cases c),λh=>(by rw[(Aa _ _).2 h]at d;cases d),by simp,o,rfl,q,λe u=>?_,λt ht k hk hd=>?_,λk hk=>?_⟩
    .grind
    .grind
    grind [Ak]
  | succ j =>
   obtain⟨g,b,l,o,m,n,v,w,p⟩:=fV s j i (by simpa using a);simp only[At,not_or]at b;refine⟨g,b.2,by simp[AAk,b.1,l],o,m,n,λe u=>?_,λt ht k hk hd=>?_,λk hk=>p k ?_⟩
   .grind
   .grind
   grind
theorem fW {α:Type} {l:List α} {i j:Nat} {x:α} (h:l[i]?=some x) (a:i<j):x∈l.take j:=by
 rw[Sn];exact⟨i,by rw[UP,DO a];exact h⟩
theorem qOk {ops:List Oper} {anc:List (List Nat)} {L Q:List Nat} (h:qB1 ops anc L Q Q []=true):QOk ops anc L Q:=by
 have hs:=fV h;have m:∀ {i j x y:Nat},Q[i]?=some x->Q[j]?=some y->i<j->x≠y/\Ak ops x≠Ak ops y:=by grind [fW]
 refine⟨?_,λj i c=>?_,λi hi j c s h1 q=>?_⟩
 .rw[List.nodup_iff_pairwise_ne,Sl];intro i j hi c l e;exact(m (AT hi) (AT c) l).1 e
 .obtain⟨d,_,_,o,f,g,n,p,_⟩:=hs j i c;refine⟨d,o,f,g,λe r=>?_,λt ht k hk hd=>?_⟩
  .grind
  grind
 obtain⟨a,ha⟩:=Sn.1 hi;obtain⟨b,hb⟩:=Sn.1 c;grind
theorem bG:∀ {Q:List Nat} {ens:EN},Q.Nodup->∀(j i:Nat) (e:Nat×AV×List (Nat×Obj)),Q[j]?=some i->ens[j]?=some e->JQ Q ens i=⟨true,e.2.1,e.2.2⟩
 | [],ens,_,j,i,e,h,_=>by simp at h
 | x :: Q,[],_,j,i,e,_,h=>by simp at h
 | x :: Q,f :: ens,hn,j,i,e,h1,a=>by
  cases j with
  | zero =>
   simp only[ABc,AAf]at h1 a;subst h1;subst a;simp[JQ,ABP,lk]
  | succ j =>
   have h1:Q[j]?=some i:=by simpa using h1
   have hx:i≠x:=λe=>by grind
   have:=bG (UN.1 hn).2 j i e h1 (by simpa using a);simp only[JQ,ABP,lk,BY hx]at this ⊢;exact this
structure Fr (tb:Tb) (ops:List Oper) (anc:List (List Nat)) (L Q:List Nat) (ens:EN) (τ:St):Prop where
 q:QOk ops anc L Q
 len:ens.length=Q.length
 own:Own ops (JQ Q ens) τ Q
 at_:∀(j i:Nat),Q[j]?=some i->∃(o:Oper) (e:Nat×AV×List (Nat×Obj)),ops[i]?=some o/\ens[j]?=some e/\Ak ops i=some e.1/\JQ Q ens i=⟨true,e.2.1,e.2.2⟩/\A0q tb ops τ (JQ Q ens) (Q.take j).reverse i o
theorem Yz {tb:Tb} {ops:List Oper} {anc:List (List Nat)} {L Q:List Nat} {ens:EN} {τ:St} (d:QOk ops anc L Q) (h:A4z tb ops Q ens τ):Fr tb ops anc L Q ens τ:=by
 obtain⟨vc,h1,m,p⟩:=h;have s:=λ(j i:Nat) (e:Nat×AV×List (Nat×Obj))=>bG (ens:=ens) d.nodup j i e;obtain⟨hl,hf⟩:=Yy (en:=JQ Q ens) (pre:=[]) h1 m (λts=>rfl) s;have k:∀i∈Q,∃(j:Nat) (e:Nat×AV×List (Nat×Obj)),Q[j]?=some i/\ens[j]?=some e/\JQ Q ens i=⟨true,e.2.1,e.2.2⟩:=by
  intro i hi;obtain⟨j,c⟩:=Sn.1 hi;grind
 refine⟨d,hl,⟨d.slot,λi hi n o hn=>?_,λi hi j c n o v f g=>?_⟩,λj i c=>?_⟩
 .grind [RT]
 .obtain⟨a,e,ha,q,t⟩:=k i hi;obtain⟨b,l,hb,r,u⟩:=k j c;rw[t]at f;rw[u]at g;have:=(RT p a e q n o f).2 b l v r g;subst this;rw[ha]at hb;injection hb
 grind
theorem wI {ops:List Oper} {en:Nat->En} {τ:St} {Q:List Nat} (h:Own ops en τ Q) {ts pre ex:List Nat} (k:∀j∈pre,j∈Q) (e:∀j∈ex,j∈Q) (d:∀j∈pre,AU ((Ak ops j).getD 0) ts=true->j∈ex) {n:Nat} {o:Obj} :
  lk n (B8 false ts τ.objs (ES ops en pre))=some o->lk n (Am ops en τ ex).objs=some o:=by
 rw[rW h e];induction pre with
 | nil =>
  simp only[ES,ABj,B8];intro hn;refine .inr ⟨λj b=>?_,hn⟩;cases a:lk n (en j).obs with
  | none=>rfl
  | some f=>have:=h.new j (e j b) n f a;rw[this]at hn;cases hn
 | cons i r c =>
  simp only[ES,Sj,B8];have c:=c (λj b=>k j (by simp[b])) (λj b=>d j (by simp[b]));split
  .rename_i g;intro hn;rw[A7]at hn;cases a:lk n (en i).obs with
   | some f =>
    rw[a]at hn;simp only[ABX]at hn;cases hn;exact .inl ⟨i,d i sc (by simpa using g),a⟩
   | none =>
    rw[a]at hn;exact c (by simpa[ES] using hn)
  exact c
theorem M4 {p:Nat×Obj}:∀ {l:List (Nat×Obj)},p∈l->∃b,lk p.1 l=some b
 | (c,d) :: r,h=>by
  simp only[lk];by_cases a:p.1=c
  .simp_all
  rw[BY a];rcases At.1 h with rfl|h
  .exact absurd rfl a
  exact M4 h
theorem Vy {c:Cx} (y:c.Ok) {ops:List Oper} {anc:List (List Nat)} {L Q:List Nat} {ens:EN} {τ:St} (hF:Fr c.tb ops anc L Q ens τ) {ex:List Nat} (h:∀i∈ex,i∈Q) {j i:Nat} {o:Oper} (m:Q[j]?=some i) (s:ops[i]?=some o) (ag:i∉ex)
  (Z:∀k∈anc.getD i [],k∈Q->k∈ex) (I:∀d,o.dst=some d->d<c.nt) {a:Act} {w:World} {next:Act->World->Prop} {Qe:Exit->Act->World->Prop} (hs:c.sat (Am ops (JQ Q ens) τ ex) a w)
  (hn:∀A w',c.sat (Am ops (JQ Q ens) τ (i :: ex)) A w'->next A w'):o.wpIn (FR c.r) 0 c.P a w next Qe:=by
 obtain⟨l,e,D,ab,hd,aj,vc,T,W⟩:=hF.at_ j i m;rw[s]at D;cases D;obtain⟨_,ak,E,_,_,ai⟩:=hF.q.pos j i m;rw[s]at E;cases E;have z:∀k∈(Q.take j).reverse,k∈Q:=λk hk=>iS (by simpa using hk);have R:Ops ⟨(Am ops (JQ Q ens) τ (Q.take j).reverse).env,B8 false (Hc o.op) τ.objs (ES ops (JQ Q ens) (Q.take j).reverse)⟩ (Am ops (JQ Q ens) τ ex) o.op.operands.toList:=by
  intro x hx v b;cases x with
  | tmp t =>
   simp only[Aq]at b ⊢;have ht:t∈Hc o.op:=ABS.2 ⟨_,hx,rfl⟩;rw[rV hF.own z]at b;rw[rV hF.own h];rcases b with ⟨k,hk,ad,ae⟩|⟨ah,b⟩
   .grind
   grind
  | const al=>exact b
  | global g=>exact b
  | func f=>exact b
 have N:dZ ⟨(Am ops (JQ Q ens) τ (Q.take j).reverse).env,B8 false (Hc o.op) τ.objs (ES ops (JQ Q ens) (Q.take j).reverse)⟩ (Am ops (JQ Q ens) τ ex):=by
  intro n l hn;refine wI hF.own z h (λk hk af=>?_) hn;obtain⟨X,J⟩:=Sn.1 (z k hk);obtain⟨_,Y,_,_,aa,_⟩:=hF.at_ X k J;grind [Aa]
 have U:=Ub N R T;have C:=UR m;have B:Bg (JQ Q ens i).obs (Am ops (JQ Q ens) τ ex)=true:=by
  simp only[Bg,NO,AA3];intro p S;obtain⟨l,F⟩:=M4 S;cases hl:lk p.1 (Am ops (JQ Q ens) τ ex).objs with
  | none=>rfl
  | some u =>
   rcases (rW hF.own h p.1 u).1 hl with ⟨k,hk,M⟩|⟨_,hu⟩
   .have:=hF.own.name i C k (h k hk) p.1 l u F M;grind
   rw[hF.own.new i C p.1 l F]at hu;cases hu
 obtain⟨ρ,G⟩:=hs;refine qW (A4o y G) U W B λu ρ' w' V=>hn _ _ ?_;have H:Ak ops i=o.dst:=by simp[Ak,s]
 simp only[Am,H];exact⟨ρ',G.add y.K y.O I B V⟩
end
section
open Go Go.RowKit
theorem Fx:∀ {l l':List Nat},l.Nodup->(∀x∈l,x∈l')->l.length<=l'.length
 | [],_,_,_=>by simp
 | x :: l,l',hn,h=>by
  have hx:=h x sc;have:=Fx (l:=l) (l':=l'.erase x) (UN.1 hn).2 (λy hy=>by
   have:y≠x:=λe=>(UN.1 hn).1 (e▸hy);exact(ABH this).2 (h y (by simp[hy])))
  grind
theorem Ix (A:List Nat) (l:Nat) (a:List (List Nat×Nat)) (D:List Nat):qs ((A,l) :: a) D=A++qs a D:=by simp[qs]
structure A8y (ops:List Oper) (anc:List (List Nat)) (p0:Nat) (L:List Nat) (ps:List (List Nat×Nat)) (D:List Nat):Prop where
 all:∀i,i<p0->i∈L\/i∈qs ps D\/i∈ps.map (·.2)
 back:∀i,p0<=i->i<ops.length->∀j,j<i->j∈anc.getD i []
 L:∀i∈L,i<p0
 Q:∀i∈qs ps D,i<p0
 lo:∀p∈ps,p.2<p0
 p0:p0<=ops.length
theorem QA {ops:List Oper} {anc:List (List Nat)} {p0:Nat} {L D:List Nat} (h:RQ ops anc p0 L [] D=true):QOk ops anc L D/\(∀i,i<p0->i∈L\/i∈D)/\L.length+D.length=p0/\p0<=ops.length/\(∀i∈L,i<p0)/\(∀i∈D,i<p0)/\(∀i,p0<=i->i<ops.length->∀j,j<i->j∈anc.getD i []):=by
 simp only[RQ,An,NO,UJ,UO,Is,Aa]at h;grind [qOk]
theorem Jp {ops:List Oper} {anc:List (List Nat)} {p0:Nat} {L D A:List Nat} {l:Nat} {b:List (List Nat×Nat)} (h:RQ ops anc p0 L ((A,l) :: b) D=true):QOk ops anc L (A++qs b D)/\(∃o,ops[l]?=some o/\o.guard=none/\(∀e∈DF o,e∈L\/e∈A))/\(∀j∈A,j∈anc.getD l [])/\l∉L/\l∉A++qs b D/\(∀p∈b,l∈anc.getD p.2 [])/\RQ ops anc p0 (l :: (A++L)) b D=true:=by
 simp only[RQ,An,NO,Aa]at h;obtain⟨⟨⟨h1,a⟩,m⟩,n⟩:=h;cases f:ops[l]? with
 | none=>rw[f]at a;cases a
 | some o =>
  rw[f]at a;simp only[An,NO,UO,Aa,Sa,AA3]at a;obtain⟨⟨⟨⟨g,i⟩,k⟩,c⟩,d⟩:=a;exact⟨qOk h1,⟨o,rfl,g,i⟩,k,λh=>(by rw[(Aa _ _).2 h]at c;cases c),λh=>(by rw[(Aa _ _).2 h]at d;cases d),m,n⟩
theorem Vz {ops:List Oper} {anc:List (List Nat)} {p0:Nat}:∀ {c:List (List Nat×Nat)} {L D:List Nat},RQ ops anc p0 L c D=true->A8y ops anc p0 L c D
 | [],L,D,h=>by
  obtain⟨_,h1,j,d,e,f,g⟩:=QA h;refine⟨λi hi=>?_,g,e,by simpa[qs] using f,by simp,d⟩;grind [qs]
 | (A,l) :: c,L,D,h=>by
  obtain⟨_,_,_,_,_,_,h1⟩:=Jp h;have a:=Vz h1;refine⟨λi hi=>?_,a.back,λi hi=>a.L i (by simp[hi]),λi hi=>?_,λp b=>?_,a.p0⟩
  .rcases a.all i hi with h|h|h
   .grind [Ix]
   .grind [Ix]
   grind
  .rw[Ix,Do]at hi;rcases hi with hi|hi
   .exact a.L i (by simp[hi])
   exact a.Q i hi
  rcases At.1 b with rfl|b
  .exact a.L l sc
  exact a.lo p b
theorem QB {ops:List Oper} {en:Nat->En} {τ:St}:∀ {Q:List Nat} {ens:EN} {pre:List Nat},ens.length=Q.length->(∀(j i:Nat) (e:Nat×AV×List (Nat×Obj)),Q[j]?=some i->ens[j]?=some e->Ak ops i=some e.1/\en i=⟨true,e.2.1,e.2.2⟩) ->
  Ik ens (Am ops en τ pre)=Am ops en τ (Q.reverse++pre)
 | [],[],pre,_,_=>rfl
 | [],_ :: _,_,h,_=>by simp at h
 | _ :: _,[],_,h,_=>by simp at h
 | i :: Q,(d,v,obs) :: ens,pre,hl,h=>by
  obtain⟨h1,a⟩:=h 0 i (d,v,obs) rfl rfl;have:(⟨(d,v) :: (Am ops en τ pre).env,obs++(Am ops en τ pre).objs⟩:St)=Am ops en τ (i :: pre):=by simp[Am,h1,a,St.add]
  simp only[Ik];rw[this,QB (by simpa using hl) (λj k e b c=>h (j+1) k e (by simpa using b) (by simpa using c))];simp
section
variable {c:Cx} {ops:Array Oper} {anc:List (List Nat)} {p0:Nat} {Kf:St->Prop} {Qe:Exit->Act->World->Prop}
theorem A0s {a:List (List Nat×Nat)} {L D:List Nat} {ens:EN} {τ:St} (b:RQ ops.toList anc p0 L a D=true) (d:zM c ops.toList Kf a D ens τ):Fr c.tb ops.toList anc L (qs a D) ens τ:=by
 cases a with
 | nil =>
  have:qs [] D=D:=rfl;rw[this];exact Yz (QA b).1 d.1
 | cons p a =>
  obtain⟨A,l⟩:=p;rw[Ix];exact Yz (Jp b).1 d.1
theorem Y0 (x:P6 ops anc) {a:List (List Nat×Nat)} {L D:List Nat} {ex:List Nat} {listed:Array Bool} (w:RQ ops.toList anc p0 L a D=true) (v:QOk ops.toList anc L (qs a D)) (u:∀i∈ex,i∈qs a D) (G:listed.size=ops.size)
  (hl:∀i,i<ops.size->(listed.getD i true=true↔i∈L\/i∈ex)) (hf:¬(a=[]/\∀i∈qs a D,i∈ex)):∃i,i∈Region.ready .any ops listed:=by
 have B:∀e b,e<ops.size->listed.getD e b=listed.getD e true:=λe b c=>by grind
 have mk:∀i o,ops[i]?=some o->i∉L->i∉ex->(∀e∈DF o,e∈L\/e∈ex)->i∈Region.ready .any ops listed:=by
  intro i o f h1 k C;have H:i<ops.size:=(Sg.1 f).1;rw[CS];refine⟨?_,o,f,λe c=>?_⟩
  .grind
  have E:=x.lt i o f e c;grind
 by_cases t:∀i∈qs a D,i∈ex
 .cases a with
  | nil=>exact absurd ⟨rfl,t⟩ hf
  | cons p a =>
   obtain⟨A,l⟩:=p;rw[Ix]at t u;obtain⟨_,⟨o,f,_,hd⟩,_,h1,k,_,_⟩:=Jp w;refine⟨l,mk l o (by simpa using f) h1 (λh=>k (u l h)) λe c=>?_⟩;rcases hd e c with h|h
   .exact .inl h
   grind
 have key:∀(n j:Nat),j<=n->(∃i,(qs a D)[j]?=some i/\i∉ex)->∃i,i∈Region.ready .any ops listed:=by
  intro n;induction n with
  | zero =>
   rintro j s ⟨i,hi,d⟩;have:j=0:=by omega
   subst this;obtain⟨m,o,q,_,r,_⟩:=v.pos 0 i hi;refine⟨i,mk i o (by simpa using q) m d λe c=>?_⟩;rcases r e c with h|h
   .exact .inl h
   simp at h
  | succ n z =>
   rintro j s ⟨i,hi,d⟩;by_cases y:∃g,g<j/\∃i',(qs a D)[g]?=some i'/\i'∉ex
   .obtain⟨g,h1,k⟩:=y;exact z g oa k
   obtain⟨m,o,q,_,r,_⟩:=v.pos j i hi;refine⟨i,mk i o (by simpa using q) m d λe c=>?_⟩;rcases r e c with h|h
   .exact .inl h
   right;obtain⟨g,F⟩:=Sn.1 h;grind
 have:∃i,i∈qs a D/\i∉ex:=by grind
 obtain⟨i,hi,d⟩:=this;obtain⟨j,s⟩:=Sn.1 hi;exact key j j (No _) ⟨i,s,d⟩
theorem Y2 (G:P6 ops anc) (hT:∀τ,Kf τ->∀a w,c.sat τ a w->wpListIn (FR c.r) 0 c.P ops Qe (ops.toList.drop p0) a w) {m:Nat} {L D:List Nat} {ens:EN} {τ:St} {ex:List Nat} {listed:Array Bool} {a:Act} {w:World}
  (C:RQ ops.toList anc p0 L [] D=true) (g:zM c ops.toList Kf [] D ens τ) (K:(L++ex).Nodup) (b:∀i∈ex,i∈D) (V:m+L.length+ex.length=ops.size) (I:listed.size=ops.size) (hl:∀i,i<ops.size->(listed.getD i true=true↔i∈L\/i∈ex))
  (hs:c.sat (Am ops.toList (JQ D ens) τ ex) a w) (d:∀i∈D,i∈ex):wpAnyIn (FR c.r) 0 c.P .any ops Qe m listed a w:=by
 obtain⟨q,h1,R,y,S,T,z⟩:=QA C;have hF:=Yz q g.1;have U:ex.length=D.length:=AAy (Fx (iN.1 K).2.1 b) (Fx q.nodup d);have J:m=(ops.toList.drop p0).length:=by grind
 have E:Ik ens τ=Am ops.toList (JQ D ens) τ D.reverse:=by
  have:=QB (ops:=ops.toList) (en:=JQ D ens) (τ:=τ) (pre:=[]) hF.len (λj i e A B=>by
   obtain⟨o,O,_,f,u,x,_⟩:=hF.at_ j i A;rw[B]at f;cases f;exact⟨u,x⟩)
  simpa[Am] using this
 have N:c.sat (Ik ens τ) a w:=by
  rw[E];have t:∀i∈D.reverse,i∈D:=λi hi=>by simpa using hi
  have l:∀i,i∈ex↔i∈D.reverse:=λi=>⟨λh=>by simpa using b i h,λh=>d i (by simpa using h)⟩;refine OU (λs=>ABx λv=>?_) (λn=>ABx λo=>?_) hs
  .rw[rV hF.own t,rV hF.own b];simp only[l]
  rw[rW hF.own t,rW hF.own b];simp only[l]
 have:=M3 (Q:=Qe) (F:=FR c.r) (P:=c.P) G (k:=p0) (λi o M hi j H=>z i hi (by have:=(Sg.1 M).1;simpa using this) j H) (rest:=ops.toList.drop p0) (p:=p0) (listed:=listed) (a:=a) (w:=w) rfl (No _) (by simpa using y) I
  (λi hi=>by
   rw[hl i hi];constructor
   .grind
   intro h;rcases h1 i h with h|h
   .exact .inl h
   exact .inr (d i h)) (hT _ g.2 a w N)
 rw[J];exact this
theorem A4C (cd:c.Ok) (bt:∀o∈ops.toList,H8 c.nt o=true) (Y:P6 ops anc) (hT:∀τ,Kf τ->∀a w,c.sat τ a w->wpListIn (FR c.r) 0 c.P ops Qe (ops.toList.drop p0) a w) :
  ∀(m:Nat) (f:List (List Nat×Nat)) (L D:List Nat) (ens:EN) (τ:St) (ex:List Nat) (listed:Array Bool) (a:Act) (w:World),RQ ops.toList anc p0 L f D=true->zM c ops.toList Kf f D ens τ->(L++ex).Nodup->(∀i∈ex,i∈qs f D) ->
   m+L.length+ex.length=ops.size->listed.size=ops.size->(∀i,i<ops.size->(listed.getD i true=true↔i∈L\/i∈ex))->(∀i o,ops[i]?=some o->(i∈L\/i∈ex)->∀e∈DF o,e∈L\/e∈ex) ->
   c.sat (Am ops.toList (JQ (qs f D) ens) τ ex) a w->wpAnyIn (FR c.r) 0 c.P .any ops Qe m listed a w:=by
 intro m;induction m with
 | zero =>
  intro f L D ens τ ex listed a w B O G z ar R hl aa hs;have hF:=A0s B O;by_cases hf:f=[]/\∀i∈qs f D,i∈ex
  .obtain⟨rfl,am⟩:=hf;exact Y2 Y hT B O G z ar R hl hs am
  exfalso;obtain⟨i,hi⟩:=Y0 Y B hF.q z R hl hf;rw[CS]at hi;obtain⟨h1,o,C,_⟩:=hi;have U:i<ops.size:=(Sg.1 C).1;have H:i∉L++ex:=λh=>by grind
  have M:=Vz B;have:=DY ops.size (i :: (L++ex)) (UN.2 ⟨H,G⟩) (λj d=>by
   have au:=M.p0;simp only[ABs]at au;rcases At.1 d with rfl|d
   .exact U
   rcases Do.1 d with d|d
   .have:=M.L j d;omega
   have:=M.Q j (z j d);omega)
  grind
 | succ m bf =>
  intro f L D ens τ ex listed a w B O G z ar R hl aa hs;have hF:=A0s B O;have M:=Vz B;have bj:∀e b,e<ops.size->listed.getD e b=listed.getD e true:=λe b E=>by grind
  by_cases hf:f=[]/\∀i∈qs f D,i∈ex
  .obtain⟨rfl,am⟩:=hf;exact Y2 Y hT B O G z ar R hl hs am
  refine⟨λcr=>?_,λi hi=>?_⟩
  .obtain⟨i,hi⟩:=Y0 Y B hF.q z R hl hf;grind
  rw[CS]at hi;obtain⟨h1,o,C,cm⟩:=hi;have U:i<ops.size:=(Sg.1 C).1;have H:¬(i∈L\/i∈ex):=λh=>by rw[(hl i U).2 h]at h1;cases h1
  have av:∀e∈DF o,e∈L\/e∈ex:=λe E=>by grind
  have Z:∀j∈anc.getD i [],j∈L\/j∈ex:=by
   have cp:∀i o,ops[i]?=some o->listed.getD i true=true->∀e∈DF o,listed.getD e false=true:=by
    intro i o C h1 e E;have U:i<ops.size:=(Sg.1 C).1;have V:=Y.lt i o C e E;rw[bj e false oa];exact(hl e oa).2 (aa i o C ((hl i U).1 h1) e E)
   grind [Lz]
  have ad:ops.toList[i]?=some o:=by simpa using C
  have cb:o∈ops.toList:=UR ad;have bs:=CX (bt o cb);have az:∀(S:List Nat),(∀j,j∈S↔j=i\/j∈L\/j∈ex)->∀j,j<ops.size->((listed.setIfInBounds i true).getD j true=true↔j∈S):=by
   intro S bq j d;have bz:j<listed.size:=by omega
   rw[bq];by_cases aq:j=i
   .subst aq;simp[Array.getD,bz]
   have V:(listed.setIfInBounds i true).getD j true=listed.getD j true:=getD_set_ne true (λe=>aq e.symm);rw[V,hl j d];simp[aq]
  have be:∀ {g:Option (Nat×Bool)},g=none->o.guard=g->Region.wanted o (yielded ops a.tmps)=true:=by
   intro g ao e;simp[Region.wanted,e,ao]
  by_cases ab:i∈qs f D
  .obtain⟨j,d⟩:=Sn.1 ab;obtain⟨_,cu,ba,ao,_,_⟩:=hF.q.pos j i d;rw[ad]at ba;cases ba;unfold wpOpIn;rw[C];simp only;rw[DO (be rfl ao)];refine Vy cd hF z d ad (λh=>H (.inr h)) (λk hk ca=>?_) bs hs λag w' ce=>?_
   .rcases Z k hk with h|h
    .obtain⟨t,N⟩:=Sn.1 ca;exact absurd h (hF.q.pos t k N).1
    exact h
   refine bf f L D ens τ (i :: ex) _ ag w' B O ?_ (λk hk=>?_) (by simp only[IF];omega) (by simpa using R) (λk hk=>?_) (λi' T F ap e E=>?_) ce
   .rw[iN]at G ⊢;refine⟨G.1,UN.2 ⟨λh=>H (.inr h),G.2.1⟩,λx hx y hy=>?_⟩;rcases At.1 hy with rfl|hy
    .exact λe=>H (.inl (e▸hx))
    exact G.2.2 x hx y hy
   .rcases At.1 hk with rfl|hk
    .exact ab
    exact z k hk
   .rw[az (i :: (L++ex)) (λj=>by simp) k hk];simp only[At,Do];constructor
    .rintro (h|h|h)
     .exact .inr (.inl h)
     .exact .inl h
     exact .inr (.inr h)
    rintro (h|h|h)
    .exact .inr (.inl h)
    .exact .inl h
    exact .inr (.inr h)
   have:e∈L\/e∈ex:=by
    rcases ap with h|h
    .exact aa i' T F (.inl h) e E
    rcases At.1 h with rfl|h
    .rw[C]at F;cases F;exact av e E
    exact aa i' T F (.inr h) e E
   rcases this with h|h
   .exact .inl h
   exact .inr (by simp[h])
  . -- no operation of the front
   have cs:¬p0<=i:=by
    intro bv;have hb:=M.back i bv (by simpa using U);cases f with
    | nil =>
     refine hf ⟨rfl,λj d=>?_⟩;have V:=M.Q j d;rcases Z j (hb j oa) with h|h
     .obtain⟨t,N⟩:=Sn.1 d;exact absurd h (hF.q.pos t j N).1
     exact h
    | cons p f =>
     obtain⟨A,l⟩:=p;obtain⟨_,_,_,ai,aj,_,_⟩:=Jp B;have V:=M.lo (A,l) sc;simp only at V;rcases Z l (hb l oa) with h|h
     .exact ai h
     exact aj (by rw[<-Ix A l];exact z l h)
   cases f with
   | nil =>
    rcases M.all i oa with h|h|h
    .exact absurd (.inl h) H
    .exact absurd h ab
    cases h
   | cons p f =>
    obtain⟨A,l⟩:=p;obtain⟨_,⟨ol,bb,bw,cq⟩,bm,ai,aj,bk,bn⟩:=Jp B;have bx:i=l:=by
     rcases M.all i oa with h|h|h
     .exact absurd (.inl h) H
     .exact absurd h ab
     simp only[Sj,At,Y1]at h;rcases h with h|⟨p,au,rfl⟩
     .exact h
     rcases Z l (bk p au) with h|h
     .exact absurd h ai
     exact absurd (z l h) (by rw[Ix];exact aj)
    subst bx;rw[ad]at bb;cases bb;rw[Ix]at hF z hs ab;obtain⟨co,T,F,bo⟩:=O;rw[ad]at F;cases F;have W:∀j∈A,j∈ex:=λj d=>by
     rcases Z j (bm j d) with h|h
     .obtain⟨t,N⟩:=Sn.1 (show j∈A++qs f D by simp[d]);exact absurd h (hF.q.pos t j N).1
     exact h
    have ak:A.Nodup/\(qs f D).Nodup/\∀x∈A,∀y∈qs f D,x≠y:=iN.1 hF.q.nodup;have br:Ik (ens.take A.length) τ=Am ops.toList (JQ (A++qs f D) ens) τ A.reverse:=by
     have:=QB (ops:=ops.toList) (en:=JQ (A++qs f D) ens) (τ:=τ) (pre:=[]) (Q:=A) (ens:=ens.take A.length) (by have:=hF.len;simp only[As]at this;simp only[OS];omega) (λj i e K u=>by
      have ay:j<A.length:=(On.1 K).1;obtain⟨o,cl,_,I,J,ah,_⟩:=hF.at_ j i (by rw[Se ay];exact K);rw[UP,DO ay,I]at u;cases u;exact⟨J,ah⟩)
     simpa[Am] using this
    have bd:=Yx (A:=A.reverse) hF.own z (λj d=>W j (by simpa using d));rw[<-br]at bd;have af:∀j,j∈ex.filter (λj=>!AU j A.reverse)↔j∈ex/\j∉A:=λj=>by
     rw[AAe];have:=Aa j A.reverse;constructor
     .rintro⟨K,u⟩;exact⟨K,λI=>by rw[this.2 (by simpa using I)]at u;cases u⟩
     rintro⟨K,u⟩;refine⟨K,?_⟩;cases cc:AU j A.reverse with
     | false=>rfl
     | true=>exact absurd (by simpa using this.1 cc) u
    have X:∀j∈ex.filter (λj=>!AU j A.reverse),j∈qs f D:=λj d=>by
     have:=z j ((af j).1 d).1;rcases Do.1 this with h|h
     .exact absurd h ((af j).1 d).2
     exact h
    have an:∀j∈qs f D,∃(t:Nat) (e:Nat×AV×List (Nat×Obj)),(qs f D)[t]?=some j/\(ens.drop A.length)[t]?=some e/\Ak ops.toList j=some e.1/\JQ (A++qs f D) ens j=⟨true,e.2.1,e.2.2⟩:=by
     intro j d;obtain⟨t,N⟩:=Sn.1 d;obtain⟨o,e,_,I,J,ah,_⟩:=hF.at_ (A.length+t) j (by rw[Sf oa,ABb];exact N);exact⟨t,e,N,by rw[AA9];exact I,J,ah⟩
    have bc:Own ops.toList (JQ (A++qs f D) ens) ⟨[],[]⟩ (A++qs f D):=⟨hF.own.slot,λ_ _ _ _ _=>rfl,hF.own.name⟩;have aw:∀j∈ex.filter (λj=>!AU j A.reverse),j∈A++qs f D:=λj d=>by simp[X j d]
    unfold wpOpIn;rw[C];simp only;rw[DO (be rfl bw)];refine bo _ _ bd ⟨λs v ae=>?_,λn T hn=>?_⟩ a w _ _ hs λbi bp ag w' cv ax cf=>?_
    .rcases (rV bc aw s v).1 ae with ⟨j,d,hd,rfl⟩|⟨_,ae⟩
     .obtain⟨t,e,_,u,I,J⟩:=an j (X j d);rw[hd]at I;cases I;rw[J];exact⟨e.2.2,UR u⟩
     cases ae
    .rcases (rW bc aw n T).1 hn with ⟨j,d,hd⟩|⟨_,ae⟩
     .obtain⟨t,e,_,u,I,J⟩:=an j (X j d);rw[J]at hd;exact⟨e,UR u,FK hd⟩
     cases ae
    have cn:ex.length=A.length+(ex.filter (λj=>!AU j A.reverse)).length:=by
     have cg:∀l:List Nat,l.length=(l.filter (λj=>AU j A.reverse)).length+(l.filter (λj=>!AU j A.reverse)).length:=by
      intro l;induction l with
      | nil=>rfl
      | cons x r ct =>
       simp only[AA5,IF];cases AU x A.reverse<;>simp<;>omega
     rw[cg ex];have bu:=(iN.1 G).2.1;have K:(ex.filter (λj=>AU j A.reverse)).length<=A.length:=Fx (bu.filter _) λx hx=>by
      have:=(Aa _ _).1 (AAe.1 hx).2;simpa using this
     have u:A.length<=(ex.filter (λj=>AU j A.reverse)).length:=Fx ak.1 λx hx=>AAe.2 ⟨W x hx,(Aa _ _).2 (by simpa using hx)⟩;omega
    have al:∀x,(x∈i :: (A++L)\/x∈ex.filter (λj=>!AU j A.reverse))↔x=i\/x∈L\/x∈ex:=by
     intro x;rw[af];simp only[At,Do];constructor
     .rintro ((h|h|h)|h)
      .exact .inl h
      .exact .inr (.inr (W x h))
      .exact .inr (.inl h)
      exact .inr (.inr h.1)
     rintro (h|h|h)
     .exact .inl (.inl h)
     .exact .inl (.inr (.inr h))
     by_cases hx:x∈A
     .exact .inl (.inr (.inl hx))
     exact .inr ⟨h,hx⟩
    refine bf f (i :: (A++L)) D (ens.drop A.length) bi (ex.filter λj=>!AU j A.reverse) _ ag w' bn bp ?_ X (by simp only[IF,As];omega) (by simpa using R) (λk hk=>?_) (λi' T F ap e E=>?_) ?_
    .obtain⟨n1,cj,bg⟩:=iN.1 G;have bl:∀x∈A,x∉L:=λx hx ch=>bg x ch x (W x hx) rfl;rw[iN];refine⟨UN.2 ⟨λh=>?_,iN.2 ⟨ak.1,n1,λx hx y hy e=>bl x hx (e▸hy)⟩⟩,cj.filter _,λx hx y hy e=>?_⟩
     .rcases Do.1 h with h|h
      .exact H (.inr (W i h))
      exact H (.inl h)
     subst e;obtain⟨bh,ck⟩:=(af x).1 hy;rcases At.1 hx with rfl|hx
     .exact H (.inr bh)
     rcases Do.1 hx with hx|hx
     .exact ck hx
     exact bg x hx x bh rfl
    .rw[al k,az (i :: (L++ex)) (λj=>by simp) k hk];simp
    .rw[al];have:e∈L\/e∈ex:=by
      rcases (al i').1 ap with rfl|h
      .rw[C]at F;cases F;exact av e E
      exact aa i' T F h e E
     exact .inr this
    have ci:∀j∈ex.filter (λj=>!AU j A.reverse),JQ (qs f D) (ens.drop A.length) j=JQ (A++qs f D) ens j:=λj d=>by
     obtain⟨t,e,K,u,_,J⟩:=an j (X j d);rw[J];exact bG ak.2.1 t j e K u
    have hx:=fT (ops:=ops.toList) (en:=JQ (qs f D) (ens.drop A.length)) (τ:=bi) (ex.filter λj=>!AU j A.reverse);rw[IA (en:=JQ (A++qs f D) ens) (σ0:=⟨[],[]⟩) ci]at hx;exact OU (λs=>by rw[hx.env,ax.env]) (λn=>by rw[hx.objs,ax.objs]) cf
end
section
variable {c:Cx} {R:Exit->Act->World->Prop} {k:List DD} {σ:St}
theorem HB (j:c.P.follows .mixedOrders=true) (g:c.Ok) {id:Nat} {l:List Oper} (p0:Nat) (d:List (List Nat×Nat)) (D:List Nat) (b:(A4A l (fL l)&&RQ l (fL l) p0 [] d D)=true) {ens:EN}
  (h:zM c l (fun τ=>Lu c R k l.toArray (l.drop p0) τ) d D ens σ):Ev c R (.run (.region id l.toArray true)) k σ:=by
 intro h1 e a w hs;simp only[HO,Bh,NO]at h1;simp only[An]at b;refine wpIn_region_any j ?_;have hk:∀τ,Lu c R k l.toArray (l.drop p0) τ->∀a w,c.sat τ a w->wpListIn (FR c.r) 0 c.P l.toArray (UX c R k) (l.toArray.toList.drop p0) a w:=fun τ f a w hs=>f (λo m=>h1 o (by simpa using AAA m)) e a w hs;exact A4C (ops:=l.toArray) (anc:=fL l) g (by simpa using h1) (A6f (by simpa using b.1)) hk l.toArray.size d [] D ens σ [] (Array.replicate l.toArray.size false) a { w with drawn:=w.drawn+1 } (by simpa using b.2) (by simpa using h) sc sc sc sc (λi hi=>by simp at hi;simp[Array.getD,hi]) (λi o _ hi=>by simp at hi) (Vq hs)
end
end
section
open Go Go.RowKit
section
variable {n:Nat} {ns:List Nat}
theorem GQ {m:Nat} (hn:n∈ns) (h:¬AU m ns=true):¬m=n:=λe=>h ((Aa _ _).2 (e▸hn))
mutual
theorem V0 (hn:n∈ns) {e:Ty} {xs:List e.den}:∀(x:AV),x.fgt ns=x->x.frz n e xs=x
 | .sr m e' lo hi,h=>by grind [AV.fgt,AV.frz,GQ]
 | .ep m e' i path off,h=>by grind [AV.fgt,AV.frz,GQ]
 | .nin m e' i len,h=>by grind [AV.fgt,AV.frz,GQ]
 | .ag l,h=>by
  simp only[AV.fgt,AV.ag.injEq]at h
  simp only[AV.frz,frzs_of_fgt hn l h]
 | .tup l,h=>by
  simp only[AV.fgt,AV.tup.injEq]at h
  simp only[AV.frz,frzs_of_fgt hn l h]
 | .p _ _,_=>rfl
 | .pc _ _,_=>rfl
 | .raw _,_=>rfl
 | .ip _ _,_=>rfl
 | .bp _ _ _,_=>rfl
 | .fn _,_=>rfl
 | .clo _ _,_=>rfl
 | .mp _,_=>rfl
 | .yl _,_=>rfl
 | .top,_=>rfl
theorem frzs_of_fgt (hn:n∈ns) {e:Ty} {xs:List e.den}:∀(l:List AV),AV.fgts ns l=l->AV.frzs n e xs l=l
 | [],_=>rfl
 | x :: r,h=>by
  simp only[AV.fgts,AB4]at h
  simp only[AV.frzs,V0 hn x h.1,frzs_of_fgt hn r h.2]
end
mutual
theorem WA (hn:n∈ns):∀(x:AV),x.fgt ns=x->x.drp n=x
 | .sr m e' lo hi,h=>by grind [AV.fgt,AV.drp,GQ]
 | .ep m e' i path off,h=>by grind [AV.fgt,AV.drp,GQ]
 | .nin m e' i len,h=>by grind [AV.fgt,AV.drp,GQ]
 | .ag l,h=>by
  simp only[AV.fgt,AV.ag.injEq]at h
  simp only[AV.drp,drps_of_fgt hn l h]
 | .tup l,h=>by
  simp only[AV.fgt,AV.tup.injEq]at h
  simp only[AV.drp,drps_of_fgt hn l h]
 | .p _ _,_=>rfl
 | .pc _ _,_=>rfl
 | .raw _,_=>rfl
 | .ip _ _,_=>rfl
 | .bp _ _ _,_=>rfl
 | .fn _,_=>rfl
 | .clo _ _,_=>rfl
 | .mp _,_=>rfl
 | .yl _,_=>rfl
 | .top,_=>rfl
theorem drps_of_fgt (hn:n∈ns):∀(l:List AV),AV.fgts ns l=l->AV.drps n l=l
 | [],_=>rfl
 | x :: r,h=>by
  simp only[AV.fgts,AB4]at h
  simp only[AV.drps,WA hn x h.1,drps_of_fgt hn r h.2]
end
end
section
variable {n:Nat} {ns tl:List Nat}
theorem D6 (a:∀n,n∈tl->n∈ns) {m:Nat} (h:¬AU m ns=true):¬AU m tl=true:=λh1=>h ((Aa _ _).2 (a _ ((Aa _ _).1 h1)))
theorem rZ (a:∀n,n∈tl->n∈ns) {l:List Nat} (h:¬(l.any λm=>AU m ns)=true):¬(l.any λm=>AU m tl)=true:=λh1=>by grind [Aa]
mutual
theorem WB (htl:∀n,n∈tl->n∈ns):∀(x:AV),x.fgt ns=x->x.fgt tl=x
 | .sr m e' lo hi,h=>by grind [AV.fgt,D6]
 | .ep m e' i path off,h=>by grind [AV.fgt,D6]
 | .nin m e' i len,h=>by grind [AV.fgt,D6]
 | .bp m path off,h=>by grind [AV.fgt,D6]
 | .mp m,h=>by grind [AV.fgt,D6]
 | .yl m,h=>by grind [AV.fgt,D6]
 | .clo f cs,h=>by
  simp only[AV.fgt]at h
  split at h
  .cases h
  rename_i hm;simp only[AV.fgt,BY (rZ htl hm)]
 | .ag l,h=>by
  simp only[AV.fgt,AV.ag.injEq]at h
  simp only[AV.fgt,fgts_of_fgt htl l h]
 | .tup l,h=>by
  simp only[AV.fgt,AV.tup.injEq]at h
  simp only[AV.fgt,fgts_of_fgt htl l h]
 | .p _ _,_=>rfl
 | .pc _ _,_=>rfl
 | .raw _,_=>rfl
 | .ip _ _,_=>rfl
 | .fn _,_=>rfl
 | .top,_=>rfl
theorem fgts_of_fgt (htl:∀n,n∈tl->n∈ns):∀(l:List AV),AV.fgts ns l=l->AV.fgts tl l=l
 | [],_=>rfl
 | x :: r,h=>by
  simp only[AV.fgts,AB4]at h
  simp only[AV.fgts,WB htl x h.1,fgts_of_fgt htl r h.2]
end
mutual
theorem WC (hn:n∈ns) (htl:∀n,n∈tl->n∈ns):∀(x:AV),x.fgt ns=x->x.trn n tl=x
 | .sr m e' lo hi,h=>by grind [AV.fgt,AV.trn,D6]
 | .ep m e' i path off,h=>by grind [AV.fgt,AV.trn,D6]
 | .nin m e' i len,h=>by grind [AV.fgt,AV.trn,GQ,D6]
 | .bp m path off,h=>by grind [AV.fgt,AV.trn,D6]
 | .mp m,h=>by grind [AV.fgt,AV.trn,D6]
 | .yl m,h=>by grind [AV.fgt,AV.trn,D6]
 | .clo f cs,h=>by
  simp only[AV.fgt]at h
  split at h
  .cases h
  rename_i hm;simp only[AV.trn,BY (rZ htl hm)]
 | .ag l,h=>by
  simp only[AV.fgt,AV.ag.injEq]at h
  simp only[AV.trn,trns_of_fgt hn htl l h]
 | .tup l,h=>by
  simp only[AV.fgt,AV.tup.injEq]at h
  simp only[AV.trn,trns_of_fgt hn htl l h]
 | .p _ _,_=>rfl
 | .pc _ _,_=>rfl
 | .raw _,_=>rfl
 | .ip _ _,_=>rfl
 | .fn _,_=>rfl
 | .top,_=>rfl
theorem trns_of_fgt (hn:n∈ns) (htl:∀n,n∈tl->n∈ns):∀(l:List AV),AV.fgts ns l=l->AV.trns n tl l=l
 | [],_=>rfl
 | x :: r,h=>by
  simp only[AV.fgts,AB4]at h
  simp only[AV.trns,WC hn htl x h.1,trns_of_fgt hn htl r h.2]
end
end
def Kh:AV->Bool
 | .raw _=>true
 | .p _ _=>true
 | _=>false
def L1:Obj->Bool
 | .arr _ _ _=>true
 | .box _ _ fs=>fs.all Kh
 | _=>false
theorem WD {n:Nat} {e:Ty} {xs:List e.den}:∀fs:List AV,fs.all Kh=true->AV.frzs n e xs fs=fs
 | [],_=>rfl
 | x :: r,h=>by
  rw[AAz,An]at h;simp only[AV.frzs,WD r h.2];cases x<;>first|rfl|(have:=h.1;simp[Kh]at this)
theorem WE {n:Nat}:∀fs:List AV,fs.all Kh=true->AV.drps n fs=fs
 | [],_=>rfl
 | x :: r,h=>by
  rw[AAz,An]at h;simp only[AV.drps,WE r h.2];cases x<;>first|rfl|(have:=h.1;simp[Kh]at this)
theorem wJ {n:Nat} {e:Ty} {xs:List e.den} {o:Obj} (h:L1 o=true):Obj.frz n e xs o=o:=by
 cases o with
 | box et st fs=>simp only[Obj.frz,WD fs h]
 | arr et a ys=>rfl
 | _=>cases h
theorem wK {n:Nat} {o:Obj} (h:L1 o=true):Obj.drp n o=o:=by
 cases o with
 | box et st fs=>simp only[Obj.drp,WE fs h]
 | arr et a ys=>rfl
 | _=>cases h
theorem WF {hs:List Nat}:∀fs:List AV,fs.all Kh=true->AV.fgts hs fs=fs
 | [],_=>rfl
 | x :: r,h=>by
  rw[AAz,An]at h;simp only[AV.fgts,WF r h.2];cases x<;>first|rfl|(have:=h.1;simp[Kh]at this)
theorem Y3 {hs:List Nat} {o:Obj} (h:L1 o=true):Obj.fgt hs o=o:=by
 cases o with
 | box et st fs=>simp only[Obj.fgt,WF fs h]
 | arr et a ys=>rfl
 | _=>cases h
theorem WG {n:Nat} {hs:List Nat}:∀fs:List AV,fs.all Kh=true->AV.trns n hs fs=fs
 | [],_=>rfl
 | x :: r,h=>by
  rw[AAz,An]at h;simp only[AV.trns,WG r h.2];cases x<;>first|rfl|(have:=h.1;simp[Kh]at this)
theorem wL {n:Nat} {hs:List Nat} {o:Obj} (h:L1 o=true):Obj.trn n hs o=o:=by
 cases o with
 | box et st fs=>simp only[Obj.trn,WG fs h]
 | arr et a ys=>rfl
 | _=>cases h
structure ID (X σ:St) (ns:List Nat):Prop where
 env:∀s v,lk s X.env=some v->v.fgt ns=v
 arr:∀n o,lk n X.objs=some o->L1 o=true
 new:∀n o,lk n X.objs=some o->lk n σ.objs=none
 nm:∀n o,lk n X.objs=some o->n∉ns
section
variable {σ σ' X:St} {ns:List Nat}
theorem Q2.lkn (hx:Q2 σ σ' X) (ha:ID X σ ns) {n:Nat} (hn:n∈ns):lk n σ'.objs=lk n σ.objs:=by
 rw[hx.objs];cases a:lk n X.objs with
 | none=>rfl
 | some o=>exact absurd hn (ha.nm n o a)
theorem Q2.obs (hx:Q2 σ σ' X) (ha:ID X σ ns):dZ σ σ':=by
 intro n o hn;rw[hx.objs];cases a:lk n X.objs with
 | none=>exact hn
 | some b=>rw[ha.new n b a]at hn;cases hn
theorem r7 {n:Nat} (hx:Q2 σ σ' X) (ha:ID X σ ns) (hn:n∈ns):Q2 (frz n σ) (frz n σ') X/\ID X (frz n σ) ns:=by
 unfold frz;split
 .exact⟨hx,ha⟩
 have core:∀(e:Ty) (xs:List e.den),Q2 ⟨DW n e xs σ.env,BC n e xs (del n σ.objs)⟩ ⟨DW n e xs σ'.env,BC n e xs (del n σ'.objs)⟩ X/\ID X ⟨DW n e xs σ.env,BC n e xs (del n σ.objs)⟩ ns:=by
  intro e xs;refine⟨⟨λs=>?_,λm=>?_⟩,ha.env,ha.arr,λm o b=>?_,ha.nm⟩
  .simp only[Ms,hx.env];cases a:lk s X.env with
   | none=>rfl
   | some v=>simp[V0 hn v (ha.env s v a)]
  .simp only[CV,RC];by_cases b:m=n
   .subst b;cases a:lk m X.objs with
    | none=>simp
    | some o=>exact absurd hn (ha.nm m o a)
   simp only[BY b,hx.objs];cases a:lk m X.objs with
   | none=>rfl
   | some o=>exact oN some (wJ (ha.arr m o a))
  simp only[CV,RC];split
  .rfl
  rw[ha.new m o b];rfl
 rw[hx.lkn ha hn];unfold vE;grind
theorem WH:∀ {l:List Nat} {σ σ':St},Q2 σ σ' X->ID X σ ns->(∀n∈l,n∈ns)->Q2 (DN l σ) (DN l σ') X/\ID X (DN l σ) ns
 | [],_,_,hx,ha,_=>⟨hx,ha⟩
 | n :: l,σ,σ',hx,ha,h=>by
  obtain⟨h1,a⟩:=r7 hx ha (h n sc);have:=WH (l:=l) h1 a λm b=>h m (by simp[b]);exact this
def wM (σ σ':St) (xs:List Operand):Prop:=∀x∈xs,Aq σ' x=Aq σ x
theorem bH (hx:Q2 σ σ' X) {xs:List Operand} (h:∀t∈xs.filterMap TC,lk t X.env=none):wM σ σ' xs:=by
 intro x a;cases x with
 | tmp t =>
  simp only[Aq,hx.env];rw[h t (ABS.2 ⟨_,a,rfl⟩)];rfl
 | const v=>rfl
 | global g=>rfl
 | func f=>rfl
theorem L2:∀ {l:List (Nat×Operand)},wM σ σ' (l.map (·.2))->Dj σ' l=Dj σ l
 | [],_=>rfl
 | (i,x) :: r,h=>by
  simp only[Dj];rw[h x sc,L2 (λy hy=>h y (by simp only[Sj,At];exact .inr hy))]
theorem QC:∀ {l:List (Nat×Operand)},wM σ σ' (l.map (·.2))->Fq σ' l=Fq σ l
 | [],_=>rfl
 | (i,x) :: r,h=>by
  simp only[Fq];rw[h x sc,QC (λy hy=>h y (by simp only[Sj,At];exact .inr hy))]
theorem mS (hx:Q2 σ σ' X) (ha:ID X σ ns) (n:Nat):DA (lk n σ'.objs)=DA (lk n σ.objs):=by
 rw[hx.objs];cases a:lk n X.objs with
 | none=>rfl
 | some o =>
  rw[ha.new n o a];have:=ha.arr n o a;cases o<;>first|rfl|cases this
theorem fX (hx:Q2 σ σ' X) (ha:ID X σ ns) {op:Op} (h:wM σ σ' op.operands.toList):DU σ' op=DU σ op:=by
 cases op<;>simp only[DU];case buildSlice t n parts =>
  exact L2 (λx hx=>h x (by simpa[Op.operands] using hx))
 case build t parts =>
  exact QC (λx hx=>h x (by simpa[Op.operands] using hx))
 case store t x y =>
  rw[h x (by simp[Op.operands]),h y (by simp[Op.operands])];unfold DM;split
  .rw[mS hx ha]
  rfl
 case mapUpdate t m x y =>
  rw[h m (by simp[Op.operands]),h x (by simp[Op.operands]),h y (by simp[Op.operands])]
def LG (σ:St):Option AV->Option AV->List Nat
 | some (.sr n _ _ _),some (.sr m _ _ _)=>if DA (lk n σ.objs)=true then [n,m] else [n]
 | some (.sr n _ _ _),_=>[n]
 | some (.nin n _ _ _),_=>[n]
 | some (.raw _),some (.sr m _ _ _)=>if DA (lk m σ.objs)=true then [m] else []
 | _,_=>[]
def mT (σ:St):Option AV->Option AV->List Nat
 | some (.ep n _ _ _ _),some (.sr m _ _ _)=>if DA (lk n σ.objs)=true then [n,m] else []
 | _,_=>[]
def fY (σ:St):Op->List Nat
 | .call c=>match c.callee,c.args.toList with
  | .builtin .append,[x,y]=>LG σ (Aq σ x) (Aq σ y)
  | _,_=>[]
 | .store _ x y=>mT σ (Aq σ x) (Aq σ y)
 | _=>[]
theorem A0t {n:Nat} {e:Ty} {lo hi:Nat} {v:AV}:n∈LG σ (some (.sr n e lo hi)) (some v):=by
 cases v<;>first|(simp[LG];done)|(simp only[LG];split<;>simp)
theorem r8 (hx:Q2 σ σ' X) (ha:ID X σ ns) {tl:List Nat} (e:∀n,n∈tl->n∈ns) {d b:Nat} {v:AV} {f:Obj} (hd:lk d X.env=none) (g:lk b X.objs=none) :
  Q2 ⟨(d,v) :: CU tl σ.env,(b,f) :: Ay tl tl σ.objs⟩ ⟨(d,v) :: CU tl σ'.env,(b,f) :: Ay tl tl σ'.objs⟩ X:=by
 refine⟨λs=>?_,λm=>?_⟩
 .simp only[lk];by_cases hs:s=d
  .grind
  rw[BY hs,BY hs,El,El,hx.env];cases a:lk s X.env with
  | none=>rfl
  | some w=>simp[WB e w (ha.env s w a)]
 simp only[lk];by_cases c:m=b
 .grind
 rw[BY c,BY c,B7,B7,hx.objs];cases a:lk m X.objs with
 | none=>rfl
 | some w =>
  rw[BY λh=>ha.nm m w a (e _ ((Aa _ _).1 h))];exact oN some (Y3 (ha.arr m w a))
theorem r9 (hx:Q2 σ σ' X) (ha:ID X σ ns) {n:Nat} {tl:List Nat} (hn:n∈ns) (b:∀n,n∈tl->n∈ns) {en:List (Nat×AV)} {new:List (Nat×Obj)} (hd:∀s v,lk s en=some v->lk s X.env=none) (d:∀m o,lk m new=some o->lk m X.objs=none) :
  Q2 ⟨en++FI n tl σ.env,new++DT n tl σ.objs⟩ ⟨en++FI n tl σ'.env,new++DT n tl σ'.objs⟩ X:=by
 refine⟨λs=>?_,λm=>?_⟩
 .simp only[A7];cases hs:lk s en with
  | some v=>rw[hd s v hs];rfl
  | none =>
   rw[Hq,Hq,hx.env];cases a:lk s X.env with
   | none=>rfl
   | some w=>simp[WC hn b w (ha.env s w a)]
 simp only[A7];cases c:lk m new with
 | some o=>rw[d m o c];rfl
 | none =>
  rw[EZ,EZ,hx.objs];cases a:lk m X.objs with
  | none=>rfl
  | some w =>
   rw[BY λh=>ha.nm m w a (by
    rcases At.1 ((Aa _ _).1 h) with rfl|h
    .exact hn
    exact b _ h)]
   exact oN some (wL (ha.arr m w a))
theorem bI {n:Nat} {o c:Obj} (hx:Q2 σ σ' X) (ha:ID X σ ns) (hn:lk n σ.objs=some o) {env b:List (Nat×AV)} (e:∀s,lk s b=(lk s X.env).or (lk s env)):Q2 ⟨env,upd n c σ.objs⟩ ⟨b,upd n c σ'.objs⟩ X:=by
 refine⟨e,λm=>?_⟩;simp only[GM];have d:lk n X.objs=none:=by
  cases h:lk n X.objs with
  | none=>rfl
  | some u=>rw[ha.new n u h]at hn;cases hn
 by_cases a:m=n
 .subst a;rw[DO rfl,DO rfl,hx.objs,d];rfl
 rw[BY a,BY a,hx.objs]
theorem Q2.some_lk (hx:Q2 σ σ' X) (ha:ID X σ ns) {n:Nat} {o:Obj} (h:lk n σ.objs=some o):lk n σ'.objs=some o:=hx.obs ha n o h
theorem wN {tb:Tb} {op:Op} {d:Option Nat} {vc:Prop} {τ:St} (hx:Q2 σ σ' X) (ha:ID X σ ns) (H:wM σ σ' op.operands.toList) (f:∀n∈fY σ op,n∈ns) (hd:∀t,d=some t->lk t X.env=none) (Q:∀n,(∃u,lk n τ.objs=some u)->lk n X.objs=none) (h:H0 tb σ d op=some (vc,τ)) :
  (∃af,H0 tb σ' d op=some (vc,af)/\Q2 τ af X)/\∀k,aq tb σ' k op=none:=by
 have O:=hx.obs ha;cases op<;>simp only[H0]at h<;>try(cases h;done)
 case store t x y =>
  refine⟨?_,λ_=>rfl⟩;simp only[H0];have f:∀n∈mT σ (Aq σ x) (Aq σ y),n∈ns:=f;rw[H x (by simp[Op.operands]),H y (by simp[Op.operands])];cases d with
  | some d=>simp[ER]at h
  | none =>
   simp only[ER]at h ⊢;generalize Aq σ x=ag at h f ⊢;generalize Aq σ y=ah at h f ⊢;unfold JE at h ⊢;split at h
   .rename_i ti n ao off v U;try simp only
    unfold Dh at h ⊢;split at h
    .rename_i et st fs hl;rw[hx.some_lk ha hl];try simp only
     unfold Fl at h ⊢;split at h
     .rename_i u au h1 C;try rw[h1,C]
      try simp only
      split at h
      .rename_i p;rw[DO p];cases h;exact⟨_,rfl,bI hx ha hl hx.env⟩
      cases h
     cases h
    cases h
   .rename_i ti n e i ao off v U;try simp only
    unfold Di at h ⊢;split at h
    .rename_i et Z xs hl;rw[hx.some_lk ha hl];try simp only
     cases V:NR false σ ti.ty v with
     | none=>rw[V]at h;unfold E7 at h;split at h<;>first|(cases h;done)|(rename_i C;cases C)
     | some w =>
      rw[FB O V];rw[V]at h;unfold E7 at h ⊢;split at h
      .rename_i ys w' h1 C;cases C;try rw[h1]
       try simp only
       unfold Gi at h ⊢;split at h
       .rename_i z M;try rw[M]
        try simp only
        split at h
        .rename_i p;rw[DO p];cases h;exact⟨_,rfl,bI hx ha hl hx.env⟩
        cases h
       cases h
      cases h
    .rename_i et Y k e1 xs j hl;rw[hx.some_lk ha hl];try simp only
     split at h
     .rename_i m E hi;try simp only
      split at h
      .rename_i p;rw[DO p];unfold OG at h ⊢;split at h
       .rename_i G;rw[DO G];unfold OD at h ⊢;split at h
        .rename_i aw e2 ys B;rw[hx.some_lk ha B];try simp only
         split at h
         .rename_i ak;rw[DO ak];unfold Lc at h ⊢;split at h
          .rename_i ae W;try rw[W]
           try simp only
           cases h;have ad:∀q,q∈[n,m]->q∈ns:=λq a=>f q (by simp only[mT,hl,DA,AAd];exact a);refine⟨_,rfl,r9 (en:=[]) (new:=[(n,_)]) hx ha (ad n sc) (λq a=>ad q (by simp at a;simp[a])) (λs v h=>by cases h) (λq o a=>Q q ⟨o,?_⟩)⟩;simp only[lk]at a ⊢;split at a
           .rename_i e1;cases a;rw[DO e1]
           cases a
          cases h
         cases h
        cases h
       cases h
      cases h
     cases h
    cases h
   cases h
 case mapUpdate t m x y =>
  refine⟨?_,λ_=>rfl⟩;simp only[H0];rw[H m (by simp[Op.operands]),H x (by simp[Op.operands]),H y (by simp[Op.operands])];cases d with
  | some d=>simp[ER]at h
  | none =>
   simp only[ER]at h ⊢;generalize Aq σ m=ap at h ⊢;generalize Aq σ x=ag at h ⊢;generalize Aq σ y=ah at h ⊢;unfold Le at h ⊢;split at h
   .try simp only
    unfold Ge at h ⊢;split at h
    .rename_i ba bc l hl;rw[hx.some_lk ha hl];try simp only
     split at h
     .rename_i p;rw[DO p];unfold HV at h ⊢;split at h
      .rename_i ay v1 h1 C;rw[FB O h1,FB O C];try simp only
       split at h
       .rename_i G;rw[DO G];cases h;exact⟨_,rfl,bI hx ha hl hx.env⟩
       cases h
      cases h
     cases h
    cases h
   cases h
 case call cl =>
  obtain⟨callee,⟨args⟩,⟨argTypes⟩⟩:=cl;cases callee with
  | value g=>simp[EP]at h
  | invoke r m=>simp[EP]at h
  | builtin b =>
   simp only[EP]at h;unfold E9 at h;split at h
   .rename_i x y t u;have L:Aq σ' x=Aq σ x:=H x (by simp[Op.operands,Call.operands]);have P:Aq σ' y=Aq σ y:=H y (by simp[Op.operands,Call.operands]);have f:∀n∈LG σ (Aq σ x) (Aq σ y),n∈ns:=λn hn=>f n (by simpa[fY] using hn);unfold Ek at h;split at h
    .rename_i n e hi v A F;rw[A,F]at f;refine⟨?_,λk=>by simp[aq,EO,E6,Dg,L,A]⟩;simp only[H0,EP,E9,Ek,L,A,P,F];split at h
     .rename_i c ;have I:=hd c rfl;have J:n∈ns:=f n A0t;try simp only
      split at h
      .rename_i K;rw[DO K];unfold E8 at h ⊢;split at h
       .rename_i e2 an el b2 T;try rw[T]
        try simp only
        split at h
        .rename_i S;rw[DO S];unfold Ck at h ⊢;split at h
         .rename_i ti et Z xs h1 hl;try rw[h1]
          try rw[hx.some_lk ha hl]
          try simp only
          split at h
          .rename_i al;rw[DO al];unfold Fm at h ⊢;split at h
           .rename_i ae ys C M;try rw[C]
            rw[Pq O M];try simp only
            cases h;refine⟨_,rfl,⟨λs=>?_,λm=>?_⟩⟩
            .simp only[lk];by_cases hs:s=c
             .subst hs;rw[DO rfl,DO rfl,I];rfl
             rw[BY hs,BY hs,Jj,Jj,hx.env];cases D:lk s X.env with
             | none=>rfl
             | some w=>simp[WA J w (ha.env s w D)]
            simp only[GM,Bo];have aj:lk n X.objs=none:=by
             cases D:lk n X.objs with
             | none=>rfl
             | some w=>exact absurd J (ha.nm n w D)
            by_cases B:m=n
            .subst B;rw[DO rfl,DO rfl,hx.objs,aj];rfl
            rw[BY B,BY B,hx.objs];cases D:lk m X.objs with
            | none=>rfl
            | some w=>exact oN some (wK (ha.arr m w D))
           cases h
          cases h
         .rename_i ti et Y k Z xs h1 hl;try rw[h1]
          try rw[hx.some_lk ha hl]
          try simp only
          split at h
          .rename_i p;rw[DO p];unfold VP at h ⊢;split at h
           .rename_i m E am;try simp only
            unfold OE at h ⊢;split at h
            .rename_i ai av az ar ys B;rw[hx.some_lk ha B];try simp only
             split at h
             .rename_i G;rw[DO G];unfold Ld at h ⊢;split at h
              .rename_i ae W;try rw[W]
               try simp only
               cases h;refine⟨_,rfl,r8 hx ha (λq a=>f q (by simp only[LG,hl,DA,AAd];exact a)) I ?_⟩;cases D:lk n X.objs with
               | none=>rfl
               | some w=>exact absurd J (ha.nm n w D)
              cases h
             cases h
            cases h
           cases h
          cases h
         cases h
        cases h
       cases h
      cases h
     cases h
    .rename_i n e i len v A F;rw[A,F]at f;refine⟨?_,λk=>by simp[aq,EO,E6,Dg,L,A]⟩;simp only[H0,EP,E9,Ek,L,A,P,F];split at h
     .rename_i c ;have I:=hd c rfl;have J:n∈ns:=f n (by simp[LG]);try simp only
      split at h
      .rename_i K;rw[DO K];unfold Su at h ⊢;split at h
       .rename_i e2 an el b2 T;try rw[T]
        try simp only
        split at h
        .rename_i S;rw[DO S];unfold VO at h ⊢;split at h
         .rename_i ti et Y k e1 xs h1 hl;try rw[h1]
          try rw[hx.some_lk ha hl]
          try simp only
          split at h
          .rename_i p;rw[DO p];unfold PO at h ⊢;split at h
           .rename_i ys M;rw[Pq O M];try simp only
            split at h
            .rename_i aa;have N:lk c X.objs=none:=by
              refine Q c ?_;cases h;exact⟨_,by simp only[lk,AAd];rfl⟩
             have R:(lk c σ'.objs).isNone=true/\ys.isEmpty=false:=⟨by rw[hx.objs,N];exact aa.1,aa.2⟩;rw[DO R];cases h;refine⟨_,rfl,r9 (en:=[(c,_)]) (new:=[(c,_),(n,_)]) hx ha J (λq a=>by cases a) (λs v h=>?_) (λq o a=>?_)⟩
             .simp only[lk]at h;split at h
              .rename_i e1;rw[e1];exact I
              cases h
             simp only[lk]at a;split at a
             .rename_i e1;rw[e1];exact N
             split at a
             .rename_i e1;rw[e1];cases D:lk n X.objs with
              | none=>rfl
              | some w=>exact absurd J (ha.nm n w D)
             cases a
            cases h
           cases h
          cases h
         cases h
        cases h
       cases h
      cases h
     cases h
    .rename_i v A F;rw[A,F]at f;split at h
     .rename_i c ;have I:=hd c rfl;split at h
      .rename_i K;unfold eD at h;split at h
       .rename_i m E am bb offs el b U;unfold Sw at h;split at h
        .rename_i ti ai Y k e ys h1 B;split at h
         .rename_i p;unfold Sv at h;split at h
          .rename_i G;have N:lk c X.objs=none:=by
            refine Q c ?_;cases h;exact⟨_,by simp only[lk,AAd];rfl⟩
           have R:(lk c σ'.objs).isNone=true:=by rw[hx.objs,N];exact G.1
           have ab:=hx.some_lk ha B;refine⟨?_,λax=>by simp[aq,EO,E6,Dg,L,A,P,F,K,E5,Q1,ab,DA];split<;>simp[Fj]⟩;cases h;simp only[H0,EP,E9,Ek,L,A,P,F,eD,Sw,Sv];rw[DO K,U];simp only;rw[ab,h1];simp only;rw[DO p,DO ⟨R,G.2⟩];exact⟨_,rfl,r8 hx ha (λq a=>f q (by simp only[LG,B,DA,AAd];exact a)) I N⟩
          cases h
         cases h
        cases h
       cases h
      cases h
     cases h
    cases h
   cases h
end
end
section
open Go Go.RowKit
def A0u (o:Obj):Bool:=L1 o
def L3 (o:Oper):EN->Bool
 | []=>true
 | (d,_,_) :: r=>!AU d (Hc o.op)&&!AU d o.dst.toList&&L3 o r
def Uj (ns:List Nat) (σ:List (Nat×Obj)):List (Nat×Obj)->Bool
 | []=>true
 | (n,o) :: r=>(lk n σ).isNone&&!AU n ns&&A0u o&&Uj ns σ r
def IE (ns:List Nat) (σ:List (Nat×Obj)):EN->Bool
 | []=>true
 | (_,_,obs) :: r=>Uj ns σ obs&&IE ns σ r
def bJ (τ:List (Nat×Obj)):List (Nat×Obj)->Bool
 | []=>true
 | (n,_) :: r=>(lk n τ).isNone&&bJ τ r
def TG (τ:List (Nat×Obj)):EN->Bool
 | []=>true
 | (_,_,obs) :: r=>bJ τ obs&&TG τ r
def IG (ns:List Nat):EN->EN
 | []=>[]
 | (d,v,obs) :: r=>(d,v.fgt ns,obs) :: IG ns r
def tn (σ:St) (o:Op):List Nat:=DU σ o++fY (DN (DU σ o) σ) o
theorem Gm {o:Oper}:∀ {ens:EN},L3 o ens=true->∀e∈ens,e.1∉Hc o.op/\o.dst≠some e.1
 | [],_,e,a=>by cases a
 | (d,v,obs) :: r,h,e,a=>by
  simp only[L3,An,Sa]at h;rcases At.1 a with rfl|a
  .grind [Aa,AU]
  exact Gm h.2 e a
theorem QD {ns:List Nat} {σ:List (Nat×Obj)}:∀ {l:List (Nat×Obj)},Uj ns σ l=true->∀p∈l,lk p.1 σ=none/\p.1∉ns/\A0u p.2=true
 | [],_,e,b=>by cases b
 | (n,o) :: r,h,p,a=>by
  simp only[Uj,An,Sa,AA3]at h;rcases At.1 a with rfl|a
  .grind [Aa]
  exact QD h.2 p a
theorem Gn {ns:List Nat} {σ:List (Nat×Obj)}:∀ {ens:EN},IE ns σ ens=true->∀e∈ens,∀p∈e.2.2,lk p.1 σ=none/\p.1∉ns/\A0u p.2=true
 | [],_,e,a=>by cases a
 | (d,v,obs) :: r,h,e,a=>by
  simp only[IE,An]at h;rcases At.1 a with rfl|a
  .exact QD h.1
  exact Gn h.2 e a
theorem TH {τ:List (Nat×Obj)}:∀ {l:List (Nat×Obj)},bJ τ l=true->∀p∈l,lk p.1 τ=none
 | [],_,e,b=>by cases b
 | (n,o) :: r,h,p,a=>by
  simp only[bJ,An,AA3]at h;rcases At.1 a with rfl|a
  .exact h.1
  exact TH h.2 p a
theorem OX {τ:List (Nat×Obj)}:∀ {ens:EN},TG τ ens=true->∀e∈ens,∀p∈e.2.2,lk p.1 τ=none
 | [],_,e,a=>by cases a
 | (d,v,obs) :: r,h,e,a=>by
  simp only[TG,An]at h;rcases At.1 a with rfl|a
  .exact TH h.1
  exact OX h.2 e a
theorem OY {ns:List Nat}:∀ {ens:EN},IG ns ens=ens->∀e∈ens,e.2.1.fgt ns=e.2.1
 | [],_,e,a=>by cases a
 | (d,v,obs) :: r,h,e,a=>by
  simp only[IG,AB4,AC2,and_true,true_and]at h;rcases At.1 a with rfl|a
  .exact h.1
  exact OY h.2 e a
section
variable {c:Cx} {o:Oper} {σ:St} {ens:EN} {N:St->Prop}
theorem fZ {X:St} {ns:List Nat} (b:XIn ens X) (hn:IE ns σ.objs ens=true) (hf:IG ns ens=ens):ID X σ ns:=by
 refine⟨λs v hs=>?_,λn o a=>?_,λn o a=>?_,λn o a=>?_⟩
 .obtain⟨obs,d⟩:=b.env s v hs;exact OY hf _ d
 all_goals
  obtain⟨e,c,f⟩:=b.objs n o a;have:=Gn hn e c _ f
 .exact this.2.2
 .exact this.1
 exact this.2.1
theorem Y4 (aa:c.Ok) {τ:St} {vc:Prop} (ns:List Nat) (h:Ip c.tb o σ=some (vc,τ)) (T:tn σ o.op=ns) (K:L3 o ens=true) (hn:IE ns σ.objs ens=true) (R:TG τ.objs ens=true) (hf:IG ns ens=ens) (hd:H8 c.nt o=true) (ab:vc) (Z:N τ):RR c o σ ens N:=by
 subst T;intro X σ' hx j a w next Q hs hk
 have ha:=fZ j hn hf;have E:∀t∈Hc o.op,lk t X.env=none:=λt ht=>by
  cases g:lk t X.env with
  | none=>rfl
  | some v=>obtain⟨obs,f⟩:=j.env t v g;exact absurd ht (Gm K _ f).1
 have C:∀t,o.dst=some t->lk t X.env=none:=λt ht=>by
  cases g:lk t X.env with
  | none=>rfl
  | some v=>obtain⟨obs,f⟩:=j.env t v g;exact absurd ht (Gm K _ f).2
 have F:∀n,(∃u,lk n τ.objs=some u)->lk n X.objs=none:=λn hu=>by
  cases g:lk n X.objs with
  | none=>rfl
  | some v =>
   obtain⟨e,P,k⟩:=j.objs n v g;obtain⟨u,hu⟩:=hu;rw[OX R e P _ k]at hu;cases hu
 have W:=fX hx ha (op:=o.op) (bH hx E);obtain⟨b,y⟩:=WH (l:=DU σ o.op) hx ha (λm f=>by simp[tn,f]);have key:∃q,Ip c.tb o σ'=some (vc,q)/\Q2 τ q X:=by
  have G:∀n∈fY (DN (DU σ o.op) σ) o.op,n∈tn σ o.op:=λm f=>by simp[tn,f]
  unfold Ip VQ at h ⊢;rw[W];generalize DN (DU σ o.op) σ=A at h b y G;generalize DN (DU σ o.op) σ'=B at b;have J:=bH b E;cases z:aq c.tb A (o.dst.getD 0) o.op with
  | some r =>
   obtain⟨ad,v,obs⟩:=r;rw[z]at h;have V:=Ub (b.obs y) (λx hx v Y=>by rw[J x hx];exact Y) z;rw[V];simp only[PR]at h ⊢;split at h
   .rename_i H;cases h;have I:∀n,lk n (A.add v obs o.dst).objs=(lk n obs).or (lk n A.objs):=λn=>by cases o.dst<;>simp only[St.add,A7]
    have U:∀n,lk n (B.add v obs o.dst).objs=(lk n obs).or (lk n B.objs):=λn=>by cases o.dst<;>simp only[St.add,A7]
    have D:∀n u,lk n obs=some u->lk n X.objs=none:=λn u hu=>F n ⟨u,by rw[I,hu];rfl⟩;have S:Bg obs B=true:=by
     simp only[Bg,NO,AA3]at H ⊢;intro p k;obtain⟨u,hu⟩:=M4 k;rw[b.objs,D _ u hu,H p k];rfl
    rw[DO S];refine⟨_,rfl,λs=>?_,λn=>?_⟩
    .cases O:o.dst with
     | none=>simp only[St.add];exact b.env s
     | some d =>
      simp only[St.add,lk];by_cases i:s=d
      .rw[DO i,DO i,i,C d O];rfl
      rw[BY i,BY i];exact b.env s
    rw[I,U,b.objs];cases hu:lk n obs with
    | none=>rfl
    | some u=>rw[D n u hu];rfl
   cases h
  | none =>
   rw[z]at h;simp only[PR]at h;obtain⟨⟨q,h1,L⟩,M⟩:=wN b y J G C F h;rw[M];simp only[PR];exact⟨q,h1,L⟩
 grind [Ve,CX]
theorem f5 {σ σ':St}:∀ {xs:List Operand},wM σ σ' xs->JO σ' xs=JO σ xs
 | [],_=>rfl
 | x :: r,h=>by
  simp only[JO];rw[h x sc,f5 (λy hy=>h y (by simp[hy]))]
theorem bK {σ σ':St} (h:dZ σ σ') {ren:List (Nat×B0)} {x y:AV} (a:IB σ ren x y):IB σ' ren x y:=by
 cases y<;>first|exact a|exact FB h a
theorem Ni {σ σ':St} (h:dZ σ σ') {ren:List (Nat×B0)}:∀ {l r:List AV},BU σ ren l r->BU σ' ren l r
 | [],[],_=>trivial
 | [],_ :: _,a=>a.elim
 | _ :: _,[],a=>a.elim
 | _ :: _,_ :: _,a=>⟨bK h a.1,Ni h a.2⟩
theorem Nj {l l':List (Nat×Obj)} (h:∀n o,lk n l=some o->lk n l'=some o) {ren:List (Nat×B0)}:∀ {r:List (Nat×Obj)},Ad l ren r->Ad l' ren r
 | [],_=>trivial
 | (m,o) :: r,a=>by
  refine⟨?_,Nj h a.2⟩;have h1:=a.1;cases hf:lk m ren with
  | none=>rw[hf]at h1;exact h1.elim
  | some f =>
   rw[hf]at h1;cases f with
   | nil=>exact h1
   | nm n =>
    simp only[HA]at h1 ⊢;cases hn:lk n l with
    | none=>rw[hn]at h1;simp only[JL]at h1
    | some x=>rw[h n x hn,<-hn];exact h1
theorem A0v (m:Nat) {b τ:St} (g:RR c o σ ens (λd=>d=τ)) (hn:IE [m] τ.objs ens=true) (hf:IG [m] ens=ens) (l:frz m τ=b) (i:N b):RR c o σ ens N:=by
 intro X σ' hx e a w next Q hs hk
 refine g X σ' hx e a w next Q hs ?_
 rintro n rfl f w' d k j;refine hk b i f w' (frz m d) ?_ ?_
 .rw[<-l];exact(r7 k (fZ e hn hf) sc).1
 obtain⟨ρ,h⟩:=j;exact⟨ρ,rD h m⟩
theorem wP (ae:c.Ok) {dst:Option Nat} {g:Operand} {xs:List Operand} {ts:Array TypeId} {ty:TypeId} {pos:String} {after:Array Edge}
  {f:FuncId} {C:List Nat} (ah:DZ (Aq σ g)=some (f,C)) {as:List AV} (ad:JO σ xs=some as)
  {A:List AV} {objs:List (Nat×Obj)} {stay:List Nat} {post:AV->List (Nat×Obj)->Prop} (Z:BT c.P f A objs stay post)
  (ren:List (Nat×B0)) (hs:List Nat) (h1:CC ren=true) (U:CR objs ren=true) (ak:(c.ds.pin.all λp=>!AU p.1 hs)=true)
  (H:L3 ⟨dst,.call ⟨.value g,xs.toArray,ts⟩,ty,pos,after,none⟩ ens=true) (hn:IE (Aj ren) σ.objs ens=true) (hf:IG hs ens=ens) (hd:H8 c.nt ⟨dst,.call ⟨.value g,xs.toArray,ts⟩,ty,pos,after,none⟩=true)
  (Y:BU σ ren (as++C.map λn=>AV.bp n [] 0) A) (aa:Ad σ.objs ren objs)
  (hk:∀res r,post res r->∃(m:List (Nat×B0)) (x:AV) (j:List (Nat×Obj)),CC m=true/\CR j m=true/\Ad r m j/\Bz m res x /\
   Iv ren m stay hs=true/\FL (Aj ren) j σ.objs=true/\TG j ens=true/\N (CY σ (Aj ren) hs dst x j)) :
  RR c ⟨dst,.call ⟨.value g,xs.toArray,ts⟩,ty,pos,after,none⟩ σ ens N:=by
 intro X σ' hx l a w next Q am aj
 have af:∀s v,lk s X.env=some v->v.fgt hs=v:=λs v hs=>by
  obtain⟨obs,q⟩:=l.env s v hs;exact OY hf _ q
 have F:dZ σ σ':=by
  intro n o z;rw[hx.objs];cases b:lk n X.objs with
  | none=>exact z
  | some an =>
   obtain⟨e,k,i⟩:=l.objs n an b;rw[(Gn hn e k _ i).1]at z;cases z
 have ai:∀n o,lk n X.objs=some o->n∉Aj ren:=λn o B=>by
  obtain⟨e,k,i⟩:=l.objs n o B;exact(Gn hn e k _ i).2.1
 have ab:∀t∈(g :: xs).filterMap TC,lk t X.env=none:=λt ht=>by
  cases b:lk t X.env with
  | none=>rfl
  | some v =>
   obtain⟨obs,q⟩:=l.env t v b;refine absurd ?_ (Gm H _ q).1;simpa[Hc,Op.operands,Call.operands] using ht
 have ao:∀t,dst=some t->lk t X.env=none:=λt ht=>by
  cases b:lk t X.env with
  | none=>rfl
  | some v=>obtain⟨obs,q⟩:=l.env t v b;exact absurd ht (Gm H _ q).2
 have G:=bH hx ab;refine bF ae (xs:=xs) (ts:=ts) rfl rfl (by rw[G g sc];exact ah) (by rw[f5 (λy hy=>G y (by simp[hy]))];exact ad) Z ren h1 U (Ni F Y) (Nj F aa) hs ak am (CX hd) λres r i=>?_;obtain⟨m,x,j,K,L,M,O,R,D,S,T⟩:=hk res r i;have E:∀n o,lk n X.objs=some o->lk n j=none:=λn o B=>by
  obtain⟨e,k,i⟩:=l.objs n o B;exact OX S e k _ i
 refine⟨m,x,j,K,L,M,O,R,?_,λJ w' al=>aj _ T J w' _ ⟨λs=>?_,λn=>?_⟩ al⟩
 .simp only[FL,NO,UO,AA3]at D ⊢;intro p i;rcases D p i with h|h
  .exact .inl h
  right;rw[hx.objs,h];cases b:lk p.1 X.objs with
  | none=>rfl
  | some u =>
   obtain⟨aq,I⟩:=M4 i;rw[E _ u b]at I;cases I
 .have ag:lk s (CU hs σ'.env)=(lk s X.env).or (lk s (CU hs σ.env)):=by
   rw[El,El,hx.env];cases b:lk s X.env with
   | none=>rfl
   | some v=>simp[af s v b]
  simp only[CY];cases dst with
  | none=>exact ag
  | some d =>
   simp only[Lx,lk];by_cases ap:s=d
   .grind
   grind
 simp only[CY,A7,B7,hx.objs];cases b:lk n X.objs with
 | none=>simp
 | some u =>
  have W:L1 u=true:=by
   obtain⟨e,k,i⟩:=l.objs n u b;exact(Gn hn e k _ i).2.2
  have V:¬AU n (Aj ren)=true:=λh=>ai n _ b ((Aa _ _).1 h);rw[E n _ b,BY V];exact oN some (Y3 W)
end
section
variable {c:Cx} {ops:List Oper} {Kf:St->Prop} {τ:St} {ens:EN} {vc:Prop}
theorem A0w {D:List Nat} (h:lM c.tb ops τ.objs D [] τ.env=some (vc,ens)) (b:vc) (a:P0 ens τ.objs=true) (hk:Kf (Ik ens τ)):zM c ops Kf [] D ens τ:=⟨⟨vc,h,b,a⟩,hk⟩
theorem A0x {A D:List Nat} {l:Nat} {b:List (List Nat×Nat)} {o:Oper} {d:St} {a:EN} (h:lM c.tb ops τ.objs (A++qs b D) [] τ.env=some (vc,ens)) (j:vc) (g:P0 ens τ.objs=true) (i:ops[l]?=some o) (k:Ik (ens.take A.length) τ=d) (f:ens.drop A.length=a)
  (e:RR c o d a (λm=>zM c ops Kf b D a m)):zM c ops Kf ((A,l) :: b) D ens τ:=by
 subst k f;exact⟨⟨vc,h,j,g⟩,o,i,e⟩
end
end
section
open Go
attribute [local go_sem] rG AN List.toList_toArray B1 evG evK YK FF Lg It Ha Ip VQ PR DU Dj PP DM DN frz vE G8 DW BC GJ Bj AV.frz AV.frzs AV.drp AV.drps AV.names AV.namess aq G9 LU LV VL KK Bp B3 K8 Eu KN Ew KP KO KQ YI So Hz Mn GL Ej YJ Tv qUn K9 Jg OB Fi EM KR LY E4 VN Dg E5 Fj Tw Jh PN Fk PM Sq Tx Na KS LZ E6 EO H0 ER JE Dh Fl Di E7 Gi DM DA Q1 Tu Q8 HT KM KL LX Su VO PO OG OD Lc VP OE Ld eD Sw Sv AV.trn AV.trns FI DT Obj.trn LG mT EP E9 Ek E8 Ck Fm Aq lk Il HN JC bin vC aF vH VM zK zL pfs AV.cells CM K7 Q7 Lb Ss Ca PK Ty.cell1 KJ FJ EL Gg NR E3 LQ NZ Q6 Gf HS OA VJ YH NQ LP d8 lO VK Im DB Hy RV.flat Ty.flat Ty.size St.add upd del Bg Value.oneCell' LT Ty.dflt KH Ua Jm Ug List.take_succ_cons List.take_zero List.length_cons rK rO Uf Lv Py Jo M2 A4u Hb Pl Pm Pn Po Vi Vj Pp Kb bB Option.map_some Option.map_none Option.bind_some Option.getD_some Option.getD_none Option.isNone_none Option.isNone_some Bool.and_true Bool.true_and Bool.and_false Bool.false_and Bool.not_true Bool.not_false if_true if_false List.length_cons List.length_nil and_true true_and and_self List.all_cons List.all_nil List.append_nil List.nil_append List.cons_append List.getElem?_cons_zero List.getElem?_cons_succ List.getElem?_nil List.map_cons List.map_nil List.set_cons_zero List.set_cons_succ List.isEmpty_nil List.isEmpty_cons decide_true decide_false beq_self_eq_true bne_self_eq_false Nat.zero_add Nat.add_zero Nat.sub_zero Int.toNat_natCast Int.toNat_zero Int.toNat_one List.take_length List.length_append List.length_singleton true_or or_true or_self false_or or_false Ty.agg.injEq Ty.slice.injEq Ty.prod.injEq Ty.int.injEq Option.some.injEq beq_iff_eq Mz evMG evMQ opM JN Nh B8 LF Hc TC LE JM Kd My Ls RJ Pu RK Vm Pt Uc Ud Mx AU Ak Op.operands Call.operands List.filterMap_cons List.filterMap_nil List.append_eq Bool.cond_false_right Bool.cond_true_left cond_true cond_false implies_true decide_eq_true_eq beq_true beq_false Bool.or_true Bool.or_false Bool.true_or Bool.false_or Option.isSome_some Array.empty_append List.append_toArray GK PQ Fq Io eC Sr Gh Hn Hm Ji JD La OC aG vF Ii inB Le Ge HV Lf A1 rT List.drop_zero Dl Iw fR CY Lx CU AV.fgt AV.fgts Obj.fgt Ay Aj AU DZ JO BU IB List.any_cons List.any_nil lM mP fS mQ Ik P0 qs List.flatMap_cons List.flatMap_nil List.cons_append tn fY IG List.take_succ_cons List.drop_succ_cons CC CR Ad Fv Lo Bz Fu ET JK Ka HA JL
end
end Go.Proofs.YtapkhdkbkodbjaaGreat.Fw
