/- Regions in which operations on memory float among quiet ones. -/
import Derived.Test.YtapkhdkbkodbjaaGreatDZG
set_option linter.unusedVariables false
set_option linter.unusedSimpArgs false
namespace Go.Proofs.YtapkhdkbkodbjaaGreat.Fw
section
open Go Go.RowKit
abbrev EN:=List (Nat×AV×List (Nat×Obj))
def fJ (x:Option Oper) (f:Oper->Option (Prop×EN)):Option (Prop×EN) :=
 match x with
 | some o=>f o
 | none=>none
def aY (d:Option Nat) (r:BU) (f:Nat->Prop->AV->List (Nat×Obj)->Option (Prop×EN)):Option (Prop×EN) :=
 match d,r with
 | some d,some (vc,v,obs)=>f d vc v obs
 | _,_=>none
def fL (d:Nat) (vc:Prop) (v:AV) (obs:List (Nat×Obj)) (r:Option (Prop×EN)):Option (Prop×EN) :=
 match r with
 | some (a,l)=>some (vc/\a,(d,v,obs) :: l)
 | none=>none
def mM (tb:Tb) (ops:List Oper) (base:List (Nat×Obj)):List Nat->List (Nat×List (Nat×Obj))->List (Nat×AV)->Option (Prop×EN)
 | [],_,_=>some (True,[])
 | i :: Q,E,env=>fJ (ops[i]?) λo=>aY o.dst (aq tb ⟨env,L2 false o.op base E⟩ (o.dst.getD 0) o.op) λd vc v obs=>fL d vc v obs (mM tb ops base Q (Jy d obs E) ((d,v) :: env))
def L9:EN->St->St
 | [],σ=>σ
 | (d,v,obs) :: r,σ=>L9 r ⟨(d,v) :: σ.env,obs++σ.objs⟩
def R1:EN->List (Nat×Obj)->Bool
 | [],_=>true
 | (_,_,obs) :: r,objs=>(obs.all λp=>(lk p.1 objs).isNone)&&R1 r (obs++objs)
def A9w (tb:Tb) (ops:List Oper) (Q:List Nat) (ens:EN) (τ:St):Prop:=∃vc:Prop,mM tb ops τ.objs Q [] τ.env=some (vc,ens)/\vc/\R1 ens τ.objs=true
def qs (a:List (List Nat×Nat)) (D:List Nat):List Nat:=(a.flatMap (·.1))++D
def qB1 (ops:List Oper) (anc:List (List Nat)) (L Q:List Nat):List Nat->List Nat->Bool
 | [],_=>true
 | i :: r,pre=>(match ops[i]? with
   | some o=>o.dst.isSome&&o.guard.isNone&&((EE o).all λe=>Aa e L||Aa e pre)&&((HK o.op).all λt=>Q.all λj=>Al ops j != some t||(Aa j (anc.getD i [])&&Aa j pre))&&(pre.all λj=>Al ops j != o.dst)&&!Aa i L&&!Aa i pre
   | none=>false)&&qB1 ops anc L Q r (i :: pre)
def UP (ops:List Oper) (anc:List (List Nat)) (p0:Nat):List Nat->List (List Nat×Nat)->List Nat->Bool
 | L,[],D=>qB1 ops anc L D D []&&((List.range p0).all λi=>Aa i L||Aa i D)&&decide (L.length+D.length=p0)&&decide (p0<=ops.length)&&(L.all λi=>decide (i<p0))&&(D.all λi=>decide (i<p0))&&((List.range ops.length).all λi=>decide (i<p0)||(List.range i).all λj=>Aa j (anc.getD i []))
 | L,(A,l) :: a,D=>qB1 ops anc L (A++qs a D) (A++qs a D) []&&(match ops[l]? with
   | some o=>o.guard.isNone&&((EE o).all λe=>Aa e L||Aa e A)&&(A.all λj=>Aa j (anc.getD l []))&&!Aa l L&&!Aa l (A++qs a D)
   | none=>false)&&(a.all λp=>Aa l (anc.getD p.2 []))&&UP ops anc p0 (l :: (A++L)) a D
def A9x (ops:List Oper) (anc:List (List Nat)):Bool :=
 (List.range ops.length).all λi=>match ops[i]? with|some o=>((EE o).all λe=>decide (e<i))&&((anc.getD i []).all λj=>Aa j (EE o)||(EE o).any λe=>Aa j (anc.getD e []))|none=>false
structure Rd (σ σ' X:St):Prop where
 env:∀s,lk s σ'.env=(lk s X.env).or (lk s σ.env)
 objs:∀n,lk n σ'.objs=(lk n X.objs).or (lk n σ.objs)
structure XIn (ens:EN) (X:St):Prop where
 env:∀s v,lk s X.env=some v->∃obs,(s,v,obs)∈ens
 objs:∀n o,lk n X.objs=some o->∃e∈ens,(n,o)∈e.2.2
def YI (c:Cx) (o:Oper) (σ:St) (ens:EN) (N:St->Prop):Prop :=
 ∀(X σ':St),Rd σ σ' X->XIn ens X->∀(a:Act) (w:World) (next:Act->World->Prop) (Q:Exit->Act->World->Prop),c.sat σ' a w ->
  (∀τ,N τ->∀(b:Act) (w':World) (d:St),Rd τ d X->c.sat d b w'->next b w')->o.wpIn (FR c.r) 0 c.P a w next Q
def Mix (c:Cx) (ops:List Oper) (Kf:St->Prop):List (List Nat×Nat)->List Nat->EN->St->Prop
 | [],D,ens,τ=>A9w c.tb ops D ens τ/\Kf (L9 ens τ)
 | (A,l) :: a,D,ens,τ=>A9w c.tb ops (A++qs a D) ens τ/\∃o,ops[l]?=some o/\YI c o (L9 (ens.take A.length) τ) (ens.drop A.length) (λb=>Mix c ops Kf a D (ens.drop A.length) b)
def Og (Q:List Nat) (ens:EN) (i:Nat):En :=
 match lk i (Q.zip ens) with
 | some (_,v,obs)=>⟨true,v,obs⟩
 | none=>⟨true,.top,[]⟩
section
variable {ops:List Oper} {en:Nat->En} {τ:St}
theorem R2:∀(l:List Nat),(Aq ops en τ l).env=(Aq ops en ⟨[],[]⟩ l).env++τ.env
 | []=>rfl
 | i :: r=>by
  simp only[Aq];cases Al ops i with
  | none=>simp only[St.add];exact R2 r
  | some d=>simp only[St.add,AE6];rw[R2 r]
theorem mN (l:List Nat):(Aq ops en τ l).objs=(Aq ops en ⟨[],[]⟩ l).objs++τ.objs:=by
 rw[FY,FY];simp
theorem A2v (l:List Nat):Rd τ (Aq ops en τ l) (Aq ops en ⟨[],[]⟩ l) :=
 ⟨λs=>by rw[R2,A5],λn=>by rw[mN,A5]⟩
structure Own (ops:List Oper) (en:Nat->En) (τ:St) (Q:List Nat):Prop where
 slot:∀i∈Q,∀j∈Q,∀s,Al ops i=some s->Al ops j=some s->i=j
 new:∀i∈Q,∀n o,lk n (en i).obs=some o->lk n τ.objs=none
 name:∀i∈Q,∀j∈Q,∀n o o',lk n (en i).obs=some o->lk n (en j).obs=some o'->i=j
theorem lkE {Q l:List Nat} (h:Own ops en τ Q) (hl:∀i∈l,i∈Q) (s:Nat) (v:AV):lk s (Aq ops en τ l).env=some v↔(∃i∈l,Al ops i=some s/\(en i).v=v)\/((∀i∈l,Al ops i≠some s)/\lk s τ.env=some v):=by
 rw[FZ];cases hf:l.find? (λj=>Al ops j==some s) with
 | none =>
  have hn:∀i∈l,Al ops i≠some s:=λi hi=>by simpa using AFj.1 hf i hi
  constructor
  .grind
  grind
 | some j =>
  have b:=AEQ hf;have a:Al ops j=some s:=by simpa using AFB hf
  constructor
  .grind
  rintro (⟨i,hi,c,rfl⟩|⟨hn,_⟩)
  .rw[h.slot i (hl i hi) j (hl j b) s c a]
  exact absurd a (hn j b)
theorem lkO {Q l:List Nat} (h:Own ops en τ Q) (hl:∀i∈l,i∈Q) (n:Nat) (o:Obj):lk n (Aq ops en τ l).objs=some o↔(∃i∈l,lk n (en i).obs=some o)\/((∀i∈l,lk n (en i).obs=none)/\lk n τ.objs=some o):=by
 rw[FY,A5];cases hf:lk n (l.flatMap λj=>(en j).obs) with
 | some d =>
  obtain⟨j,c,a⟩:=qL hf;simp only[AFo];constructor
  .grind
  rintro (⟨i,hi,b⟩|⟨hn,_⟩)
  .have:=h.name i (hl i hi) j (hl j c) n o d b a;subst this;rw[<-a,b]
  rw[hn j c]at a;cases a
 | none =>
  have hn:=K0 hf;simp only[Option.none_or];constructor
  .grind
  grind
theorem A05 {Q l A:List Nat} (h:Own ops en τ Q) (hl:∀i∈l,i∈Q) (g:∀i∈A,i∈l):Rd (Aq ops en τ A) (Aq ops en τ l) (Aq ops en ⟨[],[]⟩ (l.filter λi=>!Aa i A)):=by
 have h0:Own ops en ⟨[],[]⟩ Q:=⟨h.slot,λ_ _ _ _ _=>rfl,h.name⟩;have hf:∀i∈l.filter (λi=>!Aa i A),i∈Q:=λi hi=>hl i (ADR.1 hi).1;have k:∀i∈A,i∈Q:=λi hi=>hl i (g i hi);have f:∀i,i∈l.filter (λi=>!Aa i A)↔i∈l/\i∉A:=λi=>by grind [Am,Aa]
 refine⟨λs=>AFr λv=>?_,λn=>AFr λo=>?_⟩
 .rw[lkE h hl,Option.or_eq_some_iff,lkE h0 hf,lkE h k];constructor
  .rintro (⟨i,hi,c,a⟩|⟨hn,a⟩)
   .by_cases b:i∈A
    .refine .inr ⟨?_,.inl ⟨i,b,c,a⟩⟩;cases hx:lk s (Aq ops en ⟨[],[]⟩ (l.filter λi=>!Aa i A)).env with
     | none=>rfl
     | some u =>
      rcases (lkE h0 hf s u).1 hx with ⟨j,d,e,_⟩|⟨_,hx⟩
      .have:=h.slot i (hl i hi) j (hf j d) s c e;subst this;exact absurd b ((f i).1 d).2
      cases hx
    exact .inl (.inl ⟨i,(f i).2 ⟨hi,b⟩,c,a⟩)
   refine .inr ⟨?_,.inr ⟨λi hi=>hn i (g i hi),a⟩⟩;cases hx:lk s (Aq ops en ⟨[],[]⟩ (l.filter λi=>!Aa i A)).env with
   | none=>rfl
   | some u =>
    rcases (lkE h0 hf s u).1 hx with ⟨j,d,e,_⟩|⟨_,hx⟩
    .exact absurd e (hn j ((f j).1 d).1)
    cases hx
  rintro ((⟨i,hi,c,a⟩|⟨_,a⟩)|⟨hx,⟨i,hi,c,a⟩|⟨hn,a⟩⟩)
  .grind
  .cases a
  .grind
  refine .inr ⟨λi hi c=>?_,a⟩;by_cases b:i∈A
  .exact hn i b c
  have:=(lkE h0 hf s (en i).v).2 (.inl ⟨i,(f i).2 ⟨hi,b⟩,c,rfl⟩);rw[hx]at this;cases this
 rw[lkO h hl,Option.or_eq_some_iff,lkO h0 hf,lkO h k];constructor
 .rintro (⟨i,hi,a⟩|⟨hn,a⟩)
  .by_cases b:i∈A
   .refine .inr ⟨?_,.inl ⟨i,b,a⟩⟩;cases hx:lk n (Aq ops en ⟨[],[]⟩ (l.filter λi=>!Aa i A)).objs with
    | none=>rfl
    | some u =>
     rcases (lkO h0 hf n u).1 hx with ⟨j,d,e⟩|⟨_,hx⟩
     .have:=h.name i (hl i hi) j (hf j d) n _ _ a e;subst this;exact absurd b ((f i).1 d).2
     cases hx
   exact .inl (.inl ⟨i,(f i).2 ⟨hi,b⟩,a⟩)
  refine .inr ⟨?_,.inr ⟨λi hi=>hn i (g i hi),a⟩⟩;cases hx:lk n (Aq ops en ⟨[],[]⟩ (l.filter λi=>!Aa i A)).objs with
  | none=>rfl
  | some u =>
   rcases (lkO h0 hf n u).1 hx with ⟨j,d,e⟩|⟨_,hx⟩
   .rw[hn j ((f j).1 d).1]at e;cases e
   cases hx
 rintro ((⟨i,hi,a⟩|⟨_,a⟩)|⟨hx,⟨i,hi,a⟩|⟨hn,a⟩⟩)
 .grind
 .cases a
 .grind
 refine .inr ⟨λi hi=>?_,a⟩;by_cases b:i∈A
 .exact hn i b
 cases c:lk n (en i).obs with
 | none=>rfl
 | some u =>
  have:=(lkO h0 hf n u).2 (.inl ⟨i,(f i).2 ⟨hi,b⟩,c⟩);rw[hx]at this;cases this
end
def A2y (tb:Tb) (ops:List Oper) (τ:St) (en:Nat->En) (pre:List Nat) (i:Nat) (o:Oper):Prop :=
 ∃vc:Prop,aq tb ⟨(Aq ops en τ pre).env,B4 false (HK o.op) τ.objs (ES ops en pre)⟩ (o.dst.getD 0) o.op=some (vc,(en i).v,(en i).obs)/\vc
theorem fO {ts:List Nat} {base:List (Nat×Obj)} {d:Nat} {obs:List (Nat×Obj)} {E:List (Nat×List (Nat×Obj))}:B4 false ts base (Jy d obs E)=B4 false ts base ((d,obs) :: E):=by
 cases obs with
 | nil=>simp only[Jy,B4,ADP];split<;>rfl
 | cons x r=>rfl
theorem A2z {o:Op} {base:List (Nat×Obj)} {E:List (Nat×List (Nat×Obj))}:L2 false o base E=B4 false (HK o) base E:=by
 cases E<;>rfl
theorem Yp {tb:Tb} {ops:List Oper} {τ:St} {en:Nat->En}:∀ {Q:List Nat} {ens:EN} {pre:List Nat} {E:List (Nat×List (Nat×Obj))} {vc:Prop},mM tb ops τ.objs Q E (Aq ops en τ pre).env=some (vc,ens)->vc ->
  (∀ts,B4 false ts τ.objs E=B4 false ts τ.objs (ES ops en pre))->(∀(j i:Nat) (e:Nat×AV×List (Nat×Obj)),Q[j]?=some i->ens[j]?=some e->en i=⟨true,e.2.1,e.2.2⟩) ->
  ens.length=Q.length/\∀(j i:Nat),Q[j]?=some i->∃(o:Oper) (e:Nat×AV×List (Nat×Obj)),ops[i]?=some o/\ens[j]?=some e/\Al ops i=some e.1/\A2y tb ops τ en ((Q.take j).reverse++pre) i o
 | [],ens,pre,E,vc,h,q,g,m=>by grind [mM]
 | i :: Q,ens,pre,E,vc,h,q,g,m=>by
  simp only[mM]at h;cases b:ops[i]? with
  | none=>rw[b]at h;simp[fJ]at h
  | some o =>
   rw[b]at h;simp only[fJ]at h;cases a:o.dst with
   | none=>rw[a]at h;simp[aY]at h
   | some d =>
    cases c:aq tb ⟨(Aq ops en τ pre).env,L2 false o.op τ.objs E⟩ (o.dst.getD 0) o.op with
    | none=>rw[c,a]at h;simp[aY]at h
    | some r =>
     obtain⟨y,v,obs⟩:=r;rw[c,a]at h;simp only[aY]at h;cases n:mM tb ops τ.objs Q (Jy d obs E) ((d,v) :: (Aq ops en τ pre).env) with
     | none=>rw[n]at h;simp[fL]at h
     | some p =>
      obtain⟨A,z⟩:=p;rw[n]at h;simp only[fL]at h;cases h;have hi:=m 0 i (d,v,obs) rfl rfl;have l:Al ops i=some d:=by simp[Al,b,a]
      have w:(Aq ops en τ (i :: pre)).env=(d,v) :: (Aq ops en τ pre).env:=by simp[Aq,l,St.add,hi]
      have s:=Yp (pre:=i :: pre) (by rw[w];exact n) q.2 (λts=>by
       rw[fO];simp only[ES,RS,l,AF4,hi,B4];rw[g ts];rfl) (λj k e h1 f=>m (j+1) k e (by simpa using h1) (by simpa using f))
      refine⟨by simp[s.1],λj k hk=>?_⟩;cases j with
      | zero =>
       simp only[AEE,ADj]at hk;subst hk;refine⟨o,(d,v,obs),b,rfl,l,y,?_,q.1⟩;rw[A2z,g]at c;simp only[ADl,List.reverse_nil,ADP];rw[hi];exact c
      | succ j =>
       obtain⟨x,e,h1,f,t,u⟩:=s.2 j k (by simpa using hk);refine⟨x,e,h1,by simpa using f,t,?_⟩;simpa[ADw] using u
theorem R3:∀ {ens:EN} {objs:List (Nat×Obj)},R1 ens objs=true->∀(j:Nat) (e:Nat×AV×List (Nat×Obj)),ens[j]?=some e->∀n o,lk n e.2.2=some o->lk n objs=none/\∀(b:Nat) (a:Nat×AV×List (Nat×Obj)) (c:Obj),ens[b]?=some a->lk n a.2.2=some c->j=b
 | [],objs,_,j,e,h=>by simp at h
 | (d,v,obs) :: r,objs,h,j,e,f=>by
  simp only[R1,An,ON,AAh]at h;have h0:∀n o,lk n obs=some o->lk n objs=none:=λn o hn=>h.1 _ (Fu hn);have g:=R3 h.2;grind [lk,A5]
end
section
open Go Go.RowKit
structure Yq (ops:Array Oper) (anc:List (List Nat)):Prop where
 lt:∀i o,ops[i]?=some o->∀e∈EE o,e<i
 cl:∀i o,ops[i]?=some o->∀j∈anc.getD i [],j∈EE o\/∃e∈EE o,j∈anc.getD e []
theorem AAD {ops:Array Oper} {anc:List (List Nat)} (h:A9x ops.toList anc=true):Yq ops anc:=by
 simp only[A9x,ON,RY]at h;have hi:∀i o,ops[i]?=some o->((EE o).all λe=>decide (e<i))=true/\((anc.getD i []).all λj=>Aa j (EE o)||(EE o).any λe=>Aa j (anc.getD e []))=true:=by grind
 refine⟨λi o a e b=>?_,λi o a j c=>?_⟩
 .grind
 grind [Am]
section
variable {ops:Array Oper} {k:Nat} {anc:List (List Nat)} {Q:Exit->Act->World->Prop}
theorem TX (a:Yq ops anc) {listed:Array Bool} (g:∀i o,ops[i]?=some o->listed.getD i true=true->∀e∈EE o,listed.getD e false=true) :
  ∀i o,ops[i]?=some o->(∀e∈EE o,listed.getD e false=true)->∀j∈anc.getD i [],listed.getD j false=true:=by
 intro i;induction i using Nat.strongRecOn with
 | _ i l =>
  intro o b c j f;rcases a.cl i o b j f with h1|⟨e,d,h⟩
  .exact c j h1
  have k:=a.lt i o b e d;grind
theorem R4 {F:Fence} {P:Program} (f:Yq ops anc) (n:∀i o,ops[i]?=some o->k<=i->∀j,j<i->j∈anc.getD i []):∀ {rest:List Oper} {p:Nat} {listed:Array Bool} {a:Act} {w:World},ops.toList.drop p=rest->k<=p->p<=ops.size->listed.size=ops.size ->
  (∀i,i<ops.size->(listed.getD i true=true↔i<p))->wpListIn F 0 P ops Q rest a w->wpAnyIn F 0 P .any ops Q rest.length listed a w
 | [],p,listed,a,w,h,B,C,l,hl,c=>by
  have hp:p=ops.size:=by
   have:=AAc List.length h;simp at this;omega
  refine⟨?_,c⟩;apply AF3.2;grind [De]
 | o :: r,p,listed,a,w,h,B,C,l,hl,c=>by
  obtain⟨d,u⟩:=Yl h;have d:ops[p]?=some o:=by simpa using d
  have D:p<ops.size:=(Sy.1 d).1;have v:∀e b,e<ops.size->listed.getD e b=listed.getD e true:=λe b g=>by grind
  have K:∀i o,ops[i]?=some o->listed.getD i true=true->∀e∈EE o,listed.getD e false=true:=by
   intro i o t h1 e g;have G:i<ops.size:=(Sy.1 t).1;have I:=(hl i G).1 h1;have J:=f.lt i o t e g;grind
  have E:∀i,i∈Region.ready .any ops listed->i=p:=by grind [De,TX]
  refine⟨λL=>?_,λi hi=>?_⟩
  .exfalso;have:p∈Region.ready .any ops listed:=by
    rw[De];refine⟨?_,o,d,λe g=>?_⟩
    .cases hh:listed.getD p true with
     | false=>rfl
     | true=>have:=(hl p D).1 hh;omega
    have:=f.lt p o d e g;rw[v e false (by omega)];exact(hl e (by omega)).2 this
   grind
  have y:=E i hi;subst y;have s:∀(j:Nat),j<ops.size->((listed.setIfInBounds i true).getD j true=true↔j<i+1):=by
   intro j z;have A:j<listed.size:=by omega
   by_cases q:j=i
   .subst q;simp[Array.getD,A]
   have h1:(listed.setIfInBounds i true).getD j true=listed.getD j true:=getD_set_ne true (λe=>q e.symm);rw[h1,hl j z];omega
  unfold wpOpIn;rw[d];simp only;unfold wpListIn at c;split
  .rename_i m;rw[BY m]at c;exact Oper.wpIn_mono (λH w' x=>R4 f n u.symm (by omega) (by omega) (by simpa using l) s x) c
  rename_i m;rw[As m]at c;exact⟨c.1,R4 f n u.symm (by omega) (by omega) (by simpa using l) s c.2⟩
end
structure QOk (ops:List Oper) (anc:List (List Nat)) (L Q:List Nat):Prop where
 nodup:Q.Nodup
 pos:∀(j i:Nat),Q[j]?=some i->i∉L/\∃o,ops[i]?=some o/\o.guard=none/\(∀e∈EE o,e∈L\/e∈Q.take j)/\(∀t∈HK o.op,∀k∈Q,Al ops k=some t->k∈anc.getD i []/\k∈Q.take j)
 slot:∀i∈Q,∀j∈Q,∀s,Al ops i=some s->Al ops j=some s->i=j
theorem fP {ops:List Oper} {anc:List (List Nat)} {L Q:List Nat}:∀ {r pre:List Nat},qB1 ops anc L Q r pre=true ->
  (∀(j i:Nat),r[j]?=some i->i∉L/\i∉pre/\i∉r.take j/\∃o,ops[i]?=some o/\o.guard=none/\(∀e∈EE o,e∈L\/e∈pre\/e∈r.take j)/\(∀t∈HK o.op,∀k∈Q,Al ops k=some t->k∈anc.getD i []/\(k∈pre\/k∈r.take j)) /\
   ∀k,k∈pre\/k∈r.take j->Al ops k≠Al ops i)
 | [],pre,h,j,i,a=>by simp at a
 | x :: r,pre,h,j,i,a=>by
  simp only[qB1,An]at h;obtain⟨h1,s⟩:=h;cases j with
  | zero =>
   simp only[AEE,ADj]at a;subst a;cases f:ops[x]? with
   | none=>rw[f]at h1;cases h1
   | some o =>
    rw[f]at h1;simp only[An,ON,Sx,Am,AEY,RH,AAh]at h1;obtain⟨⟨⟨⟨⟨⟨A,q⟩,B⟩,C⟩,D⟩,c⟩,d⟩:=h1;refine⟨λh=>(by rw[(Am _ _).2 h]at c;cases c),λh=>(by rw[(Am _ _).2 h]at d;cases d),by simp,o,rfl,q,λe v=>?_,λt w k hk u=>?_,λk hk=>?_⟩
    .grind
    .grind
    grind [Al]
  | succ j =>
   obtain⟨g,b,l,o,m,n,y,z,p⟩:=fP s j i (by simpa using a);simp only[DO,not_or]at b;refine⟨g,b.2,by simp[ADw,b.1,l],o,m,n,λe v=>?_,λt w k hk u=>?_,λk hk=>p k ?_⟩
   .grind
   .grind
   grind
theorem fQ {α:Type} {l:List α} {i j:Nat} {x:α} (h:l[i]?=some x) (a:i<j):x∈l.take j:=by
 rw[aS];exact⟨i,by rw[Sz,BY a];exact h⟩
theorem qOk {ops:List Oper} {anc:List (List Nat)} {L Q:List Nat} (h:qB1 ops anc L Q Q []=true):QOk ops anc L Q:=by
 have hs:=fP h;have m:∀ {i j x y:Nat},Q[i]?=some x->Q[j]?=some y->i<j->x≠y/\Al ops x≠Al ops y:=by grind [fQ]
 refine⟨?_,λj i c=>?_,λi hi j c s h1 q=>?_⟩
 .rw[List.nodup_iff_pairwise_ne,RR];intro i j hi c l e;exact(m (AT hi) (AT c) l).1 e
 .obtain⟨d,_,_,o,f,g,n,p,_⟩:=hs j i c;refine⟨d,o,f,g,λe v=>?_,λt w k hk u=>?_⟩
  .grind
  grind
 obtain⟨a,ha⟩:=aS.1 hi;obtain⟨b,r⟩:=aS.1 c;grind
theorem mO:∀ {Q:List Nat} {ens:EN},Q.Nodup->∀(j i:Nat) (e:Nat×AV×List (Nat×Obj)),Q[j]?=some i->ens[j]?=some e->Og Q ens i=⟨true,e.2.1,e.2.2⟩
 | [],ens,_,j,i,e,h,_=>by simp at h
 | x :: Q,[],_,j,i,e,_,h=>by simp at h
 | x :: Q,f :: ens,hn,j,i,e,h1,a=>by
  cases j with
  | zero =>
   simp only[AEE,ADj]at h1 a;subst h1;subst a;simp[Og,AFf,lk]
  | succ j =>
   have h1:Q[j]?=some i:=by simpa using h1
   have hx:i≠x:=λe=>by grind
   have:=mO (TO.1 hn).2 j i e h1 (by simpa using a);simp only[Og,AFf,lk,As hx]at this ⊢;exact this
structure Fr (tb:Tb) (ops:List Oper) (anc:List (List Nat)) (L Q:List Nat) (ens:EN) (τ:St):Prop where
 q:QOk ops anc L Q
 len:ens.length=Q.length
 own:Own ops (Og Q ens) τ Q
 at_:∀(j i:Nat),Q[j]?=some i->∃(o:Oper) (e:Nat×AV×List (Nat×Obj)),ops[i]?=some o/\ens[j]?=some e/\Al ops i=some e.1/\Og Q ens i=⟨true,e.2.1,e.2.2⟩/\A2y tb ops τ (Og Q ens) (Q.take j).reverse i o
theorem A2A {tb:Tb} {ops:List Oper} {anc:List (List Nat)} {L Q:List Nat} {ens:EN} {τ:St} (d:QOk ops anc L Q) (h:A9w tb ops Q ens τ):Fr tb ops anc L Q ens τ:=by
 obtain⟨vc,h1,p,q⟩:=h;have t:=λ(j i:Nat) (e:Nat×AV×List (Nat×Obj))=>mO (ens:=ens) d.nodup j i e;obtain⟨hl,hf⟩:=Yp (en:=Og Q ens) (pre:=[]) h1 p (λts=>rfl) t;have k:∀i∈Q,∃(j:Nat) (e:Nat×AV×List (Nat×Obj)),Q[j]?=some i/\ens[j]?=some e/\Og Q ens i=⟨true,e.2.1,e.2.2⟩:=by
  intro i hi;obtain⟨j,c⟩:=aS.1 hi;grind
 refine⟨d,hl,⟨d.slot,λi hi n o hn=>?_,λi hi j c n o w f g=>?_⟩,λj i c=>?_⟩
 .grind [R3]
 .obtain⟨a,e,ha,r,u⟩:=k i hi;obtain⟨b,m,l,s,v⟩:=k j c;rw[u]at f;rw[v]at g;have:=(R3 q a e r n o f).2 b m w s g;subst this;rw[ha]at l;injection l
 grind
theorem A06 {ops:List Oper} {en:Nat->En} {τ:St} {Q:List Nat} (h:Own ops en τ Q) {ts pre ex:List Nat} (hp:∀j∈pre,j∈Q) (e:∀j∈ex,j∈Q) (d:∀j∈pre,Aa ((Al ops j).getD 0) ts=true->j∈ex) {n:Nat} {o:Obj} :
  lk n (B4 false ts τ.objs (ES ops en pre))=some o->lk n (Aq ops en τ ex).objs=some o:=by
 rw[lkO h e];induction pre with
 | nil =>
  simp only[ES,AEL,B4];intro hn;refine .inr ⟨λj b=>?_,hn⟩;cases a:lk n (en j).obs with
  | none=>rfl
  | some f=>have:=h.new j (e j b) n f a;rw[this]at hn;cases hn
 | cons i r c =>
  simp only[ES,RS,B4];have c:=c (λj b=>hp j (by simp[b])) (λj b=>d j (by simp[b]));split
  .rename_i g;intro hn;rw[A5]at hn;cases a:lk n (en i).obs with
   | some f =>
    rw[a]at hn;simp only[AFo]at hn;cases hn;exact .inl ⟨i,d i (by simp) (by simpa using g),a⟩
   | none =>
    rw[a]at hn;exact c (by simpa[ES] using hn)
  exact c
theorem NG {p:Nat×Obj}:∀ {l:List (Nat×Obj)},p∈l->∃b,lk p.1 l=some b
 | (c,d) :: r,h=>by
  simp only[lk];by_cases a:p.1=c
  .simp_all
  rw[As a];rcases DO.1 h with rfl|h
  .exact absurd rfl a
  exact NG h
theorem mP {c:Cx} (y:c.Ok) {ops:List Oper} {anc:List (List Nat)} {L Q:List Nat} {ens:EN} {τ:St} (hF:Fr c.tb ops anc L Q ens τ) {ex:List Nat} (h:∀i∈ex,i∈Q) {j i:Nat} {o:Oper} (m:Q[j]?=some i) (s:ops[i]?=some o) (ag:i∉ex)
  (Z:∀k∈anc.getD i [],k∈Q->k∈ex) (I:∀d,o.dst=some d->d<c.nt) {a:Act} {w:World} {next:Act->World->Prop} {Qe:Exit->Act->World->Prop} (hs:c.sat (Aq ops (Og Q ens) τ ex) a w)
  (hn:∀A w',c.sat (Aq ops (Og Q ens) τ (i :: ex)) A w'->next A w'):o.wpIn (FR c.r) 0 c.P a w next Qe:=by
 obtain⟨l,e,D,ab,Y,ak,vc,S,V⟩:=hF.at_ j i m;rw[s]at D;cases D;obtain⟨_,al,E,_,_,aj⟩:=hF.q.pos j i m;rw[s]at E;cases E;have z:∀k∈(Q.take j).reverse,k∈Q:=λk hk=>S4 (by simpa using hk);have R:Ops ⟨(Aq ops (Og Q ens) τ (Q.take j).reverse).env,B4 false (HK o.op) τ.objs (ES ops (Og Q ens) (Q.take j).reverse)⟩ (Aq ops (Og Q ens) τ ex) o.op.operands.toList:=by
  intro x hx v b;cases x with
  | tmp t =>
   simp only[Ap]at b ⊢;have ai:t∈HK o.op:=AFi.2 ⟨_,hx,rfl⟩;rw[lkE hF.own z]at b;rw[lkE hF.own h];rcases b with ⟨k,hk,ad,ae⟩|⟨ah,b⟩
   .grind
   grind
  | const am=>exact b
  | global g=>exact b
  | func f=>exact b
 have N:dU ⟨(Aq ops (Og Q ens) τ (Q.take j).reverse).env,B4 false (HK o.op) τ.objs (ES ops (Og Q ens) (Q.take j).reverse)⟩ (Aq ops (Og Q ens) τ ex):=by
  intro n l hn;refine A06 hF.own z h (λk hk af=>?_) hn;obtain⟨W,J⟩:=aS.1 (z k hk);obtain⟨_,X,_,_,aa,_⟩:=hF.at_ W k J;grind [Am]
 have T:=Ue N R S;have C:=oF m;have B:Bd (Og Q ens i).obs (Aq ops (Og Q ens) τ ex)=true:=by
  simp only[Bd,ON,AAh];intro p hp;obtain⟨l,F⟩:=NG hp;cases hl:lk p.1 (Aq ops (Og Q ens) τ ex).objs with
  | none=>rfl
  | some u =>
   rcases (lkO hF.own h p.1 u).1 hl with ⟨k,hk,M⟩|⟨_,hu⟩
   .have:=hF.own.name i C k (h k hk) p.1 l u F M;grind
   rw[hF.own.new i C p.1 l F]at hu;cases hu
 obtain⟨ρ,G⟩:=hs;refine qB (A5P y G) T V B λu ρ' w' U=>hn _ _ ?_;have H:Al ops i=o.dst:=by simp[Al,s]
 simp only[Aq,H];exact⟨ρ',G.add y.K y.O I B U⟩
end
section
open Go Go.RowKit
theorem MA:∀ {l l':List Nat},l.Nodup->(∀x∈l,x∈l')->l.length<=l'.length
 | [],_,_,_=>by simp
 | x :: l,l',hn,h=>by
  have hx:=h x (by simp);have:=MA (l:=l) (l':=l'.erase x) (TO.1 hn).2 (λy a=>by
   have:y≠x:=λe=>(TO.1 hn).1 (e▸a);exact(AF6 this).2 (h y (by simp[a])))
  grind
theorem JE (A:List Nat) (l:Nat) (a:List (List Nat×Nat)) (D:List Nat):qs ((A,l) :: a) D=A++qs a D:=by simp[qs]
structure AAE (ops:List Oper) (anc:List (List Nat)) (p0:Nat) (L:List Nat) (ps:List (List Nat×Nat)) (D:List Nat):Prop where
 all:∀i,i<p0->i∈L\/i∈qs ps D\/i∈ps.map (·.2)
 back:∀i,p0<=i->i<ops.length->∀j,j<i->j∈anc.getD i []
 L:∀i∈L,i<p0
 Q:∀i∈qs ps D,i<p0
 lo:∀p∈ps,p.2<p0
 p0:p0<=ops.length
theorem Vo {ops:List Oper} {anc:List (List Nat)} {p0:Nat} {L D:List Nat} (h:UP ops anc p0 L [] D=true):QOk ops anc L D/\(∀i,i<p0->i∈L\/i∈D)/\L.length+D.length=p0/\p0<=ops.length/\(∀i∈L,i<p0)/\(∀i∈D,i<p0)/\(∀i,p0<=i->i<ops.length->∀j,j<i->j∈anc.getD i []):=by
 simp only[UP,An,ON,RY,Sx,Do,Am]at h;grind [qOk]
theorem J6 {ops:List Oper} {anc:List (List Nat)} {p0:Nat} {L D A:List Nat} {l:Nat} {b:List (List Nat×Nat)} (h:UP ops anc p0 L ((A,l) :: b) D=true):QOk ops anc L (A++qs b D)/\(∃o,ops[l]?=some o/\o.guard=none/\(∀e∈EE o,e∈L\/e∈A))/\(∀j∈A,j∈anc.getD l [])/\l∉L/\l∉A++qs b D/\(∀p∈b,l∈anc.getD p.2 [])/\UP ops anc p0 (l :: (A++L)) b D=true:=by
 simp only[UP,An,ON,Am]at h;obtain⟨⟨⟨h1,a⟩,m⟩,n⟩:=h;cases f:ops[l]? with
 | none=>rw[f]at a;cases a
 | some o =>
  rw[f]at a;simp only[An,ON,Sx,Am,RH,AAh]at a;obtain⟨⟨⟨⟨g,i⟩,k⟩,c⟩,d⟩:=a;exact⟨qOk h1,⟨o,rfl,g,i⟩,k,λh=>(by rw[(Am _ _).2 h]at c;cases c),λh=>(by rw[(Am _ _).2 h]at d;cases d),m,n⟩
theorem Vp {ops:List Oper} {anc:List (List Nat)} {p0:Nat}:∀ {b:List (List Nat×Nat)} {L D:List Nat},UP ops anc p0 L b D=true->AAE ops anc p0 L b D
 | [],L,D,h=>by
  obtain⟨_,h1,g,c,d,e,f⟩:=Vo h;refine⟨λi hi=>?_,f,d,by simpa[qs] using e,by simp,c⟩;grind [qs]
 | (A,l) :: b,L,D,h=>by
  obtain⟨_,_,_,_,_,_,h1⟩:=J6 h;have a:=Vp h1;refine⟨λi hi=>?_,a.back,λi hi=>a.L i (by simp[hi]),λi hi=>?_,λp hp=>?_,a.p0⟩
  .rcases a.all i hi with h|h|h
   .grind [JE]
   .grind [JE]
   grind
  .rw[JE,Is]at hi;rcases hi with hi|hi
   .exact a.L i (by simp[hi])
   exact a.Q i hi
  rcases DO.1 hp with rfl|hp
  .exact a.L l (by simp)
  exact a.lo p hp
theorem aZ {ops:List Oper} {en:Nat->En} {τ:St}:∀ {Q:List Nat} {ens:EN} {pre:List Nat},ens.length=Q.length->(∀(j i:Nat) (e:Nat×AV×List (Nat×Obj)),Q[j]?=some i->ens[j]?=some e->Al ops i=some e.1/\en i=⟨true,e.2.1,e.2.2⟩) ->
  L9 ens (Aq ops en τ pre)=Aq ops en τ (Q.reverse++pre)
 | [],[],pre,_,_=>rfl
 | [],_ :: _,_,h,_=>by simp at h
 | _ :: _,[],_,h,_=>by simp at h
 | i :: Q,(d,v,obs) :: ens,pre,hl,h=>by
  obtain⟨h1,a⟩:=h 0 i (d,v,obs) rfl rfl;have:(⟨(d,v) :: (Aq ops en τ pre).env,obs++(Aq ops en τ pre).objs⟩:St)=Aq ops en τ (i :: pre):=by simp[Aq,h1,a,St.add]
  simp only[L9];rw[this,aZ (by simpa using hl) (λj k e b c=>h (j+1) k e (by simpa using b) (by simpa using c))];simp
section
variable {c:Cx} {ops:Array Oper} {anc:List (List Nat)} {p0:Nat} {Kf:St->Prop} {Qe:Exit->Act->World->Prop}
theorem A2B {a:List (List Nat×Nat)} {L D:List Nat} {ens:EN} {τ:St} (b:UP ops.toList anc p0 L a D=true) (d:Mix c ops.toList Kf a D ens τ):Fr c.tb ops.toList anc L (qs a D) ens τ:=by
 cases a with
 | nil =>
  have:qs [] D=D:=rfl;rw[this];exact A2A (Vo b).1 d.1
 | cons p a =>
  obtain⟨A,l⟩:=p;rw[JE];exact A2A (J6 b).1 d.1
theorem Yr (x:Yq ops anc) {a:List (List Nat×Nat)} {L D:List Nat} {ex:List Nat} {listed:Array Bool} (w:UP ops.toList anc p0 L a D=true) (v:QOk ops.toList anc L (qs a D)) (u:∀i∈ex,i∈qs a D) (H:listed.size=ops.size)
  (hl:∀i,i<ops.size->(listed.getD i true=true↔i∈L\/i∈ex)) (hf:¬(a=[]/\∀i∈qs a D,i∈ex)):∃i,i∈Region.ready .any ops listed:=by
 have C:∀e b,e<ops.size->listed.getD e b=listed.getD e true:=λe b c=>by grind
 have mk:∀i o,ops[i]?=some o->i∉L->i∉ex->(∀e∈EE o,e∈L\/e∈ex)->i∈Region.ready .any ops listed:=by
  intro i o f h1 k E;have I:i<ops.size:=(Sy.1 f).1;rw[De];refine⟨?_,o,f,λe c=>?_⟩
  .grind
  have F:=x.lt i o f e c;grind
 by_cases t:∀i∈qs a D,i∈ex
 .cases a with
  | nil=>exact absurd ⟨rfl,t⟩ hf
  | cons p a =>
   obtain⟨A,l⟩:=p;rw[JE]at t u;obtain⟨_,⟨o,f,_,y⟩,_,h1,k,_,_⟩:=J6 w;refine⟨l,mk l o (by simpa using f) h1 (λh=>k (u l h)) λe c=>?_⟩;rcases y e c with h|h
   .exact .inl h
   grind
 have key:∀(n j:Nat),j<=n->(∃i,(qs a D)[j]?=some i/\i∉ex)->∃i,i∈Region.ready .any ops listed:=by
  intro n;induction n with
  | zero =>
   rintro j s ⟨i,hi,d⟩;have:j=0:=by omega
   subst this;obtain⟨m,o,q,_,r,_⟩:=v.pos 0 i hi;refine⟨i,mk i o (by simpa using q) m d λe c=>?_⟩;rcases r e c with h|h
   .exact .inl h
   simp at h
  | succ n B =>
   rintro j s ⟨i,hi,d⟩;by_cases z:∃g,g<j/\∃i',(qs a D)[g]?=some i'/\i'∉ex
   .obtain⟨g,h1,k⟩:=z;exact B g (by omega) k
   obtain⟨m,o,q,_,r,_⟩:=v.pos j i hi;refine⟨i,mk i o (by simpa using q) m d λe c=>?_⟩;rcases r e c with h|h
   .exact .inl h
   right;obtain⟨g,G⟩:=aS.1 h;grind
 have:∃i,i∈qs a D/\i∉ex:=by grind
 obtain⟨i,hi,d⟩:=this;obtain⟨j,s⟩:=aS.1 hi;exact key j j (If _) ⟨i,s,d⟩
theorem Ys (G:Yq ops anc) (hT:∀τ,Kf τ->∀a w,c.sat τ a w->wpListIn (FR c.r) 0 c.P ops Qe (ops.toList.drop p0) a w) {m:Nat} {L D:List Nat} {ens:EN} {τ:St} {ex:List Nat} {listed:Array Bool} {a:Act} {w:World}
  (C:UP ops.toList anc p0 L [] D=true) (g:Mix c ops.toList Kf [] D ens τ) (K:(L++ex).Nodup) (b:∀i∈ex,i∈D) (V:m+L.length+ex.length=ops.size) (I:listed.size=ops.size) (hl:∀i,i<ops.size->(listed.getD i true=true↔i∈L\/i∈ex))
  (hs:c.sat (Aq ops.toList (Og D ens) τ ex) a w) (d:∀i∈D,i∈ex):wpAnyIn (FR c.r) 0 c.P .any ops Qe m listed a w:=by
 obtain⟨q,h1,R,y,S,T,z⟩:=Vo C;have hF:=A2A q g.1;have U:ex.length=D.length:=ADO (MA (ADA.1 K).2.1 b) (MA q.nodup d);have J:m=(ops.toList.drop p0).length:=by grind
 have E:L9 ens τ=Aq ops.toList (Og D ens) τ D.reverse:=by
  have:=aZ (ops:=ops.toList) (en:=Og D ens) (τ:=τ) (pre:=[]) hF.len (λj i e A B=>by
   obtain⟨o,O,_,f,u,x,_⟩:=hF.at_ j i A;rw[B]at f;cases f;exact⟨u,x⟩)
  simpa[Aq] using this
 have N:c.sat (L9 ens τ) a w:=by
  rw[E];have t:∀i∈D.reverse,i∈D:=λi hi=>by simpa using hi
  have l:∀i,i∈ex↔i∈D.reverse:=λi=>⟨λh=>by simpa using b i h,λh=>d i (by simpa using h)⟩;refine Vh (λs=>AFr λv=>?_) (λn=>AFr λo=>?_) hs
  .rw[lkE hF.own t,lkE hF.own b];simp only[l]
  rw[lkO hF.own t,lkO hF.own b];simp only[l]
 have:=R4 (Q:=Qe) (F:=FR c.r) (P:=c.P) G (k:=p0) (λi o M hi j H=>z i hi (by have:=(Sy.1 M).1;simpa using this) j H) (rest:=ops.toList.drop p0) (p:=p0) (listed:=listed) (a:=a) (w:=w) rfl (If _) (by simpa using y) I
  (λi hi=>by
   rw[hl i hi];constructor
   .grind
   intro h;rcases h1 i h with h|h
   .exact .inl h
   exact .inr (d i h)) (hT _ g.2 a w N)
 rw[J];exact this
theorem A5X (cf:c.Ok) (bv:∀o∈ops.toList,I8 c.nt o=true) (Z:Yq ops anc) (hT:∀τ,Kf τ->∀a w,c.sat τ a w->wpListIn (FR c.r) 0 c.P ops Qe (ops.toList.drop p0) a w) :
  ∀(m:Nat) (f:List (List Nat×Nat)) (L D:List Nat) (ens:EN) (τ:St) (ex:List Nat) (listed:Array Bool) (a:Act) (w:World),UP ops.toList anc p0 L f D=true->Mix c ops.toList Kf f D ens τ->(L++ex).Nodup->(∀i∈ex,i∈qs f D) ->
   m+L.length+ex.length=ops.size->listed.size=ops.size->(∀i,i<ops.size->(listed.getD i true=true↔i∈L\/i∈ex))->(∀i o,ops[i]?=some o->(i∈L\/i∈ex)->∀e∈EE o,e∈L\/e∈ex) ->
   c.sat (Aq ops.toList (Og (qs f D) ens) τ ex) a w->wpAnyIn (FR c.r) 0 c.P .any ops Qe m listed a w:=by
 intro m;induction m with
 | zero =>
  intro f L D ens τ ex listed a w B O G z av R hl ab hs;have hF:=A2B B O;by_cases hf:f=[]/\∀i∈qs f D,i∈ex
  .obtain⟨rfl,ao⟩:=hf;exact Ys Z hT B O G z av R hl hs ao
  exfalso;obtain⟨i,hi⟩:=Yr Z B hF.q z R hl hf;rw[De]at hi;obtain⟨h1,o,C,_⟩:=hi;have V:i<ops.size:=(Sy.1 C).1;have H:i∉L++ex:=λh=>by grind
  have M:=Vp B;have:=EM ops.size (i :: (L++ex)) (TO.2 ⟨H,G⟩) (λj d=>by
   have hp:=M.p0;simp only[AFb]at hp;rcases DO.1 d with rfl|d
   .exact V
   rcases Is.1 d with d|d
   .have:=M.L j d;omega
   have:=M.Q j (z j d);omega)
  grind
 | succ m bh =>
  intro f L D ens τ ex listed a w B O G z av R hl ab hs;have hF:=A2B B O;have M:=Vp B;have bl:∀e b,e<ops.size->listed.getD e b=listed.getD e true:=λe b E=>by grind
  by_cases hf:f=[]/\∀i∈qs f D,i∈ex
  .obtain⟨rfl,ao⟩:=hf;exact Ys Z hT B O G z av R hl hs ao
  refine⟨λct=>?_,λi hi=>?_⟩
  .obtain⟨i,hi⟩:=Yr Z B hF.q z R hl hf;grind
  rw[De]at hi;obtain⟨h1,o,C,co⟩:=hi;have V:i<ops.size:=(Sy.1 C).1;have H:¬(i∈L\/i∈ex):=λh=>by rw[(hl i V).2 h]at h1;cases h1
  have ax:∀e∈EE o,e∈L\/e∈ex:=λe E=>by grind
  have aa:∀j∈anc.getD i [],j∈L\/j∈ex:=by
   have cr:∀i o,ops[i]?=some o->listed.getD i true=true->∀e∈EE o,listed.getD e false=true:=by
    intro i o C h1 e E;have V:i<ops.size:=(Sy.1 C).1;have W:=Z.lt i o C e E;rw[bl e false (by omega)];exact(hl e (by omega)).2 (ab i o C ((hl i V).1 h1) e E)
   grind [TX]
  have ae:ops.toList[i]?=some o:=by simpa using C
  have cd:o∈ops.toList:=oF ae;have bu:=Cr (bv o cd);have bb:∀(S:List Nat),(∀j,j∈S↔j=i\/j∈L\/j∈ex)->∀j,j<ops.size->((listed.setIfInBounds i true).getD j true=true↔j∈S):=by
   intro S bs j d;have cb:j<listed.size:=by omega
   rw[bs];by_cases au:j=i
   .subst au;simp[Array.getD,cb]
   have W:(listed.setIfInBounds i true).getD j true=listed.getD j true:=getD_set_ne true (λe=>au e.symm);rw[W,hl j d];simp[au]
  have bg:∀ {g:Option (Nat×Bool)},g=none->o.guard=g->Region.wanted o (yielded ops a.tmps)=true:=by
   intro g aq e;simp[Region.wanted,e,aq]
  by_cases ad:i∈qs f D
  .obtain⟨j,d⟩:=aS.1 ad;obtain⟨_,cw,bc,aq,_,_⟩:=hF.q.pos j i d;rw[ae]at bc;cases bc;unfold wpOpIn;rw[C];simp only;rw[BY (bg rfl aq)];refine mP cf hF z d ae (λh=>H (.inr h)) (λk hk cc=>?_) bu hs λai w' cg=>?_
   .rcases aa k hk with h|h
    .obtain⟨t,N⟩:=aS.1 cc;exact absurd h (hF.q.pos t k N).1
    exact h
   refine bh f L D ens τ (i :: ex) _ ai w' B O ?_ (λk hk=>?_) (by simp only[No];omega) (by simpa using R) (λk hk=>?_) (λi' U F ar e E=>?_) cg
   .rw[ADA]at G ⊢;refine⟨G.1,TO.2 ⟨λh=>H (.inr h),G.2.1⟩,λx hx y T=>?_⟩;rcases DO.1 T with rfl|T
    .exact λe=>H (.inl (e▸hx))
    exact G.2.2 x hx y T
   .rcases DO.1 hk with rfl|hk
    .exact ad
    exact z k hk
   .rw[bb (i :: (L++ex)) (λj=>by simp) k hk];simp only[DO,Is];constructor
    .rintro (h|h|h)
     .exact .inr (.inl h)
     .exact .inl h
     exact .inr (.inr h)
    rintro (h|h|h)
    .exact .inr (.inl h)
    .exact .inl h
    exact .inr (.inr h)
   have:e∈L\/e∈ex:=by
    rcases ar with h|h
    .exact ab i' U F (.inl h) e E
    rcases DO.1 h with rfl|h
    .rw[C]at F;cases F;exact ax e E
    exact ab i' U F (.inr h) e E
   rcases this with h|h
   .exact .inl h
   exact .inr (by simp[h])
  . -- no operation of the front
   have cu:¬p0<=i:=by
    intro bx;have aw:=M.back i bx (by simpa using V);cases f with
    | nil =>
     refine hf ⟨rfl,λj d=>?_⟩;have W:=M.Q j d;rcases aa j (aw j (by omega)) with h|h
     .obtain⟨t,N⟩:=aS.1 d;exact absurd h (hF.q.pos t j N).1
     exact h
    | cons p f =>
     obtain⟨A,l⟩:=p;obtain⟨_,_,_,ak,al,_,_⟩:=J6 B;have W:=M.lo (A,l) (by simp);simp only at W;rcases aa l (aw l (by omega)) with h|h
     .exact ak h
     exact al (by rw[<-JE A l];exact z l h)
   cases f with
   | nil =>
    rcases M.all i (by omega) with h|h|h
    .exact absurd (.inl h) H
    .exact absurd h ad
    cases h
   | cons p f =>
    obtain⟨A,l⟩:=p;obtain⟨_,⟨ol,bd,bz,cs⟩,bo,ak,al,bm,bp⟩:=J6 B;have ca:i=l:=by
     rcases M.all i (by omega) with h|h|h
     .exact absurd (.inl h) H
     .exact absurd h ad
     simp only[RS,DO,GO]at h;rcases h with h|⟨p,hp,rfl⟩
     .exact h
     rcases aa l (bm p hp) with h|h
     .exact absurd h ak
     exact absurd (z l h) (by rw[JE];exact al)
    subst ca;rw[ae]at bd;cases bd;rw[JE]at hF z hs ad;obtain⟨cq,U,F,bq⟩:=O;rw[ae]at F;cases F;have X:∀j∈A,j∈ex:=λj d=>by
     rcases aa j (bo j d) with h|h
     .obtain⟨t,N⟩:=aS.1 (show j∈A++qs f D by simp[d]);exact absurd h (hF.q.pos t j N).1
     exact h
    have am:A.Nodup/\(qs f D).Nodup/\∀x∈A,∀y∈qs f D,x≠y:=ADA.1 hF.q.nodup;have bt:L9 (ens.take A.length) τ=Aq ops.toList (Og (A++qs f D) ens) τ A.reverse:=by
     have:=aZ (ops:=ops.toList) (en:=Og (A++qs f D) ens) (τ:=τ) (pre:=[]) (Q:=A) (ens:=ens.take A.length) (by have:=hF.len;simp only[By]at this;simp only[OS];omega) (λj i e K u=>by
      have ba:j<A.length:=(RF.1 K).1;obtain⟨o,cn,_,I,J,aj,_⟩:=hF.at_ j i (by rw[RZ ba];exact K);rw[Sz,BY ba,I]at u;cases u;exact⟨J,aj⟩)
     simpa[Aq] using this
    have bf:=A05 (A:=A.reverse) hF.own z (λj d=>X j (by simpa using d));rw[<-bt]at bf;have ah:∀j,j∈ex.filter (λj=>!Aa j A.reverse)↔j∈ex/\j∉A:=λj=>by
     rw[ADR];have:=Am j A.reverse;constructor
     .rintro⟨K,u⟩;exact⟨K,λI=>by rw[this.2 (by simpa using I)]at u;cases u⟩
     rintro⟨K,u⟩;refine⟨K,?_⟩;cases ce:Aa j A.reverse with
     | false=>rfl
     | true=>exact absurd (by simpa using this.1 ce) u
    have Y:∀j∈ex.filter (λj=>!Aa j A.reverse),j∈qs f D:=λj d=>by
     have:=z j ((ah j).1 d).1;rcases Is.1 this with h|h
     .exact absurd h ((ah j).1 d).2
     exact h
    have ap:∀j∈qs f D,∃(t:Nat) (e:Nat×AV×List (Nat×Obj)),(qs f D)[t]?=some j/\(ens.drop A.length)[t]?=some e/\Al ops.toList j=some e.1/\Og (A++qs f D) ens j=⟨true,e.2.1,e.2.2⟩:=by
     intro j d;obtain⟨t,N⟩:=aS.1 d;obtain⟨o,e,_,I,J,aj,_⟩:=hF.at_ (A.length+t) j (by rw[RW (by omega),AEU];exact N);exact⟨t,e,N,by rw[AAk];exact I,J,aj⟩
    have be:Own ops.toList (Og (A++qs f D) ens) ⟨[],[]⟩ (A++qs f D):=⟨hF.own.slot,λ_ _ _ _ _=>rfl,hF.own.name⟩;have ay:∀j∈ex.filter (λj=>!Aa j A.reverse),j∈A++qs f D:=λj d=>by simp[Y j d]
    unfold wpOpIn;rw[C];simp only;rw[BY (bg rfl bz)];refine bq _ _ bf ⟨λs v af=>?_,λn U hn=>?_⟩ a w _ _ hs λbk br ai w' cx az ch=>?_
    .rcases (lkE be ay s v).1 af with ⟨j,d,ag,rfl⟩|⟨_,af⟩
     .obtain⟨t,e,_,u,I,J⟩:=ap j (Y j d);rw[ag]at I;cases I;rw[J];exact⟨e.2.2,oF u⟩
     cases af
    .rcases (lkO be ay n U).1 hn with ⟨j,d,ag⟩|⟨_,af⟩
     .obtain⟨t,e,_,u,I,J⟩:=ap j (Y j d);rw[J]at ag;exact⟨e,oF u,Fu ag⟩
     cases af
    have cp:ex.length=A.length+(ex.filter (λj=>!Aa j A.reverse)).length:=by
     have ci:∀l:List Nat,l.length=(l.filter (λj=>Aa j A.reverse)).length+(l.filter (λj=>!Aa j A.reverse)).length:=by
      intro l;induction l with
      | nil=>rfl
      | cons x r cv =>
       simp only[AAf,No];cases Aa x A.reverse<;>simp<;>omega
     rw[ci ex];have bw:=(ADA.1 G).2.1;have K:(ex.filter (λj=>Aa j A.reverse)).length<=A.length:=MA (bw.filter _) λx hx=>by
      have:=(Am _ _).1 (ADR.1 hx).2;simpa using this
     have u:A.length<=(ex.filter (λj=>Aa j A.reverse)).length:=MA am.1 λx hx=>ADR.2 ⟨X x hx,(Am _ _).2 (by simpa using hx)⟩;omega
    have an:∀x,(x∈i :: (A++L)\/x∈ex.filter (λj=>!Aa j A.reverse))↔x=i\/x∈L\/x∈ex:=by
     intro x;rw[ah];simp only[DO,Is];constructor
     .rintro ((h|h|h)|h)
      .exact .inl h
      .exact .inr (.inr (X x h))
      .exact .inr (.inl h)
      exact .inr (.inr h.1)
     rintro (h|h|h)
     .exact .inl (.inl h)
     .exact .inl (.inr (.inr h))
     by_cases hx:x∈A
     .exact .inl (.inr (.inl hx))
     exact .inr ⟨h,hx⟩
    refine bh f (i :: (A++L)) D (ens.drop A.length) bk (ex.filter λj=>!Aa j A.reverse) _ ai w' bp br ?_ Y (by simp only[No,By];omega) (by simpa using R) (λk hk=>?_) (λi' U F ar e E=>?_) ?_
    .obtain⟨n1,cl,bi⟩:=ADA.1 G;have bn:∀x∈A,x∉L:=λx hx cj=>bi x cj x (X x hx) rfl;rw[ADA];refine⟨TO.2 ⟨λh=>?_,ADA.2 ⟨am.1,n1,λx hx y T e=>bn x hx (e▸T)⟩⟩,cl.filter _,λx hx y T e=>?_⟩
     .rcases Is.1 h with h|h
      .exact H (.inr (X i h))
      exact H (.inl h)
     subst e;obtain⟨bj,cm⟩:=(ah x).1 T;rcases DO.1 hx with rfl|hx
     .exact H (.inr bj)
     rcases Is.1 hx with hx|hx
     .exact cm hx
     exact bi x hx x bj rfl
    .rw[an k,bb (i :: (L++ex)) (λj=>by simp) k hk];simp
    .rw[an];have:e∈L\/e∈ex:=by
      rcases (an i').1 ar with rfl|h
      .rw[C]at F;cases F;exact ax e E
      exact ab i' U F h e E
     exact .inr this
    have ck:∀j∈ex.filter (λj=>!Aa j A.reverse),Og (qs f D) (ens.drop A.length) j=Og (A++qs f D) ens j:=λj d=>by
     obtain⟨t,e,K,u,_,J⟩:=ap j (Y j d);rw[J];exact mO am.2.1 t j e K u
    have hx:=A2v (ops:=ops.toList) (en:=Og (qs f D) (ens.drop A.length)) (τ:=bk) (ex.filter λj=>!Aa j A.reverse);rw[Kz (en:=Og (A++qs f D) ens) (σ0:=⟨[],[]⟩) ck]at hx;exact Vh (λs=>by rw[hx.env,az.env]) (λn=>by rw[hx.objs,az.objs]) ch
end
section
variable {c:Cx} {R:Exit->Act->World->Prop} {k:List DU} {σ:St}
theorem CA (j:c.P.follows .mixedOrders=true) (g:c.Ok) {id:Nat} {l:List Oper} (p0:Nat) (d:List (List Nat×Nat)) (D:List Nat) (b:(A9x l (A2j l)&&UP l (A2j l) p0 [] d D)=true) {ens:EN}
  (h:Mix c l (fun τ=>Nh c R k l.toArray (l.drop p0) τ) d D ens σ):Ev c R (.run (.region id l.toArray true)) k σ:=by
 intro h1 e a w hs;simp only[H0,Bl,ON]at h1;simp only[An]at b;refine wpIn_region_any j ?_;have hk:∀τ,Nh c R k l.toArray (l.drop p0) τ->∀a w,c.sat τ a w->wpListIn (FR c.r) 0 c.P l.toArray (VZ c R k) (l.toArray.toList.drop p0) a w:=fun τ f a w hs=>f (λo m=>h1 o (by simpa using AEi m)) e a w hs;exact A5X (ops:=l.toArray) (anc:=A2j l) g (by simpa using h1) (AAD (by simpa using b.1)) hk l.toArray.size d [] D ens σ [] (Array.replicate l.toArray.size false) a { w with drawn:=w.drawn+1 } (by simpa using b.2) (by simpa using h) (by simp) (by simp) (by simp) (by simp) (λi hi=>by simp at hi;simp[Array.getD,hi]) (λi o _ hi=>by simp at hi) (fD hs)
end
end
section
open Go Go.RowKit
section
variable {n:Nat} {ns:List Nat}
theorem GZ {m:Nat} (hn:n∈ns) (h:¬Aa m ns=true):¬m=n:=λe=>h ((Am _ _).2 (e▸hn))
mutual
theorem Vq (hn:n∈ns) {e:Ty} {xs:List e.den}:∀(x:AV),x.fgt ns=x->x.frz n e xs=x
 | .sr m e' lo hi,h=>by grind [AV.fgt,AV.frz,GZ]
 | .ep m e' i path off,h=>by grind [AV.fgt,AV.frz,GZ]
 | .nin m e' i len,h=>by grind [AV.fgt,AV.frz,GZ]
 | .ag l,h=>by
  simp only[AV.fgt,AV.ag.injEq]at h
  simp only[AV.frz,frzs_of_fgt hn l h]
 | .tup l,h=>by
  simp only[AV.fgt,AV.tup.injEq]at h
  simp only[AV.frz,frzs_of_fgt hn l h]
 | .p _ _,_=>rfl
 | .pc _ _,_=>rfl
 | .raw _,_=>rfl
 | .ip _ _,_=>rfl
 | .bp _ _ _,_=>rfl
 | .fn _,_=>rfl
 | .clo _ _,_=>rfl
 | .mp _,_=>rfl
 | .yl _,_=>rfl
 | .top,_=>rfl
theorem frzs_of_fgt (hn:n∈ns) {e:Ty} {xs:List e.den}:∀(l:List AV),AV.fgts ns l=l->AV.frzs n e xs l=l
 | [],_=>rfl
 | x :: r,h=>by
  simp only[AV.fgts,AEy]at h
  simp only[AV.frzs,Vq hn x h.1,frzs_of_fgt hn r h.2]
end
mutual
theorem Vr (hn:n∈ns):∀(x:AV),x.fgt ns=x->x.drp n=x
 | .sr m e' lo hi,h=>by grind [AV.fgt,AV.drp,GZ]
 | .ep m e' i path off,h=>by grind [AV.fgt,AV.drp,GZ]
 | .nin m e' i len,h=>by grind [AV.fgt,AV.drp,GZ]
 | .ag l,h=>by
  simp only[AV.fgt,AV.ag.injEq]at h
  simp only[AV.drp,drps_of_fgt hn l h]
 | .tup l,h=>by
  simp only[AV.fgt,AV.tup.injEq]at h
  simp only[AV.drp,drps_of_fgt hn l h]
 | .p _ _,_=>rfl
 | .pc _ _,_=>rfl
 | .raw _,_=>rfl
 | .ip _ _,_=>rfl
 | .bp _ _ _,_=>rfl
 | .fn _,_=>rfl
 | .clo _ _,_=>rfl
 | .mp _,_=>rfl
 | .yl _,_=>rfl
 | .top,_=>rfl
theorem drps_of_fgt (hn:n∈ns):∀(l:List AV),AV.fgts ns l=l->AV.drps n l=l
 | [],_=>rfl
 | x :: r,h=>by
  simp only[AV.fgts,AEy]at h
  simp only[AV.drps,Vr hn x h.1,drps_of_fgt hn r h.2]
end
end
section
variable {n:Nat} {ns tl:List Nat}
theorem EF (a:∀n,n∈tl->n∈ns) {m:Nat} (h:¬Aa m ns=true):¬Aa m tl=true:=λh1=>h ((Am _ _).2 (a _ ((Am _ _).1 h1)))
theorem qS (a:∀n,n∈tl->n∈ns) {l:List Nat} (h:¬(l.any λm=>Aa m ns)=true):¬(l.any λm=>Aa m tl)=true:=λh1=>by grind [Am]
mutual
theorem Vs (htl:∀n,n∈tl->n∈ns):∀(x:AV),x.fgt ns=x->x.fgt tl=x
 | .sr m e' lo hi,h=>by grind [AV.fgt,EF]
 | .ep m e' i path off,h=>by grind [AV.fgt,EF]
 | .nin m e' i len,h=>by grind [AV.fgt,EF]
 | .bp m path off,h=>by grind [AV.fgt,EF]
 | .mp m,h=>by grind [AV.fgt,EF]
 | .yl m,h=>by grind [AV.fgt,EF]
 | .clo f cs,h=>by
  simp only[AV.fgt]at h
  split at h
  .cases h
  rename_i hm;simp only[AV.fgt,As (qS htl hm)]
 | .ag l,h=>by
  simp only[AV.fgt,AV.ag.injEq]at h
  simp only[AV.fgt,fgts_of_fgt htl l h]
 | .tup l,h=>by
  simp only[AV.fgt,AV.tup.injEq]at h
  simp only[AV.fgt,fgts_of_fgt htl l h]
 | .p _ _,_=>rfl
 | .pc _ _,_=>rfl
 | .raw _,_=>rfl
 | .ip _ _,_=>rfl
 | .fn _,_=>rfl
 | .top,_=>rfl
theorem fgts_of_fgt (htl:∀n,n∈tl->n∈ns):∀(l:List AV),AV.fgts ns l=l->AV.fgts tl l=l
 | [],_=>rfl
 | x :: r,h=>by
  simp only[AV.fgts,AEy]at h
  simp only[AV.fgts,Vs htl x h.1,fgts_of_fgt htl r h.2]
end
mutual
theorem Vt (hn:n∈ns) (htl:∀n,n∈tl->n∈ns):∀(x:AV),x.fgt ns=x->x.trn n tl=x
 | .sr m e' lo hi,h=>by grind [AV.fgt,AV.trn,EF]
 | .ep m e' i path off,h=>by grind [AV.fgt,AV.trn,EF]
 | .nin m e' i len,h=>by grind [AV.fgt,AV.trn,GZ,EF]
 | .bp m path off,h=>by grind [AV.fgt,AV.trn,EF]
 | .mp m,h=>by grind [AV.fgt,AV.trn,EF]
 | .yl m,h=>by grind [AV.fgt,AV.trn,EF]
 | .clo f cs,h=>by
  simp only[AV.fgt]at h
  split at h
  .cases h
  rename_i hm;simp only[AV.trn,As (qS htl hm)]
 | .ag l,h=>by
  simp only[AV.fgt,AV.ag.injEq]at h
  simp only[AV.trn,trns_of_fgt hn htl l h]
 | .tup l,h=>by
  simp only[AV.fgt,AV.tup.injEq]at h
  simp only[AV.trn,trns_of_fgt hn htl l h]
 | .p _ _,_=>rfl
 | .pc _ _,_=>rfl
 | .raw _,_=>rfl
 | .ip _ _,_=>rfl
 | .fn _,_=>rfl
 | .top,_=>rfl
theorem trns_of_fgt (hn:n∈ns) (htl:∀n,n∈tl->n∈ns):∀(l:List AV),AV.fgts ns l=l->AV.trns n tl l=l
 | [],_=>rfl
 | x :: r,h=>by
  simp only[AV.fgts,AEy]at h
  simp only[AV.trns,Vt hn htl x h.1,trns_of_fgt hn htl r h.2]
end
end
def K6:AV->Bool
 | .raw _=>true
 | .p _ _=>true
 | _=>false
def MB:Obj->Bool
 | .arr _ _ _=>true
 | .box _ _ fs=>fs.all K6
 | _=>false
theorem Vu {n:Nat} {e:Ty} {xs:List e.den}:∀fs:List AV,fs.all K6=true->AV.frzs n e xs fs=fs
 | [],_=>rfl
 | x :: r,h=>by
  rw[ADS,An]at h;simp only[AV.frzs,Vu r h.2];cases x<;>first|rfl|(have:=h.1;simp[K6]at this)
theorem Vv {n:Nat}:∀fs:List AV,fs.all K6=true->AV.drps n fs=fs
 | [],_=>rfl
 | x :: r,h=>by
  rw[ADS,An]at h;simp only[AV.drps,Vv r h.2];cases x<;>first|rfl|(have:=h.1;simp[K6]at this)
theorem A07 {n:Nat} {e:Ty} {xs:List e.den} {o:Obj} (h:MB o=true):Obj.frz n e xs o=o:=by
 cases o with
 | box et st fs=>simp only[Obj.frz,Vu fs h]
 | arr et a ys=>rfl
 | _=>cases h
theorem A08 {n:Nat} {o:Obj} (h:MB o=true):Obj.drp n o=o:=by
 cases o with
 | box et st fs=>simp only[Obj.drp,Vv fs h]
 | arr et a ys=>rfl
 | _=>cases h
theorem Vx {hs:List Nat}:∀fs:List AV,fs.all K6=true->AV.fgts hs fs=fs
 | [],_=>rfl
 | x :: r,h=>by
  rw[ADS,An]at h;simp only[AV.fgts,Vx r h.2];cases x<;>first|rfl|(have:=h.1;simp[K6]at this)
theorem Yt {hs:List Nat} {o:Obj} (h:MB o=true):Obj.fgt hs o=o:=by
 cases o with
 | box et st fs=>simp only[Obj.fgt,Vx fs h]
 | arr et a ys=>rfl
 | _=>cases h
theorem Vy {n:Nat} {hs:List Nat}:∀fs:List AV,fs.all K6=true->AV.trns n hs fs=fs
 | [],_=>rfl
 | x :: r,h=>by
  rw[ADS,An]at h;simp only[AV.trns,Vy r h.2];cases x<;>first|rfl|(have:=h.1;simp[K6]at this)
theorem A09 {n:Nat} {hs:List Nat} {o:Obj} (h:MB o=true):Obj.trn n hs o=o:=by
 cases o with
 | box et st fs=>simp only[Obj.trn,Vy fs h]
 | arr et a ys=>rfl
 | _=>cases h
structure IG (X σ:St) (ns:List Nat):Prop where
 env:∀s v,lk s X.env=some v->v.fgt ns=v
 arr:∀n o,lk n X.objs=some o->MB o=true
 new:∀n o,lk n X.objs=some o->lk n σ.objs=none
 nm:∀n o,lk n X.objs=some o->n∉ns
section
variable {σ σ' X:St} {ns:List Nat}
theorem Rd.lkn (hx:Rd σ σ' X) (ha:IG X σ ns) {n:Nat} (hn:n∈ns):lk n σ'.objs=lk n σ.objs:=by
 rw[hx.objs];cases a:lk n X.objs with
 | none=>rfl
 | some o=>exact absurd hn (ha.nm n o a)
theorem Rd.obs (hx:Rd σ σ' X) (ha:IG X σ ns):dU σ σ':=by
 intro n o hn;rw[hx.objs];cases a:lk n X.objs with
 | none=>exact hn
 | some b=>rw[ha.new n b a]at hn;cases hn
theorem qT {n:Nat} (hx:Rd σ σ' X) (ha:IG X σ ns) (hn:n∈ns):Rd (frz n σ) (frz n σ') X/\IG X (frz n σ) ns:=by
 unfold frz;split
 .exact⟨hx,ha⟩
 have core:∀(e:Ty) (xs:List e.den),Rd ⟨DR n e xs σ.env,A4 n e xs (del n σ.objs)⟩ ⟨DR n e xs σ'.env,A4 n e xs (del n σ'.objs)⟩ X/\IG X ⟨DR n e xs σ.env,A4 n e xs (del n σ.objs)⟩ ns:=by
  intro e xs;refine⟨⟨λs=>?_,λm=>?_⟩,ha.env,ha.arr,λm o b=>?_,ha.nm⟩
  .simp only[M5,hx.env];cases a:lk s X.env with
   | none=>rfl
   | some v=>simp[Vq hn v (ha.env s v a)]
  .simp only[CZ,Rn];by_cases b:m=n
   .subst b;cases a:lk m X.objs with
    | none=>simp
    | some o=>exact absurd hn (ha.nm m o a)
   simp only[As b,hx.objs];cases a:lk m X.objs with
   | none=>rfl
   | some o=>exact AAc some (A07 (ha.arr m o a))
  simp only[CZ,Rn];split
  .rfl
  rw[ha.new m o b];rfl
 rw[hx.lkn ha hn];unfold lK;grind
theorem Vz:∀ {l:List Nat} {σ σ':St},Rd σ σ' X->IG X σ ns->(∀n∈l,n∈ns)->Rd (DG l σ) (DG l σ') X/\IG X (DG l σ) ns
 | [],_,_,hx,ha,_=>⟨hx,ha⟩
 | n :: l,σ,σ',hx,ha,h=>by
  obtain⟨h1,a⟩:=qT hx ha (h n (by simp));have:=Vz (l:=l) h1 a λm b=>h m (by simp[b]);exact this
def A0a (σ σ':St) (xs:List Operand):Prop:=∀x∈xs,Ap σ' x=Ap σ x
theorem a9 (hx:Rd σ σ' X) {xs:List Operand} (h:∀t∈xs.filterMap QG,lk t X.env=none):A0a σ σ' xs:=by
 intro x a;cases x with
 | tmp t =>
  simp only[Ap,hx.env];rw[h t (AFi.2 ⟨_,a,rfl⟩)];rfl
 | const v=>rfl
 | global g=>rfl
 | func f=>rfl
theorem MC:∀ {l:List (Nat×Operand)},A0a σ σ' (l.map (·.2))->DS σ' l=DS σ l
 | [],_=>rfl
 | (i,x) :: r,h=>by
  simp only[DS];rw[h x (by simp),MC (λy a=>h y (by simp only[RS,DO];exact .inr a))]
theorem QQ:∀ {l:List (Nat×Operand)},A0a σ σ' (l.map (·.2))->FC σ' l=FC σ l
 | [],_=>rfl
 | (i,x) :: r,h=>by
  simp only[FC];rw[h x (by simp),QQ (λy a=>h y (by simp only[RS,DO];exact .inr a))]
theorem mQ (hx:Rd σ σ' X) (ha:IG X σ ns) (n:Nat):Co (lk n σ'.objs)=Co (lk n σ.objs):=by
 rw[hx.objs];cases a:lk n X.objs with
 | none=>rfl
 | some o =>
  rw[ha.new n o a];have:=ha.arr n o a;cases o<;>first|rfl|cases this
theorem fR (hx:Rd σ σ' X) (ha:IG X σ ns) {op:Op} (h:A0a σ σ' op.operands.toList):DJ σ' op=DJ σ op:=by
 cases op<;>simp only[DJ];case buildSlice t n parts =>
  exact MC (λx hx=>h x (by simpa[Op.operands] using hx))
 case build t parts =>
  exact QQ (λx hx=>h x (by simpa[Op.operands] using hx))
 case store t x y =>
  rw[h x (by simp[Op.operands]),h y (by simp[Op.operands])];unfold CY;split
  .rw[mQ hx ha]
  rfl
 case mapUpdate t m x y =>
  rw[h m (by simp[Op.operands]),h x (by simp[Op.operands]),h y (by simp[Op.operands])]
def J7 (σ:St):Option AV->Option AV->List Nat
 | some (.sr n _ _ _),some (.sr m _ _ _)=>if Co (lk n σ.objs)=true then [n,m] else [n]
 | some (.sr n _ _ _),_=>[n]
 | some (.nin n _ _ _),_=>[n]
 | some (.raw _),some (.sr m _ _ _)=>if Co (lk m σ.objs)=true then [m] else []
 | _,_=>[]
def fS (σ:St):Option AV->Option AV->List Nat
 | some (.ep n _ _ _ _),some (.sr m _ _ _)=>if Co (lk n σ.objs)=true then [n,m] else []
 | _,_=>[]
def bA (σ:St):Op->List Nat
 | .call c=>match c.callee,c.args.toList with
  | .builtin .append,[x,y]=>J7 σ (Ap σ x) (Ap σ y)
  | _,_=>[]
 | .store _ x y=>fS σ (Ap σ x) (Ap σ y)
 | _=>[]
theorem A2C {n:Nat} {e:Ty} {lo hi:Nat} {v:AV}:n∈J7 σ (some (.sr n e lo hi)) (some v):=by
 cases v<;>first|(simp[J7];done)|(simp only[J7];split<;>simp)
theorem qU (hx:Rd σ σ' X) (ha:IG X σ ns) {tl:List Nat} (e:∀n,n∈tl->n∈ns) {d b:Nat} {v:AV} {f:Obj} (g:lk d X.env=none) (i:lk b X.objs=none) :
  Rd ⟨(d,v) :: CN tl σ.env,(b,f) :: Ar tl tl σ.objs⟩ ⟨(d,v) :: CN tl σ'.env,(b,f) :: Ar tl tl σ'.objs⟩ X:=by
 refine⟨λs=>?_,λm=>?_⟩
 .simp only[lk];by_cases hs:s=d
  .grind
  rw[As hs,As hs,Es,Es,hx.env];cases a:lk s X.env with
  | none=>rfl
  | some w=>simp[Vs e w (ha.env s w a)]
 simp only[lk];by_cases c:m=b
 .grind
 rw[As c,As c,B7,B7,hx.objs];cases a:lk m X.objs with
 | none=>rfl
 | some w =>
  rw[As λh=>ha.nm m w a (e _ ((Am _ _).1 h))];exact AAc some (Yt (ha.arr m w a))
theorem qV (hx:Rd σ σ' X) (ha:IG X σ ns) {n:Nat} {tl:List Nat} (hn:n∈ns) (b:∀n,n∈tl->n∈ns) {en:List (Nat×AV)} {new:List (Nat×Obj)} (c:∀s v,lk s en=some v->lk s X.env=none) (e:∀m o,lk m new=some o->lk m X.objs=none) :
  Rd ⟨en++E3 n tl σ.env,new++DI n tl σ.objs⟩ ⟨en++E3 n tl σ'.env,new++DI n tl σ'.objs⟩ X:=by
 refine⟨λs=>?_,λm=>?_⟩
 .simp only[A5];cases hs:lk s en with
  | some v=>rw[c s v hs];rfl
  | none =>
   rw[Hl,Hl,hx.env];cases a:lk s X.env with
   | none=>rfl
   | some w=>simp[Vt hn b w (ha.env s w a)]
 simp only[A5];cases d:lk m new with
 | some o=>rw[e m o d];rfl
 | none =>
  rw[Ek,Ek,hx.objs];cases a:lk m X.objs with
  | none=>rfl
  | some w =>
   rw[As λh=>ha.nm m w a (by
    rcases DO.1 ((Am _ _).1 h) with rfl|h
    .exact hn
    exact b _ h)]
   exact AAc some (A09 (ha.arr m w a))
theorem bB {n:Nat} {o c:Obj} (hx:Rd σ σ' X) (ha:IG X σ ns) (hn:lk n σ.objs=some o) {env b:List (Nat×AV)} (e:∀s,lk s b=(lk s X.env).or (lk s env)):Rd ⟨env,upd n c σ.objs⟩ ⟨b,upd n c σ'.objs⟩ X:=by
 refine⟨e,λm=>?_⟩;simp only[GV];have d:lk n X.objs=none:=by
  cases h:lk n X.objs with
  | none=>rfl
  | some u=>rw[ha.new n u h]at hn;cases hn
 by_cases a:m=n
 .subst a;rw[BY rfl,BY rfl,hx.objs,d];rfl
 rw[As a,As a,hx.objs]
theorem Rd.some_lk (hx:Rd σ σ' X) (ha:IG X σ ns) {n:Nat} {o:Obj} (h:lk n σ.objs=some o):lk n σ'.objs=some o:=hx.obs ha n o h
theorem A0b {tb:Tb} {op:Op} {d:Option Nat} {vc:Prop} {τ:St} (hx:Rd σ σ' X) (ha:IG X σ ns) (H:A0a σ σ' op.operands.toList) (f:∀n∈bA σ op,n∈ns) (R:∀t,d=some t->lk t X.env=none) (Q:∀n,(∃u,lk n τ.objs=some u)->lk n X.objs=none) (h:HT tb σ d op=some (vc,τ)) :
  (∃ag,HT tb σ' d op=some (vc,ag)/\Rd τ ag X)/\∀k,aq tb σ' k op=none:=by
 have O:=hx.obs ha;cases op<;>simp only[HT]at h<;>try(cases h;done)
 case store t x y =>
  refine⟨?_,λ_=>rfl⟩;simp only[HT];have f:∀n∈fS σ (Ap σ x) (Ap σ y),n∈ns:=f;rw[H x (by simp[Op.operands]),H y (by simp[Op.operands])];cases d with
  | some d=>simp[Du]at h
  | none =>
   simp only[Du]at h ⊢;generalize Ap σ x=ah at h f ⊢;generalize Ap σ y=ai at h f ⊢;unfold Hv at h ⊢;split at h
   .rename_i ti n ap off v V;try simp only
    unfold DY at h ⊢;split at h
    .rename_i et st fs hl;rw[hx.some_lk ha hl];try simp only
     unfold FA at h ⊢;split at h
     .rename_i u av h1 C;try rw[h1,C]
      try simp only
      split at h
      .rename_i p;rw[BY p];cases h;exact⟨_,rfl,bB hx ha hl hx.env⟩
      cases h
     cases h
    cases h
   .rename_i ti n e i ap off v V;try simp only
    unfold DZ at h ⊢;split at h
    .rename_i et aa xs hl;rw[hx.some_lk ha hl];try simp only
     cases W:Mx false σ ti.ty v with
     | none=>rw[W]at h;unfold Eg at h;split at h<;>first|(cases h;done)|(rename_i C;cases C)
     | some w =>
      rw[FG O W];rw[W]at h;unfold Eg at h ⊢;split at h
      .rename_i ys w' h1 C;cases C;try rw[h1]
       try simp only
       unfold Fs at h ⊢;split at h
       .rename_i z M;try rw[M]
        try simp only
        split at h
        .rename_i p;rw[BY p];cases h;exact⟨_,rfl,bB hx ha hl hx.env⟩
        cases h
       cases h
      cases h
    .rename_i et Z k e1 xs j hl;rw[hx.some_lk ha hl];try simp only
     split at h
     .rename_i m E hi;try simp only
      split at h
      .rename_i p;rw[BY p];unfold Lq at h ⊢;split at h
       .rename_i G;rw[BY G];unfold Lo at h ⊢;split at h
        .rename_i ax e2 ys B;rw[hx.some_lk ha B];try simp only
         split at h
         .rename_i al;rw[BY al];unfold Kl at h ⊢;split at h
          .rename_i af Y;try rw[Y]
           try simp only
           cases h;have ae:∀q,q∈[n,m]->q∈ns:=λq a=>f q (by simp only[fS,hl,Co,ADv];exact a);refine⟨_,rfl,qV (en:=[]) (new:=[(n,_)]) hx ha (ae n (by simp)) (λq a=>ae q (by simp at a;simp[a])) (λs v h=>by cases h) (λq o a=>Q q ⟨o,?_⟩)⟩;simp only[lk]at a ⊢;split at a
           .rename_i e1;cases a;rw[BY e1]
           cases a
          cases h
         cases h
        cases h
       cases h
      cases h
     cases h
    cases h
   cases h
 case mapUpdate t m x y =>
  refine⟨?_,λ_=>rfl⟩;simp only[HT];rw[H m (by simp[Op.operands]),H x (by simp[Op.operands]),H y (by simp[Op.operands])];cases d with
  | some d=>simp[Du]at h
  | none =>
   simp only[Du]at h ⊢;generalize Ap σ m=ar at h ⊢;generalize Ap σ x=ah at h ⊢;generalize Ap σ y=ai at h ⊢;unfold Kn at h ⊢;split at h
   .try simp only
    unfold Ft at h ⊢;split at h
    .rename_i bb bd l hl;rw[hx.some_lk ha hl];try simp only
     split at h
     .rename_i p;rw[BY p];unfold Gq at h ⊢;split at h
      .rename_i az v1 h1 C;rw[FG O h1,FG O C];try simp only
       split at h
       .rename_i G;rw[BY G];cases h;exact⟨_,rfl,bB hx ha hl hx.env⟩
       cases h
      cases h
     cases h
    cases h
   cases h
 case call cl =>
  obtain⟨callee,⟨args⟩,⟨argTypes⟩⟩:=cl;cases callee with
  | value g=>simp[Dt]at h
  | invoke r m=>simp[Dt]at h
  | builtin b =>
   simp only[Dt]at h;unfold Ei at h;split at h
   .rename_i x y t u;have L:Ap σ' x=Ap σ x:=H x (by simp[Op.operands,Call.operands]);have P:Ap σ' y=Ap σ y:=H y (by simp[Op.operands,Call.operands]);have f:∀n∈J7 σ (Ap σ x) (Ap σ y),n∈ns:=λn hn=>f n (by simpa[bA] using hn);unfold EX at h;split at h
    .rename_i n e hi v A F;rw[A,F]at f;refine⟨?_,λk=>by simp[aq,Ds,Ef,DX,L,A]⟩;simp only[HT,Dt,Ei,EX,L,A,P,F];split at h
     .rename_i c ;have I:=R c rfl;have J:n∈ns:=f n A2C;try simp only
      split at h
      .rename_i K;rw[BY K];unfold Eh at h ⊢;split at h
       .rename_i e2 ao el b2 U;try rw[U]
        try simp only
        split at h
        .rename_i T;rw[BY T];unfold Ce at h ⊢;split at h
         .rename_i ti et aa xs h1 hl;try rw[h1]
          try rw[hx.some_lk ha hl]
          try simp only
          split at h
          .rename_i am;rw[BY am];unfold FB at h ⊢;split at h
           .rename_i af ys C M;try rw[C]
            rw[QE O M];try simp only
            cases h;refine⟨_,rfl,⟨λs=>?_,λm=>?_⟩⟩
            .simp only[lk];by_cases hs:s=c
             .subst hs;rw[BY rfl,BY rfl,I];rfl
             rw[As hs,As hs,Ju,Ju,hx.env];cases D:lk s X.env with
             | none=>rfl
             | some w=>simp[Vr J w (ha.env s w D)]
            simp only[GV,Bk];have ak:lk n X.objs=none:=by
             cases D:lk n X.objs with
             | none=>rfl
             | some w=>exact absurd J (ha.nm n w D)
            by_cases B:m=n
            .subst B;rw[BY rfl,BY rfl,hx.objs,ak];rfl
            rw[As B,As B,hx.objs];cases D:lk m X.objs with
            | none=>rfl
            | some w=>exact AAc some (A08 (ha.arr m w D))
           cases h
          cases h
         .rename_i ti et Z k aa xs h1 hl;try rw[h1]
          try rw[hx.some_lk ha hl]
          try simp only
          split at h
          .rename_i p;rw[BY p];unfold TA at h ⊢;split at h
           .rename_i m E an;try simp only
            unfold Lp at h ⊢;split at h
            .rename_i aj aw ba au ys B;rw[hx.some_lk ha B];try simp only
             split at h
             .rename_i G;rw[BY G];unfold Km at h ⊢;split at h
              .rename_i af Y;try rw[Y]
               try simp only
               cases h;refine⟨_,rfl,qU hx ha (λq a=>f q (by simp only[J7,hl,Co,ADv];exact a)) I ?_⟩;cases D:lk n X.objs with
               | none=>rfl
               | some w=>exact absurd J (ha.nm n w D)
              cases h
             cases h
            cases h
           cases h
          cases h
         cases h
        cases h
       cases h
      cases h
     cases h
    .rename_i n e i len v A F;rw[A,F]at f;refine⟨?_,λk=>by simp[aq,Ds,Ef,DX,L,A]⟩;simp only[HT,Dt,Ei,EX,L,A,P,F];split at h
     .rename_i c ;have I:=R c rfl;have J:n∈ns:=f n (by simp[J7]);try simp only
      split at h
      .rename_i K;rw[BY K];unfold Pl at h ⊢;split at h
       .rename_i e2 ao el b2 U;try rw[U]
        try simp only
        split at h
        .rename_i T;rw[BY T];unfold S9 at h ⊢;split at h
         .rename_i ti et Z k e1 xs h1 hl;try rw[h1]
          try rw[hx.some_lk ha hl]
          try simp only
          split at h
          .rename_i p;rw[BY p];unfold Nr at h ⊢;split at h
           .rename_i ys M;rw[QE O M];try simp only
            split at h
            .rename_i ab;have N:lk c X.objs=none:=by
              refine Q c ?_;cases h;exact⟨_,by simp only[lk,ADv];rfl⟩
             have S:(lk c σ'.objs).isNone=true/\ys.isEmpty=false:=⟨by rw[hx.objs,N];exact ab.1,ab.2⟩;rw[BY S];cases h;refine⟨_,rfl,qV (en:=[(c,_)]) (new:=[(c,_),(n,_)]) hx ha J (λq a=>by cases a) (λs v h=>?_) (λq o a=>?_)⟩
             .simp only[lk]at h;split at h
              .rename_i e1;rw[e1];exact I
              cases h
             simp only[lk]at a;split at a
             .rename_i e1;rw[e1];exact N
             split at a
             .rename_i e1;rw[e1];cases D:lk n X.objs with
              | none=>rfl
              | some w=>exact absurd J (ha.nm n w D)
             cases a
            cases h
           cases h
          cases h
         cases h
        cases h
       cases h
      cases h
     cases h
    .rename_i v A F;rw[A,F]at f;split at h
     .rename_i c ;have I:=R c rfl;split at h
      .rename_i K;unfold Z7 at h;split at h
       .rename_i m E an bc offs el b V;unfold Pn at h;split at h
        .rename_i ti aj Z k e ys h1 B;split at h
         .rename_i p;unfold Pm at h;split at h
          .rename_i G;have N:lk c X.objs=none:=by
            refine Q c ?_;cases h;exact⟨_,by simp only[lk,ADv];rfl⟩
           have S:(lk c σ'.objs).isNone=true:=by rw[hx.objs,N];exact G.1
           have ad:=hx.some_lk ha B;refine⟨?_,λay=>by simp[aq,Ds,Ef,DX,L,A,P,F,K,Ee,Pf,ad,Co];split<;>simp[E9]⟩;cases h;simp only[HT,Dt,Ei,EX,L,A,P,F,Z7,Pn,Pm];rw[BY K,V];simp only;rw[ad,h1];simp only;rw[BY p,BY ⟨S,G.2⟩];exact⟨_,rfl,qU hx ha (λq a=>f q (by simp only[J7,B,Co,ADv];exact a)) I N⟩
          cases h
         cases h
        cases h
       cases h
      cases h
     cases h
    cases h
   cases h
end
end
section
open Go Go.RowKit
def A2D (o:Obj):Bool:=MB o
def MD (o:Oper):EN->Bool
 | []=>true
 | (d,_,_) :: r=>!Aa d (HK o.op)&&!Aa d o.dst.toList&&MD o r
def Ui (ns:List Nat) (σ:List (Nat×Obj)):List (Nat×Obj)->Bool
 | []=>true
 | (n,o) :: r=>(lk n σ).isNone&&!Aa n ns&&A2D o&&Ui ns σ r
def II (ns:List Nat) (σ:List (Nat×Obj)):EN->Bool
 | []=>true
 | (_,_,obs) :: r=>Ui ns σ obs&&II ns σ r
def bC (τ:List (Nat×Obj)):List (Nat×Obj)->Bool
 | []=>true
 | (n,_) :: r=>(lk n τ).isNone&&bC τ r
def TY (τ:List (Nat×Obj)):EN->Bool
 | []=>true
 | (_,_,obs) :: r=>bC τ obs&&TY τ r
def HV (ns:List Nat):EN->EN
 | []=>[]
 | (d,v,obs) :: r=>(d,v.fgt ns,obs) :: HV ns r
def tn (σ:St) (o:Op):List Nat:=DJ σ o++bA (DG (DJ σ o) σ) o
theorem Gz {o:Oper}:∀ {ens:EN},MD o ens=true->∀e∈ens,e.1∉HK o.op/\o.dst≠some e.1
 | [],_,e,a=>by cases a
 | (d,v,obs) :: r,h,e,a=>by
  simp only[MD,An,RH]at h;rcases DO.1 a with rfl|a
  .grind [Am,Aa]
  exact Gz h.2 e a
theorem QR {ns:List Nat} {σ:List (Nat×Obj)}:∀ {l:List (Nat×Obj)},Ui ns σ l=true->∀p∈l,lk p.1 σ=none/\p.1∉ns/\A2D p.2=true
 | [],_,e,a=>by cases a
 | (n,o) :: r,h,p,hp=>by
  simp only[Ui,An,RH,AAh]at h;rcases DO.1 hp with rfl|hp
  .grind [Am]
  exact QR h.2 p hp
theorem G0 {ns:List Nat} {σ:List (Nat×Obj)}:∀ {ens:EN},II ns σ ens=true->∀e∈ens,∀p∈e.2.2,lk p.1 σ=none/\p.1∉ns/\A2D p.2=true
 | [],_,e,a=>by cases a
 | (d,v,obs) :: r,h,e,a=>by
  simp only[II,An]at h;rcases DO.1 a with rfl|a
  .exact QR h.1
  exact G0 h.2 e a
theorem TZ {τ:List (Nat×Obj)}:∀ {l:List (Nat×Obj)},bC τ l=true->∀p∈l,lk p.1 τ=none
 | [],_,e,a=>by cases a
 | (n,o) :: r,h,p,hp=>by
  simp only[bC,An,AAh]at h;rcases DO.1 hp with rfl|hp
  .exact h.1
  exact TZ h.2 p hp
theorem Oh {τ:List (Nat×Obj)}:∀ {ens:EN},TY τ ens=true->∀e∈ens,∀p∈e.2.2,lk p.1 τ=none
 | [],_,e,a=>by cases a
 | (d,v,obs) :: r,h,e,a=>by
  simp only[TY,An]at h;rcases DO.1 a with rfl|a
  .exact TZ h.1
  exact Oh h.2 e a
theorem Oi {ns:List Nat}:∀ {ens:EN},HV ns ens=ens->∀e∈ens,e.2.1.fgt ns=e.2.1
 | [],_,e,a=>by cases a
 | (d,v,obs) :: r,h,e,a=>by
  simp only[HV,AEy,AFu,and_true,true_and]at h;rcases DO.1 a with rfl|a
  .exact h.1
  exact Oi h.2 e a
section
variable {c:Cx} {o:Oper} {σ:St} {ens:EN} {N:St->Prop}
theorem fT {X:St} {ns:List Nat} (b:XIn ens X) (hn:II ns σ.objs ens=true) (hf:HV ns ens=ens):IG X σ ns:=by
 refine⟨λs v hs=>?_,λn o a=>?_,λn o a=>?_,λn o a=>?_⟩
 .obtain⟨obs,d⟩:=b.env s v hs;exact Oi hf _ d
 all_goals
  obtain⟨e,c,hp⟩:=b.objs n o a;have:=G0 hn e c _ hp
 .exact this.2.2
 .exact this.1
 exact this.2.1
theorem Yu (aa:c.Ok) {τ:St} {vc:Prop} (ns:List Nat) (h:Hw c.tb o σ=some (vc,τ)) (T:tn σ o.op=ns) (K:MD o ens=true) (hn:II ns σ.objs ens=true) (R:TY τ.objs ens=true) (hf:HV ns ens=ens) (ab:I8 c.nt o=true) (ad:vc) (Z:N τ):YI c o σ ens N:=by
 subst T;intro X σ' hx j a w next Q hs hk
 have ha:=fT j hn hf;have E:∀t∈HK o.op,lk t X.env=none:=λt z=>by
  cases g:lk t X.env with
  | none=>rfl
  | some v=>obtain⟨obs,f⟩:=j.env t v g;exact absurd z (Gz K _ f).1
 have C:∀t,o.dst=some t->lk t X.env=none:=λt z=>by
  cases g:lk t X.env with
  | none=>rfl
  | some v=>obtain⟨obs,f⟩:=j.env t v g;exact absurd z (Gz K _ f).2
 have F:∀n,(∃u,lk n τ.objs=some u)->lk n X.objs=none:=λn hu=>by
  cases g:lk n X.objs with
  | none=>rfl
  | some v =>
   obtain⟨e,P,hp⟩:=j.objs n v g;obtain⟨u,hu⟩:=hu;rw[Oh R e P _ hp]at hu;cases hu
 have W:=fR hx ha (op:=o.op) (a9 hx E);obtain⟨b,q⟩:=Vz (l:=DJ σ o.op) hx ha (λm f=>by simp[tn,f]);have key:∃k,Hw c.tb o σ'=some (vc,k)/\Rd τ k X:=by
  have G:∀n∈bA (DG (DJ σ o.op) σ) o.op,n∈tn σ o.op:=λm f=>by simp[tn,f]
  unfold Hw TB at h ⊢;rw[W];generalize DG (DJ σ o.op) σ=A at h b q G;generalize DG (DJ σ o.op) σ'=B at b;have J:=a9 b E;cases y:aq c.tb A (o.dst.getD 0) o.op with
  | some r =>
   obtain⟨ae,v,obs⟩:=r;rw[y]at h;have V:=Ue (b.obs q) (λx hx v Y=>by rw[J x hx];exact Y) y;rw[V];simp only[Ns]at h ⊢;split at h
   .rename_i H;cases h;have I:∀n,lk n (A.add v obs o.dst).objs=(lk n obs).or (lk n A.objs):=λn=>by cases o.dst<;>simp only[St.add,A5]
    have U:∀n,lk n (B.add v obs o.dst).objs=(lk n obs).or (lk n B.objs):=λn=>by cases o.dst<;>simp only[St.add,A5]
    have D:∀n u,lk n obs=some u->lk n X.objs=none:=λn u hu=>F n ⟨u,by rw[I,hu];rfl⟩;have S:Bd obs B=true:=by
     simp only[Bd,ON,AAh]at H ⊢;intro p hp;obtain⟨u,hu⟩:=NG hp;rw[b.objs,D _ u hu,H p hp];rfl
    rw[BY S];refine⟨_,rfl,λs=>?_,λn=>?_⟩
    .cases O:o.dst with
     | none=>simp only[St.add];exact b.env s
     | some d =>
      simp only[St.add,lk];by_cases i:s=d
      .rw[BY i,BY i,i,C d O];rfl
      rw[As i,As i];exact b.env s
    rw[I,U,b.objs];cases hu:lk n obs with
    | none=>rfl
    | some u=>rw[D n u hu];rfl
   cases h
  | none =>
   rw[y]at h;simp only[Ns]at h;obtain⟨⟨k,h1,L⟩,M⟩:=A0b b q J G C F h;rw[M];simp only[Ns];exact⟨k,h1,L⟩
 grind [VY,Cr]
theorem fU {σ σ':St}:∀ {xs:List Operand},A0a σ σ' xs->Im σ' xs=Im σ xs
 | [],_=>rfl
 | x :: r,h=>by
  simp only[Im];rw[h x (by simp),fU (λy a=>h y (by simp[a]))]
theorem bD {σ σ':St} (h:dU σ σ') {ren:List (Nat×B1)} {x y:AV} (a:Gy σ ren x y):Gy σ' ren x y:=by
 cases y<;>first|exact a|exact FG h a
theorem Ny {σ σ':St} (h:dU σ σ') {ren:List (Nat×B1)}:∀ {l r:List AV},BJ σ ren l r->BJ σ' ren l r
 | [],[],_=>trivial
 | [],_ :: _,a=>a.elim
 | _ :: _,[],a=>a.elim
 | _ :: _,_ :: _,a=>⟨bD h a.1,Ny h a.2⟩
theorem Nz {l l':List (Nat×Obj)} (h:∀n o,lk n l=some o->lk n l'=some o) {ren:List (Nat×B1)}:∀ {r:List (Nat×Obj)},Ad l ren r->Ad l' ren r
 | [],_=>trivial
 | (m,o) :: r,a=>by
  refine⟨?_,Nz h a.2⟩;have h1:=a.1;cases hf:lk m ren with
  | none=>rw[hf]at h1;exact h1.elim
  | some f =>
   rw[hf]at h1;cases f with
   | nil=>exact h1
   | nm n =>
    simp only[GY]at h1 ⊢;cases hn:lk n l with
    | none=>rw[hn]at h1;simp only[H8]at h1
    | some x=>rw[h n x hn,<-hn];exact h1
theorem A2E (m:Nat) {b τ:St} (g:YI c o σ ens (λd=>d=τ)) (hn:II [m] τ.objs ens=true) (hf:HV [m] ens=ens) (l:frz m τ=b) (i:N b):YI c o σ ens N:=by
 intro X σ' hx e a w next Q hs hk
 refine g X σ' hx e a w next Q hs ?_
 rintro n rfl f w' d k j;refine hk b i f w' (frz m d) ?_ ?_
 .rw[<-l];exact(qT k (fT e hn hf) (by simp)).1
 obtain⟨ρ,h⟩:=j;exact⟨ρ,qH h m⟩
theorem A0c (ae:c.Ok) {dst:Option Nat} {g:Operand} {xs:List Operand} {ts:Array TypeId} {ty:TypeId} {pos:String} {after:Array Edge}
  {f:FuncId} {C:List Nat} (ai:DL (Ap σ g)=some (f,C)) {as:List AV} (ad:Im σ xs=some as)
  {A:List AV} {objs:List (Nat×Obj)} {stay:List Nat} {post:AV->List (Nat×Obj)->Prop} (Z:A9 c.P f A objs stay post)
  (ren:List (Nat×B1)) (hs:List Nat) (h1:B8 ren=true) (U:CO objs ren=true) (al:(c.ds.pin.all λp=>!Aa p.1 hs)=true)
  (H:MD ⟨dst,.call ⟨.value g,xs.toArray,ts⟩,ty,pos,after,none⟩ ens=true) (hn:II (Aj ren) σ.objs ens=true) (hf:HV hs ens=ens) (af:I8 c.nt ⟨dst,.call ⟨.value g,xs.toArray,ts⟩,ty,pos,after,none⟩=true)
  (Y:BJ σ ren (as++C.map λn=>AV.bp n [] 0) A) (aa:Ad σ.objs ren objs)
  (hk:∀res q,post res q->∃(l:List (Nat×B1)) (r:AV) (i:List (Nat×Obj)),B8 l=true/\CO i l=true/\Ad q l i/\Bi l res r /\
   JD ren l stay hs=true/\FK (Aj ren) i σ.objs=true/\TY i ens=true/\N (CP σ (Aj ren) hs dst r i)) :
  YI c ⟨dst,.call ⟨.value g,xs.toArray,ts⟩,ty,pos,after,none⟩ σ ens N:=by
 intro X σ' hx k a w next Q an ak
 have ag:∀s v,lk s X.env=some v->v.fgt hs=v:=λs v hs=>by
  obtain⟨obs,m⟩:=k.env s v hs;exact Oi hf _ m
 have F:dU σ σ':=by
  intro n o x;rw[hx.objs];cases b:lk n X.objs with
  | none=>exact x
  | some ap =>
   obtain⟨e,j,hp⟩:=k.objs n ap b;rw[(G0 hn e j _ hp).1]at x;cases x
 have aj:∀n o,lk n X.objs=some o->n∉Aj ren:=λn o z=>by
  obtain⟨e,j,hp⟩:=k.objs n o z;exact(G0 hn e j _ hp).2.1
 have ab:∀t∈(g :: xs).filterMap QG,lk t X.env=none:=λt B=>by
  cases b:lk t X.env with
  | none=>rfl
  | some v =>
   obtain⟨obs,m⟩:=k.env t v b;refine absurd ?_ (Gz H _ m).1;simpa[HK,Op.operands,Call.operands] using B
 have aq:∀t,dst=some t->lk t X.env=none:=λt B=>by
  cases b:lk t X.env with
  | none=>rfl
  | some v=>obtain⟨obs,m⟩:=k.env t v b;exact absurd B (Gz H _ m).2
 have G:=a9 hx ab;refine aW ae (xs:=xs) (ts:=ts) rfl rfl (by rw[G g (by simp)];exact ai) (by rw[fU (λy ao=>G y (by simp[ao]))];exact ad) Z ren h1 U (Ny F Y) (Nz F aa) hs al an (Cr af) λres q hp=>?_;obtain⟨l,r,i,K,L,M,O,R,D,S,T⟩:=hk res q hp;have E:∀n o,lk n X.objs=some o->lk n i=none:=λn o z=>by
  obtain⟨e,j,hp⟩:=k.objs n o z;exact Oh S e j _ hp
 refine⟨l,r,i,K,L,M,O,R,?_,λJ w' am=>ak _ T J w' _ ⟨λs=>?_,λn=>?_⟩ am⟩
 .simp only[FK,ON,Sx,AAh]at D ⊢;intro p hp;rcases D p hp with h|h
  .exact .inl h
  right;rw[hx.objs,h];cases b:lk p.1 X.objs with
  | none=>rfl
  | some u =>
   obtain⟨au,I⟩:=NG hp;rw[E _ u b]at I;cases I
 .have ah:lk s (CN hs σ'.env)=(lk s X.env).or (lk s (CN hs σ.env)):=by
   rw[Es,Es,hx.env];cases b:lk s X.env with
   | none=>rfl
   | some v=>simp[ag s v b]
  simp only[CP];cases dst with
  | none=>exact ah
  | some d =>
   simp only[K5,lk];by_cases ar:s=d
   .grind
   grind
 simp only[CP,A5,B7,hx.objs];cases b:lk n X.objs with
 | none=>simp
 | some u =>
  have W:MB u=true:=by
   obtain⟨e,j,hp⟩:=k.objs n u b;exact(G0 hn e j _ hp).2.2
  have V:¬Aa n (Aj ren)=true:=λh=>aj n _ b ((Am _ _).1 h);rw[E n _ b,As V];exact AAc some (Yt W)
end
section
variable {c:Cx} {ops:List Oper} {Kf:St->Prop} {τ:St} {ens:EN} {vc:Prop}
theorem A2F {D:List Nat} (h:mM c.tb ops τ.objs D [] τ.env=some (vc,ens)) (b:vc) (a:R1 ens τ.objs=true) (hk:Kf (L9 ens τ)):Mix c ops Kf [] D ens τ:=⟨⟨vc,h,b,a⟩,hk⟩
theorem A2G {A D:List Nat} {l:Nat} {b:List (List Nat×Nat)} {o:Oper} {d:St} {a:EN} (h:mM c.tb ops τ.objs (A++qs b D) [] τ.env=some (vc,ens)) (j:vc) (g:R1 ens τ.objs=true) (i:ops[l]?=some o) (k:L9 (ens.take A.length) τ=d) (f:ens.drop A.length=a)
  (e:YI c o d a (λm=>Mix c ops Kf b D a m)):Mix c ops Kf ((A,l) :: b) D ens τ:=by
 subst k f;exact⟨⟨vc,h,j,g⟩,o,i,e⟩
end
end
section
open Go
attribute [local go_sem] eZ AM List.toList_toArray Bn evG evK YA Er Ko Gx Fy Hw TB Ns DJ DS My CY DG frz lK Gr DR A4 Fj Bb AV.frz AV.frzs AV.drp AV.drps AV.names AV.namess aq Gu LS Kd UK JR Bc Bg Jr Eb Ir Ec Iu It Iv VJ Ph HJ Kg Fm EW VK Ri qUn Js Iw Ll FJ Dr JU Kh Ed UL DX Ee E9 Rj Ix Nq FW Np Pi Rk Lm JV Ki Ef Ds HT Du Hv DY FA DZ Eg Fs CY Co Pf Rh OO Gp JT JS Ke Pl S9 Nr Lq Lo Kl TA Lp Km Z7 Pn Pm AV.trn AV.trns E3 DI Obj.trn J7 fS Dt Ei EX Eh Ce FB Ap lk HY Gt Hs bin lJ YD lM S7 zP zQ pfs AV.cells CF Jq Pg Kk Pk CT Nn Ty.cell1 Iq E4 Dq GK Mx E2 Kb Lk Rc FU HI Nf UI VI Lj KZ Z5 dY S6 Hr Cp HS RV.flat Ty.flat Ty.size St.add upd del Bd Value.oneCell' Lg Ty.dflt Ip QD H9 QO List.take_succ_cons List.take_zero List.length_cons fF fG QN J4 L6 Hm J5 A2h Fz M9 NA NB NC Rv Rw ND JA Vb Option.map_some Option.map_none Option.bind_some Option.getD_some Option.getD_none Option.isNone_none Option.isNone_some Bool.and_true Bool.true_and Bool.and_false Bool.false_and Bool.not_true Bool.not_false if_true if_false List.length_cons List.length_nil and_true true_and and_self List.all_cons List.all_nil List.append_nil List.nil_append List.cons_append List.getElem?_cons_zero List.getElem?_cons_succ List.getElem?_nil List.map_cons List.map_nil List.set_cons_zero List.set_cons_succ List.isEmpty_nil List.isEmpty_cons decide_true decide_false beq_self_eq_true bne_self_eq_false Nat.zero_add Nat.add_zero Nat.sub_zero Int.toNat_natCast Int.toNat_zero Int.toNat_one List.take_length List.length_append List.length_singleton true_or or_true or_self false_or or_false Ty.agg.injEq Ty.slice.injEq Ty.prod.injEq Ty.int.injEq Option.some.injEq beq_iff_eq L4 evMG evMQ opM IB L2 B4 J0 HK QG Jy IA JB Kx LY Ob Nx Oc UO L3 QI QJ Jz Aa Al Op.operands Call.operands List.filterMap_cons List.filterMap_nil List.append_eq Bool.cond_false_right Bool.cond_true_left cond_true cond_false implies_true decide_eq_true_eq beq_true beq_false Bool.or_true Bool.or_false Bool.true_or Bool.false_or Option.isSome_some Array.empty_append List.append_toArray Fk Mz FC Ht Z6 Pj Fq GU GT Iy Hu Kj Ln YE lL Ik inB Kn Ft Gq Jt Ak fH List.drop_zero Df IC aX CP K5 CN AV.fgt AV.fgts Obj.fgt Ar Aj Aa DL Im BJ Gy List.any_cons List.any_nil mM fJ aY fL L9 R1 qs List.flatMap_cons List.flatMap_nil List.cons_append tn bA HV List.take_succ_cons List.drop_succ_cons B8 CO Ad FF Kw Bi FE Dw H7 I9 GY H8
end
end Go.Proofs.YtapkhdkbkodbjaaGreat.Fw
