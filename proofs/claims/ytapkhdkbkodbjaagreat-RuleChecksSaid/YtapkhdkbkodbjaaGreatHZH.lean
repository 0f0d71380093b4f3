/- Regions in which operations on memory float among quiet ones. -/
import Derived.Test.YtapkhdkbkodbjaaGreatHZG
set_option linter.unusedVariables false
set_option linter.unusedSimpArgs false
namespace Go.Proofs.YtapkhdkbkodbjaaGreat.Fw
section
open Go Go.RowKit
abbrev EN:=List (Nat×AV×List (Nat×Obj))
def bB (x:Option Oper) (f:Oper->Option (Prop×EN)):Option (Prop×EN) :=
 match x with
 | some o=>f o
 | none=>none
def YB (d:Option Nat) (r:Bb) (f:Nat->Prop->AV->List (Nat×Obj)->Option (Prop×EN)):Option (Prop×EN) :=
 match d,r with
 | some d,some (vc,v,obs)=>f d vc v obs
 | _,_=>none
def bC (d:Nat) (vc:Prop) (v:AV) (obs:List (Nat×Obj)) (r:Option (Prop×EN)):Option (Prop×EN) :=
 match r with
 | some (a,l)=>some (vc/\a,(d,v,obs) :: l)
 | none=>none
def pX (tb:Tb) (ops:List Oper) (base:List (Nat×Obj)):List Nat->List (Nat×List (Nat×Obj))->List (Nat×AV)->Option (Prop×EN)
 | [],_,_=>some (True,[])
 | i :: Q,E,env=>bB (ops[i]?) λo=>YB o.dst (aq tb ⟨env,LZ false o.op base E⟩ (o.dst.getD 0) o.op) λd vc v obs=>bC d vc v obs (pX tb ops base Q (JC d obs E) ((d,v) :: env))
def Lo:EN->St->St
 | [],σ=>σ
 | (d,v,obs) :: r,σ=>Lo r ⟨(d,v) :: σ.env,obs++σ.objs⟩
def QC:EN->List (Nat×Obj)->Bool
 | [],_=>true
 | (_,_,obs) :: r,objs=>(obs.all λp=>(lk p.1 objs).isNone)&&QC r (obs++objs)
def A8B (tb:Tb) (ops:List Oper) (Q:List Nat) (ens:EN) (τ:St):Prop:=∃vc:Prop,pX tb ops τ.objs Q [] τ.env=some (vc,ens)/\vc/\QC ens τ.objs=true
def qs (a:List (List Nat×Nat)) (D:List Nat):List Nat:=(a.flatMap (·.1))++D
def qB1 (ops:List Oper) (anc:List (List Nat)) (L Q:List Nat):List Nat->List Nat->Bool
 | [],_=>true
 | i :: r,pre=>(match ops[i]? with
   | some o=>o.dst.isSome&&o.guard.isNone&&((EM o).all λe=>Aa e L||Aa e pre)&&((Gy o.op).all λt=>Q.all λj=>Aj ops j != some t||(Aa j (anc.getD i [])&&Aa j pre))&&(pre.all λj=>Aj ops j != o.dst)&&!Aa i L&&!Aa i pre
   | none=>false)&&qB1 ops anc L Q r (i :: pre)
def Tv (ops:List Oper) (anc:List (List Nat)) (p0:Nat):List Nat->List (List Nat×Nat)->List Nat->Bool
 | L,[],D=>qB1 ops anc L D D []&&((List.range p0).all λi=>Aa i L||Aa i D)&&decide (L.length+D.length=p0)&&decide (p0<=ops.length)&&(L.all λi=>decide (i<p0))&&(D.all λi=>decide (i<p0))&&((List.range ops.length).all λi=>decide (i<p0)||(List.range i).all λj=>Aa j (anc.getD i []))
 | L,(A,l) :: a,D=>qB1 ops anc L (A++qs a D) (A++qs a D) []&&(match ops[l]? with
   | some o=>o.guard.isNone&&((EM o).all λe=>Aa e L||Aa e A)&&(A.all λj=>Aa j (anc.getD l []))&&!Aa l L&&!Aa l (A++qs a D)
   | none=>false)&&(a.all λp=>Aa l (anc.getD p.2 []))&&Tv ops anc p0 (l :: (A++L)) a D
def A8C (ops:List Oper) (anc:List (List Nat)):Bool :=
 (List.range ops.length).all λi=>match ops[i]? with|some o=>((EM o).all λe=>decide (e<i))&&((anc.getD i []).all λj=>Aa j (EM o)||(EM o).any λe=>Aa j (anc.getD e []))|none=>false
structure RL (σ σ' X:St):Prop where
 env:∀s,lk s σ'.env=(lk s X.env).or (lk s σ.env)
 objs:∀n,lk n σ'.objs=(lk n X.objs).or (lk n σ.objs)
structure XIn (ens:EN) (X:St):Prop where
 env:∀s v,lk s X.env=some v->∃obs,(s,v,obs)∈ens
 objs:∀n o,lk n X.objs=some o->∃e∈ens,(n,o)∈e.2.2
def qR (c:Cx) (o:Oper) (σ:St) (ens:EN) (N:St->Prop):Prop :=
 ∀(X σ':St),RL σ σ' X->XIn ens X->∀(a:Act) (w:World) (next:Act->World->Prop) (Q:Exit->Act->World->Prop),c.sat σ' a w ->
  (∀τ,N τ->∀(b:Act) (w':World) (d:St),RL τ d X->c.sat d b w'->next b w')->o.wpIn (FR c.r) 0 c.P a w next Q
def Mix (c:Cx) (ops:List Oper) (Kf:St->Prop):List (List Nat×Nat)->List Nat->EN->St->Prop
 | [],D,ens,τ=>A8B c.tb ops D ens τ/\Kf (Lo ens τ)
 | (A,l) :: a,D,ens,τ=>A8B c.tb ops (A++qs a D) ens τ/\∃o,ops[l]?=some o/\qR c o (Lo (ens.take A.length) τ) (ens.drop A.length) (λb=>Mix c ops Kf a D (ens.drop A.length) b)
def Oj (Q:List Nat) (ens:EN) (i:Nat):En :=
 match lk i (Q.zip ens) with
 | some (_,v,obs)=>⟨true,v,obs⟩
 | none=>⟨true,.top,[]⟩
section
variable {ops:List Oper} {en:Nat->En} {τ:St}
theorem Ri:∀(l:List Nat),(Aq ops en τ l).env=(Aq ops en ⟨[],[]⟩ l).env++τ.env
 | []=>rfl
 | i :: r=>by
  simp only[Aq];cases Aj ops i with
  | none=>simp only[St.add];exact Ri r
  | some d=>simp only[St.add,ADh];rw[Ri r]
theorem qS (l:List Nat):(Aq ops en τ l).objs=(Aq ops en ⟨[],[]⟩ l).objs++τ.objs:=by
 rw[Ft,Ft];simp
theorem A1J (l:List Nat):RL τ (Aq ops en τ l) (Aq ops en ⟨[],[]⟩ l) :=
 ⟨λs=>by rw[Ri,A9],λn=>by rw[qS,A9]⟩
structure Own (ops:List Oper) (en:Nat->En) (τ:St) (Q:List Nat):Prop where
 slot:∀i∈Q,∀j∈Q,∀s,Aj ops i=some s->Aj ops j=some s->i=j
 new:∀i∈Q,∀n o,lk n (en i).obs=some o->lk n τ.objs=none
 name:∀i∈Q,∀j∈Q,∀n o o',lk n (en i).obs=some o->lk n (en j).obs=some o'->i=j
theorem lkE {Q l:List Nat} (h:Own ops en τ Q) (c:∀i∈l,i∈Q) (s:Nat) (v:AV):lk s (Aq ops en τ l).env=some v↔(∃i∈l,Aj ops i=some s/\(en i).v=v)\/((∀i∈l,Aj ops i≠some s)/\lk s τ.env=some v):=by
 rw[Fu];cases hf:l.find? (λj=>Aj ops j==some s) with
 | none =>
  have hn:∀i∈l,Aj ops i≠some s:=λi hi=>by simpa using AEH.1 hf i hi
  constructor
  ·grind
  ·grind
 | some j =>
  have b:=AE7 hf;have a:Aj ops j=some s:=by simpa using AEY hf
  constructor
  ·grind
  ·rintro (⟨i,hi,d,rfl⟩|⟨hn,_⟩)
   ·rw[h.slot i (c i hi) j (c j b) s d a]
   ·exact absurd a (hn j b)
theorem lkO {Q l:List Nat} (h:Own ops en τ Q) (d:∀i∈l,i∈Q) (n:Nat) (o:Obj):lk n (Aq ops en τ l).objs=some o↔(∃i∈l,lk n (en i).obs=some o)\/((∀i∈l,lk n (en i).obs=none)/\lk n τ.objs=some o):=by
 rw[Ft,A9];cases hf:lk n (l.flatMap λj=>(en j).obs) with
 | some e =>
  obtain⟨j,c,a⟩:=u9 hf;simp only[AEK];constructor
  ·grind
  ·rintro (⟨i,hi,b⟩|⟨hn,_⟩)
   ·have:=h.name i (d i hi) j (d j c) n o e b a;subst this;rw[<-a,b]
   ·rw[hn j c]at a;cases a
 | none =>
  have hn:=Ky hf;simp only[Option.none_or];constructor
  ·grind
  ·grind
theorem yO {Q l A:List Nat} (h:Own ops en τ Q) (k:∀i∈l,i∈Q) (m:∀i∈A,i∈l):RL (Aq ops en τ A) (Aq ops en τ l) (Aq ops en ⟨[],[]⟩ (l.filter λi=>!Aa i A)):=by
 have h0:Own ops en ⟨[],[]⟩ Q:=⟨h.slot,λ_ _ _ _ _=>rfl,h.name⟩;have hf:∀i∈l.filter (λi=>!Aa i A),i∈Q:=λi hi=>k i (ACV.1 hi).1;have p:∀i∈A,i∈Q:=λi hi=>k i (m i hi);have g:∀i,i∈l.filter (λi=>!Aa i A)↔i∈l/\i∉A:=λi=>by grind [Al,Aa]
 refine⟨λs=>AEM λv=>?_,λn=>AEM λo=>?_⟩
 ·rw[lkE h k,Option.or_eq_some_iff,lkE h0 hf,lkE h p];constructor
  ·rintro (⟨i,hi,d,a⟩|⟨hn,a⟩)
   ·by_cases c:i∈A
    ·refine .inr ⟨?_,.inl ⟨i,c,d,a⟩⟩;cases b:lk s (Aq ops en ⟨[],[]⟩ (l.filter λi=>!Aa i A)).env with
     | none=>rfl
     | some u =>
      rcases (lkE h0 hf s u).1 b with ⟨j,e,f,_⟩|⟨_,b⟩
      ·have:=h.slot i (k i hi) j (hf j e) s d f;subst this;exact absurd c ((g i).1 e).2
      ·cases b
    ·exact .inl (.inl ⟨i,(g i).2 ⟨hi,c⟩,d,a⟩)
   ·refine .inr ⟨?_,.inr ⟨λi hi=>hn i (m i hi),a⟩⟩;cases b:lk s (Aq ops en ⟨[],[]⟩ (l.filter λi=>!Aa i A)).env with
    | none=>rfl
    | some u =>
     rcases (lkE h0 hf s u).1 b with ⟨j,e,f,_⟩|⟨_,b⟩
     ·exact absurd f (hn j ((g j).1 e).1)
     ·cases b
  ·rintro ((⟨i,hi,d,a⟩|⟨_,a⟩)|⟨b,⟨i,hi,d,a⟩|⟨hn,a⟩⟩)
   ·grind
   ·cases a
   ·grind
   ·refine .inr ⟨λi hi d=>?_,a⟩;by_cases c:i∈A
    ·exact hn i c d
    ·have:=(lkE h0 hf s (en i).v).2 (.inl ⟨i,(g i).2 ⟨hi,c⟩,d,rfl⟩);rw[b]at this;cases this
 ·rw[lkO h k,Option.or_eq_some_iff,lkO h0 hf,lkO h p];constructor
  ·rintro (⟨i,hi,a⟩|⟨hn,a⟩)
   ·by_cases c:i∈A
    ·refine .inr ⟨?_,.inl ⟨i,c,a⟩⟩;cases b:lk n (Aq ops en ⟨[],[]⟩ (l.filter λi=>!Aa i A)).objs with
     | none=>rfl
     | some u =>
      rcases (lkO h0 hf n u).1 b with ⟨j,e,f⟩|⟨_,b⟩
      ·have:=h.name i (k i hi) j (hf j e) n _ _ a f;subst this;exact absurd c ((g i).1 e).2
      ·cases b
    ·exact .inl (.inl ⟨i,(g i).2 ⟨hi,c⟩,a⟩)
   ·refine .inr ⟨?_,.inr ⟨λi hi=>hn i (m i hi),a⟩⟩;cases b:lk n (Aq ops en ⟨[],[]⟩ (l.filter λi=>!Aa i A)).objs with
    | none=>rfl
    | some u =>
     rcases (lkO h0 hf n u).1 b with ⟨j,e,f⟩|⟨_,b⟩
     ·rw[hn j ((g j).1 e).1]at f;cases f
     ·cases b
  ·rintro ((⟨i,hi,a⟩|⟨_,a⟩)|⟨b,⟨i,hi,a⟩|⟨hn,a⟩⟩)
   ·grind
   ·cases a
   ·grind
   ·refine .inr ⟨λi hi=>?_,a⟩;by_cases c:i∈A
    ·exact hn i c
    ·cases d:lk n (en i).obs with
     | none=>rfl
     | some u =>
      have:=(lkO h0 hf n u).2 (.inl ⟨i,(g i).2 ⟨hi,c⟩,d⟩);rw[b]at this;cases this
end
def A1M (tb:Tb) (ops:List Oper) (τ:St) (en:Nat->En) (pre:List Nat) (i:Nat) (o:Oper):Prop :=
 ∃vc:Prop,aq tb ⟨(Aq ops en τ pre).env,B2 false (Gy o.op) τ.objs (ES ops en pre)⟩ (o.dst.getD 0) o.op=some (vc,(en i).v,(en i).obs)/\vc
theorem fP {ts:List Nat} {base:List (Nat×Obj)} {d:Nat} {obs:List (Nat×Obj)} {E:List (Nat×List (Nat×Obj))}:B2 false ts base (JC d obs E)=B2 false ts base ((d,obs) :: E):=by
 cases obs with
 | nil=>simp only[JC,B2,ADw];split<;>rfl
 | cons x r=>rfl
theorem A1N {o:Op} {base:List (Nat×Obj)} {E:List (Nat×List (Nat×Obj))}:LZ false o base E=B2 false (Gy o) base E:=by
 cases E<;>rfl
theorem Ym {tb:Tb} {ops:List Oper} {τ:St} {en:Nat->En}:∀ {Q:List Nat} {ens:EN} {pre:List Nat} {E:List (Nat×List (Nat×Obj))} {vc:Prop},pX tb ops τ.objs Q E (Aq ops en τ pre).env=some (vc,ens)->vc ->
  (∀ts,B2 false ts τ.objs E=B2 false ts τ.objs (ES ops en pre))->(∀(j i:Nat) (e:Nat×AV×List (Nat×Obj)),Q[j]?=some i->ens[j]?=some e->en i=⟨true,e.2.1,e.2.2⟩) ->
  ens.length=Q.length/\∀(j i:Nat),Q[j]?=some i->∃(o:Oper) (e:Nat×AV×List (Nat×Obj)),ops[i]?=some o/\ens[j]?=some e/\Aj ops i=some e.1/\A1M tb ops τ en ((Q.take j).reverse++pre) i o
 | [],ens,pre,E,vc,h,q,g,m=>by grind [pX]
 | i :: Q,ens,pre,E,vc,h,q,g,m=>by
  simp only[pX]at h;cases b:ops[i]? with
  | none=>rw[b]at h;simp[bB]at h
  | some o =>
   rw[b]at h;simp only[bB]at h;cases a:o.dst with
   | none=>rw[a]at h;simp[YB]at h
   | some d =>
    cases c:aq tb ⟨(Aq ops en τ pre).env,LZ false o.op τ.objs E⟩ (o.dst.getD 0) o.op with
    | none=>rw[c,a]at h;simp[YB]at h
    | some r =>
     obtain⟨y,v,obs⟩:=r;rw[c,a]at h;simp only[YB]at h;cases n:pX tb ops τ.objs Q (JC d obs E) ((d,v) :: (Aq ops en τ pre).env) with
     | none=>rw[n]at h;simp[bC]at h
     | some p =>
      obtain⟨A,z⟩:=p;rw[n]at h;simp only[bC]at h;cases h;have hi:=m 0 i (d,v,obs) rfl rfl;have l:Aj ops i=some d:=by simp[Aj,b,a]
      have w:(Aq ops en τ (i :: pre)).env=(d,v) :: (Aq ops en τ pre).env:=by simp[Aq,l,St.add,hi]
      have s:=Ym (pre:=i :: pre) (by rw[w];exact n) q.2 (λts=>by
       rw[fP];simp only[ES,So,l,AEr,hi,B2];rw[g ts];rfl) (λj k e h1 f=>m (j+1) k e (by simpa using h1) (by simpa using f))
      refine⟨by simp[s.1],λj k hk=>?_⟩;cases j with
      | zero =>
       simp only[ADY,ACW]at hk;subst hk;refine⟨o,(d,v,obs),b,rfl,l,y,?_,q.1⟩;rw[A1N,g]at c;simp only[ACX,List.reverse_nil,ADw];rw[hi];exact c
      | succ j =>
       obtain⟨x,e,h1,f,t,u⟩:=s.2 j k (by simpa using hk);refine⟨x,e,h1,by simpa using f,t,?_⟩;simpa[tO] using u
theorem Rj:∀ {ens:EN} {objs:List (Nat×Obj)},QC ens objs=true->∀(j:Nat) (e:Nat×AV×List (Nat×Obj)),ens[j]?=some e->∀n o,lk n e.2.2=some o->lk n objs=none/\∀(b:Nat) (a:Nat×AV×List (Nat×Obj)) (c:Obj),ens[b]?=some a->lk n a.2.2=some c->j=b
 | [],objs,_,j,e,h=>by simp at h
 | (d,v,obs) :: r,objs,h,j,e,f=>by
  simp only[QC,AT,IS,oS]at h;have h0:∀n o,lk n obs=some o->lk n objs=none:=λn o hn=>h.1 _ (F8 hn);have g:=Rj h.2;grind [lk,A9]
end
section
open Go Go.RowKit
structure Yn (ops:Array Oper) (anc:List (List Nat)):Prop where
 lt:∀i o,ops[i]?=some o->∀e∈EM o,e<i
 cl:∀i o,ops[i]?=some o->∀j∈anc.getD i [],j∈EM o\/∃e∈EM o,j∈anc.getD e []
theorem A9R {ops:Array Oper} {anc:List (List Nat)} (h:A8C ops.toList anc=true):Yn ops anc:=by
 simp only[A8C,IS,Sl]at h;have hi:∀i o,ops[i]?=some o->((EM o).all λe=>decide (e<i))=true/\((anc.getD i []).all λj=>Aa j (EM o)||(EM o).any λe=>Aa j (anc.getD e []))=true:=by grind
 refine⟨λi o a e b=>?_,λi o a j c=>?_⟩
 ·grind
 ·grind [Al]
section
variable {ops:Array Oper} {k:Nat} {anc:List (List Nat)} {Q:Exit->Act->World->Prop}
theorem TE (a:Yn ops anc) {listed:Array Bool} (g:∀i o,ops[i]?=some o->listed.getD i true=true->∀e∈EM o,listed.getD e false=true) :
  ∀i o,ops[i]?=some o->(∀e∈EM o,listed.getD e false=true)->∀j∈anc.getD i [],listed.getD j false=true:=by
 intro i;induction i using Nat.strongRecOn with
 | _ i l =>
  intro o b c j f;rcases a.cl i o b j f with h1|⟨e,d,h⟩
  ·exact c j h1
  ·have k:=a.lt i o b e d;grind
theorem Rk {F:Fence} {P:Program} (g:Yn ops anc) (q:∀i o,ops[i]?=some o->k<=i->∀j,j<i->j∈anc.getD i []):∀ {rest:List Oper} {p:Nat} {listed:Array Bool} {a:Act} {w:World},ops.toList.drop p=rest->k<=p->p<=ops.size->listed.size=ops.size ->
  (∀i,i<ops.size->(listed.getD i true=true↔i<p))->wpListIn F 0 P ops Q rest a w->wpAnyIn F 0 P .any ops Q rest.length listed a w
 | [],p,listed,a,w,l,C,D,m,f,c=>by
  have hp:p=ops.size:=by
   have:=AD0 List.length l;simp at this;omega
  refine⟨?_,c⟩;apply AEo.2;grind [Dn]
 | o :: r,p,listed,a,w,l,C,D,m,f,c=>by
  obtain⟨d,v⟩:=Ye l;have d:ops[p]?=some o:=by simpa using d
  have E:p<ops.size:=(TO.1 d).1;have x:∀e b,e<ops.size->listed.getD e b=listed.getD e true:=λe b h=>by grind
  have L:∀i o,ops[i]?=some o->listed.getD i true=true->∀e∈EM o,listed.getD e false=true:=by
   intro i o u h1 e h;have H:i<ops.size:=(TO.1 u).1;have J:=(f i H).1 h1;have K:=g.lt i o u e h;grind
  have G:∀i,i∈Region.ready .any ops listed->i=p:=by grind [Dn,TE]
  refine⟨λM=>?_,λi hi=>?_⟩
  ·exfalso;have:p∈Region.ready .any ops listed:=by
    rw[Dn];refine⟨?_,o,d,λe h=>?_⟩
    ·cases hh:listed.getD p true with
     | false=>rfl
     | true=>have:=(f p E).1 hh;omega
    ·have:=g.lt p o d e h;rw[x e false (by omega)];exact(f e (by omega)).2 this
   grind
  ·have z:=G i hi;subst z;have t:∀(j:Nat),j<ops.size->((listed.setIfInBounds i true).getD j true=true↔j<i+1):=by
    intro j A;have B:j<listed.size:=by omega
    by_cases s:j=i
    ·subst s;simp[Array.getD,B]
    ·have h1:(listed.setIfInBounds i true).getD j true=listed.getD j true:=getD_set_ne true (λe=>s e.symm);rw[h1,f j A];omega
   unfold wpOpIn;rw[d];simp only;unfold wpListIn at c;split
   ·rename_i n;rw[BY n]at c;exact Oper.wpIn_mono (λI w' y=>Rk g q v.symm (by omega) (by omega) (by simpa using m) t y) c
   ·rename_i n;rw[An n]at c;exact⟨c.1,Rk g q v.symm (by omega) (by omega) (by simpa using m) t c.2⟩
end
structure QOk (ops:List Oper) (anc:List (List Nat)) (L Q:List Nat):Prop where
 nodup:Q.Nodup
 pos:∀(j i:Nat),Q[j]?=some i->i∉L/\∃o,ops[i]?=some o/\o.guard=none/\(∀e∈EM o,e∈L\/e∈Q.take j)/\(∀t∈Gy o.op,∀k∈Q,Aj ops k=some t->k∈anc.getD i []/\k∈Q.take j)
 slot:∀i∈Q,∀j∈Q,∀s,Aj ops i=some s->Aj ops j=some s->i=j
theorem fQ {ops:List Oper} {anc:List (List Nat)} {L Q:List Nat}:∀ {r pre:List Nat},qB1 ops anc L Q r pre=true ->
  (∀(j i:Nat),r[j]?=some i->i∉L/\i∉pre/\i∉r.take j/\∃o,ops[i]?=some o/\o.guard=none/\(∀e∈EM o,e∈L\/e∈pre\/e∈r.take j)/\(∀t∈Gy o.op,∀k∈Q,Aj ops k=some t->k∈anc.getD i []/\(k∈pre\/k∈r.take j)) /\
   ∀k,k∈pre\/k∈r.take j->Aj ops k≠Aj ops i)
 | [],pre,h,j,i,a=>by simp at a
 | x :: r,pre,h,j,i,a=>by
  simp only[qB1,AT]at h;obtain⟨h1,s⟩:=h;cases j with
  | zero =>
   simp only[ADY,ACW]at a;subst a;cases f:ops[x]? with
   | none=>rw[f]at h1;cases h1
   | some o =>
    rw[f]at h1;simp only[AT,IS,Su,Al,AEc,SZ,oS]at h1;obtain⟨⟨⟨⟨⟨⟨A,q⟩,B⟩,C⟩,D⟩,c⟩,d⟩:=h1;refine⟨λh=>(by rw[(Al _ _).2 h]at c;cases c),λh=>(by rw[(Al _ _).2 h]at d;cases d),by simp,o,rfl,q,λe v=>?_,λt w k hk u=>?_,λk hk=>?_⟩
    ·grind
    ·grind
    ·grind [Aj]
  | succ j =>
   obtain⟨g,b,l,o,m,n,y,z,p⟩:=fQ s j i (by simpa using a);simp only[Do,not_or]at b;refine⟨g,b.2,by simp[tO,b.1,l],o,m,n,λe v=>?_,λt w k hk u=>?_,λk hk=>p k ?_⟩
   ·grind
   ·grind
   ·grind
theorem fR {α:Type} {l:List α} {i j:Nat} {x:α} (h:l[i]?=some x) (a:i<j):x∈l.take j:=by
 rw[UO];exact⟨i,by rw[Sr,BY a];exact h⟩
theorem qOk {ops:List Oper} {anc:List (List Nat)} {L Q:List Nat} (h:qB1 ops anc L Q Q []=true):QOk ops anc L Q:=by
 have hs:=fQ h;have m:∀ {i j x y:Nat},Q[i]?=some x->Q[j]?=some y->i<j->x≠y/\Aj ops x≠Aj ops y:=by grind [fR]
 refine⟨?_,λj i c=>?_,λi hi j c s h1 q=>?_⟩
 ·rw[List.nodup_iff_pairwise_ne,Si];intro i j hi c l e;exact(m (As hi) (As c) l).1 e
 ·obtain⟨d,_,_,o,f,g,n,p,_⟩:=hs j i c;refine⟨d,o,f,g,λe v=>?_,λt w k hk u=>?_⟩
  ·grind
  ·grind
 ·obtain⟨a,ha⟩:=UO.1 hi;obtain⟨b,r⟩:=UO.1 c;grind
theorem qT:∀ {Q:List Nat} {ens:EN},Q.Nodup->∀(j i:Nat) (e:Nat×AV×List (Nat×Obj)),Q[j]?=some i->ens[j]?=some e->Oj Q ens i=⟨true,e.2.1,e.2.2⟩
 | [],ens,_,j,i,e,h,_=>by simp at h
 | x :: Q,[],_,j,i,e,_,h=>by simp at h
 | x :: Q,f :: ens,hn,j,i,e,h1,a=>by
  cases j with
  | zero =>
   simp only[ADY,ACW]at h1 a;subst h1;subst a;simp[Oj,AED,lk]
  | succ j =>
   have h1:Q[j]?=some i:=by simpa using h1
   have b:i≠x:=λe=>by grind
   have:=qT (UN.1 hn).2 j i e h1 (by simpa using a);simp only[Oj,AED,lk,An b]at this ⊢;exact this
structure Fr (tb:Tb) (ops:List Oper) (anc:List (List Nat)) (L Q:List Nat) (ens:EN) (τ:St):Prop where
 q:QOk ops anc L Q
 len:ens.length=Q.length
 own:Own ops (Oj Q ens) τ Q
 at_:∀(j i:Nat),Q[j]?=some i->∃(o:Oper) (e:Nat×AV×List (Nat×Obj)),ops[i]?=some o/\ens[j]?=some e/\Aj ops i=some e.1/\Oj Q ens i=⟨true,e.2.1,e.2.2⟩/\A1M tb ops τ (Oj Q ens) (Q.take j).reverse i o
theorem A1O {tb:Tb} {ops:List Oper} {anc:List (List Nat)} {L Q:List Nat} {ens:EN} {τ:St} (d:QOk ops anc L Q) (h:A8B tb ops Q ens τ):Fr tb ops anc L Q ens τ:=by
 obtain⟨vc,h1,p,q⟩:=h;have u:=λ(j i:Nat) (e:Nat×AV×List (Nat×Obj))=>qT (ens:=ens) d.nodup j i e;obtain⟨t,hf⟩:=Ym (en:=Oj Q ens) (pre:=[]) h1 p (λts=>rfl) u;have k:∀i∈Q,∃(j:Nat) (e:Nat×AV×List (Nat×Obj)),Q[j]?=some i/\ens[j]?=some e/\Oj Q ens i=⟨true,e.2.1,e.2.2⟩:=by
  intro i hi;obtain⟨j,c⟩:=UO.1 hi;grind
 refine⟨d,t,⟨d.slot,λi hi n o hn=>?_,λi hi j c n o x f g=>?_⟩,λj i c=>?_⟩
 ·grind [Rj]
 ·obtain⟨a,e,ha,r,v⟩:=k i hi;obtain⟨b,m,l,s,w⟩:=k j c;rw[v]at f;rw[w]at g;have:=(Rj q a e r n o f).2 b m x s g;subst this;rw[ha]at l;injection l
 ·grind
theorem yP {ops:List Oper} {en:Nat->En} {τ:St} {Q:List Nat} (h:Own ops en τ Q) {ts pre ex:List Nat} (hp:∀j∈pre,j∈Q) (e:∀j∈ex,j∈Q) (d:∀j∈pre,Aa ((Aj ops j).getD 0) ts=true->j∈ex) {n:Nat} {o:Obj} :
  lk n (B2 false ts τ.objs (ES ops en pre))=some o->lk n (Aq ops en τ ex).objs=some o:=by
 rw[lkO h e];induction pre with
 | nil =>
  simp only[ES,AEm,B2];intro hn;refine .inr ⟨λj b=>?_,hn⟩;cases a:lk n (en j).obs with
  | none=>rfl
  | some f=>have:=h.new j (e j b) n f a;rw[this]at hn;cases hn
 | cons i r c =>
  simp only[ES,So,B2];have c:=c (λj b=>hp j (by simp[b])) (λj b=>d j (by simp[b]));split
  ·rename_i g;intro hn;rw[A9]at hn;cases a:lk n (en i).obs with
   | some f =>
    rw[a]at hn;simp only[AEK]at hn;cases hn;exact .inl ⟨i,d i (by simp) (by simpa using g),a⟩
   | none =>
    rw[a]at hn;exact c (by simpa[ES] using hn)
  ·exact c
theorem NL {p:Nat×Obj}:∀ {l:List (Nat×Obj)},p∈l->∃b,lk p.1 l=some b
 | (c,d) :: r,h=>by
  simp only[lk];by_cases a:p.1=c
  ·simp_all
  ·rw[An a];rcases Do.1 h with rfl|h
   ·exact absurd rfl a
   ·exact NL h
theorem qU {c:Cx} (y:c.Ok) {ops:List Oper} {anc:List (List Nat)} {L Q:List Nat} {ens:EN} {τ:St} (hF:Fr c.tb ops anc L Q ens τ) {ex:List Nat} (h:∀i∈ex,i∈Q) {j i:Nat} {o:Oper} (m:Q[j]?=some i) (s:ops[i]?=some o) (ai:i∉ex)
  (ab:∀k∈anc.getD i [],k∈Q->k∈ex) (I:∀d,o.dst=some d->d<c.nt) {a:Act} {w:World} {next:Act->World->Prop} {Qe:Exit->Act->World->Prop} (hs:c.sat (Aq ops (Oj Q ens) τ ex) a w)
  (hn:∀A w',c.sat (Aq ops (Oj Q ens) τ (i :: ex)) A w'->next A w'):o.wpIn (FR c.r) 0 c.P a w next Qe:=by
 obtain⟨l,e,D,ae,aa,am,vc,T,W⟩:=hF.at_ j i m;rw[s]at D;cases D;obtain⟨_,an,E,_,_,al⟩:=hF.q.pos j i m;rw[s]at E;cases E;have z:∀k∈(Q.take j).reverse,k∈Q:=λk hk=>dO (by simpa using hk);have S:Ops ⟨(Aq ops (Oj Q ens) τ (Q.take j).reverse).env,B2 false (Gy o.op) τ.objs (ES ops (Oj Q ens) (Q.take j).reverse)⟩ (Aq ops (Oj Q ens) τ ex) o.op.operands.toList:=by
  intro x X v b;cases x with
  | tmp t =>
   simp only[Ao]at b ⊢;have ak:t∈Gy o.op:=AEG.2 ⟨_,X,rfl⟩;rw[lkE hF.own z]at b;rw[lkE hF.own h];rcases b with ⟨k,hk,af,ag⟩|⟨aj,b⟩
   ·grind
   ·grind
  | const ao=>exact b
  | global g=>exact b
  | func f=>exact b
 have R:dX ⟨(Aq ops (Oj Q ens) τ (Q.take j).reverse).env,B2 false (Gy o.op) τ.objs (ES ops (Oj Q ens) (Q.take j).reverse)⟩ (Aq ops (Oj Q ens) τ ex):=by
  intro n l hn;refine yP hF.own z h (λk hk ah=>?_) hn;obtain⟨Y,J⟩:=UO.1 (z k hk);obtain⟨_,Z,_,_,ad,_⟩:=hF.at_ Y k J;grind [Al]
 have U:=UW R S T;have C:=f3 m;have B:Bj (Oj Q ens i).obs (Aq ops (Oj Q ens) τ ex)=true:=by
  simp only[Bj,IS,oS];intro p hp;obtain⟨l,F⟩:=NL hp;cases N:lk p.1 (Aq ops (Oj Q ens) τ ex).objs with
  | none=>rfl
  | some u =>
   rcases (lkO hF.own h p.1 u).1 N with ⟨k,hk,M⟩|⟨_,hu⟩
   ·have:=hF.own.name i C k (h k hk) p.1 l u F M;grind
   ·rw[hF.own.new i C p.1 l F]at hu;cases hu
 obtain⟨ρ,G⟩:=hs;refine uW (A60 y G) U W B λu ρ' w' V=>hn _ _ ?_;have H:Aj ops i=o.dst:=by simp[Aj,s]
 simp only[Aq,H];exact⟨ρ',G.add y.K y.O I B V⟩
end
section
open Go Go.RowKit
theorem MK:∀ {l l':List Nat},l.Nodup->(∀x∈l,x∈l')->l.length<=l'.length
 | [],_,_,_=>by simp
 | x :: l,l',hn,h=>by
  have b:=h x (by simp);have:=MK (l:=l) (l':=l'.erase x) (UN.1 hn).2 (λy a=>by
   have:y≠x:=λe=>(UN.1 hn).1 (e▸a);exact(AEw this).2 (h y (by simp[a])))
  grind
theorem JH (A:List Nat) (l:Nat) (a:List (List Nat×Nat)) (D:List Nat):qs ((A,l) :: a) D=A++qs a D:=by simp[qs]
structure A9S (ops:List Oper) (anc:List (List Nat)) (p0:Nat) (L:List Nat) (ps:List (List Nat×Nat)) (D:List Nat):Prop where
 all:∀i,i<p0->i∈L\/i∈qs ps D\/i∈ps.map (·.2)
 back:∀i,p0<=i->i<ops.length->∀j,j<i->j∈anc.getD i []
 L:∀i∈L,i<p0
 Q:∀i∈qs ps D,i<p0
 lo:∀p∈ps,p.2<p0
 p0:p0<=ops.length
theorem Vf {ops:List Oper} {anc:List (List Nat)} {p0:Nat} {L D:List Nat} (h:Tv ops anc p0 L [] D=true):QOk ops anc L D/\(∀i,i<p0->i∈L\/i∈D)/\L.length+D.length=p0/\p0<=ops.length/\(∀i∈L,i<p0)/\(∀i∈D,i<p0)/\(∀i,p0<=i->i<ops.length->∀j,j<i->j∈anc.getD i []):=by
 simp only[Tv,AT,IS,Sl,Su,Fj,Al]at h;grind [qOk]
theorem KE {ops:List Oper} {anc:List (List Nat)} {p0:Nat} {L D A:List Nat} {l:Nat} {b:List (List Nat×Nat)} (h:Tv ops anc p0 L ((A,l) :: b) D=true):QOk ops anc L (A++qs b D)/\(∃o,ops[l]?=some o/\o.guard=none/\(∀e∈EM o,e∈L\/e∈A))/\(∀j∈A,j∈anc.getD l [])/\l∉L/\l∉A++qs b D/\(∀p∈b,l∈anc.getD p.2 [])/\Tv ops anc p0 (l :: (A++L)) b D=true:=by
 simp only[Tv,AT,IS,Al]at h;obtain⟨⟨⟨h1,a⟩,m⟩,n⟩:=h;cases f:ops[l]? with
 | none=>rw[f]at a;cases a
 | some o =>
  rw[f]at a;simp only[AT,IS,Su,Al,SZ,oS]at a;obtain⟨⟨⟨⟨g,i⟩,k⟩,c⟩,d⟩:=a;exact⟨qOk h1,⟨o,rfl,g,i⟩,k,λh=>(by rw[(Al _ _).2 h]at c;cases c),λh=>(by rw[(Al _ _).2 h]at d;cases d),m,n⟩
theorem Vg {ops:List Oper} {anc:List (List Nat)} {p0:Nat}:∀ {b:List (List Nat×Nat)} {L D:List Nat},Tv ops anc p0 L b D=true->A9S ops anc p0 L b D
 | [],L,D,h=>by
  obtain⟨_,h1,g,c,d,e,f⟩:=Vf h;refine⟨λi hi=>?_,f,d,by simpa[qs] using e,by simp,c⟩;grind [qs]
 | (A,l) :: b,L,D,h=>by
  obtain⟨_,_,_,_,_,_,h1⟩:=KE h;have a:=Vg h1;refine⟨λi hi=>?_,a.back,λi hi=>a.L i (by simp[hi]),λi hi=>?_,λp hp=>?_,a.p0⟩
  ·rcases a.all i hi with h|h|h
   ·grind [JH]
   ·grind [JH]
   ·grind
  ·rw[JH,No]at hi;rcases hi with hi|hi
   ·exact a.L i (by simp[hi])
   ·exact a.Q i hi
  ·rcases Do.1 hp with rfl|hp
   ·exact a.L l (by simp)
   ·exact a.lo p hp
theorem bD {ops:List Oper} {en:Nat->En} {τ:St}:∀ {Q:List Nat} {ens:EN} {pre:List Nat},ens.length=Q.length->(∀(j i:Nat) (e:Nat×AV×List (Nat×Obj)),Q[j]?=some i->ens[j]?=some e->Aj ops i=some e.1/\en i=⟨true,e.2.1,e.2.2⟩) ->
  Lo ens (Aq ops en τ pre)=Aq ops en τ (Q.reverse++pre)
 | [],[],pre,_,_=>rfl
 | [],_ :: _,_,h,_=>by simp at h
 | _ :: _,[],_,h,_=>by simp at h
 | i :: Q,(d,v,obs) :: ens,pre,f,h=>by
  obtain⟨h1,a⟩:=h 0 i (d,v,obs) rfl rfl;have:(⟨(d,v) :: (Aq ops en τ pre).env,obs++(Aq ops en τ pre).objs⟩:St)=Aq ops en τ (i :: pre):=by simp[Aq,h1,a,St.add]
  simp only[Lo];rw[this,bD (by simpa using f) (λj k e b c=>h (j+1) k e (by simpa using b) (by simpa using c))];simp
section
variable {c:Cx} {ops:Array Oper} {anc:List (List Nat)} {p0:Nat} {Kf:St->Prop} {Qe:Exit->Act->World->Prop}
theorem A1P {a:List (List Nat×Nat)} {L D:List Nat} {ens:EN} {τ:St} (b:Tv ops.toList anc p0 L a D=true) (d:Mix c ops.toList Kf a D ens τ):Fr c.tb ops.toList anc L (qs a D) ens τ:=by
 cases a with
 | nil =>
  have:qs [] D=D:=rfl;rw[this];exact A1O (Vf b).1 d.1
 | cons p a =>
  obtain⟨A,l⟩:=p;rw[JH];exact A1O (KE b).1 d.1
theorem Yo (x:Yn ops anc) {a:List (List Nat×Nat)} {L D:List Nat} {ex:List Nat} {listed:Array Bool} (w:Tv ops.toList anc p0 L a D=true) (v:QOk ops.toList anc L (qs a D)) (u:∀i∈ex,i∈qs a D) (I:listed.size=ops.size)
  (H:∀i,i<ops.size->(listed.getD i true=true↔i∈L\/i∈ex)) (hf:¬(a=[]/\∀i∈qs a D,i∈ex)):∃i,i∈Region.ready .any ops listed:=by
 have C:∀e b,e<ops.size->listed.getD e b=listed.getD e true:=λe b c=>by grind
 have mk:∀i o,ops[i]?=some o->i∉L->i∉ex->(∀e∈EM o,e∈L\/e∈ex)->i∈Region.ready .any ops listed:=by
  intro i o f h1 k E;have J:i<ops.size:=(TO.1 f).1;rw[Dn];refine⟨?_,o,f,λe c=>?_⟩
  ·grind
  ·have F:=x.lt i o f e c;grind
 by_cases t:∀i∈qs a D,i∈ex
 ·cases a with
  | nil=>exact absurd ⟨rfl,t⟩ hf
  | cons p a =>
   obtain⟨A,l⟩:=p;rw[JH]at t u;obtain⟨_,⟨o,f,_,y⟩,_,h1,k,_,_⟩:=KE w;refine⟨l,mk l o (by simpa using f) h1 (λh=>k (u l h)) λe c=>?_⟩;rcases y e c with h|h
   ·exact .inl h
   ·grind
 ·have key:∀(n j:Nat),j<=n->(∃i,(qs a D)[j]?=some i/\i∉ex)->∃i,i∈Region.ready .any ops listed:=by
   intro n;induction n with
   | zero =>
    rintro j s ⟨i,hi,d⟩;have:j=0:=by omega
    subst this;obtain⟨m,o,q,_,r,_⟩:=v.pos 0 i hi;refine⟨i,mk i o (by simpa using q) m d λe c=>?_⟩;rcases r e c with h|h
    ·exact .inl h
    ·simp at h
   | succ n B =>
    rintro j s ⟨i,hi,d⟩;by_cases z:∃g,g<j/\∃i',(qs a D)[g]?=some i'/\i'∉ex
    ·obtain⟨g,h1,k⟩:=z;exact B g (by omega) k
    ·obtain⟨m,o,q,_,r,_⟩:=v.pos j i hi;refine⟨i,mk i o (by simpa using q) m d λe c=>?_⟩;rcases r e c with h|h
     ·exact .inl h
     ·right;obtain⟨g,G⟩:=UO.1 h;grind
  have:∃i,i∈qs a D/\i∉ex:=by grind
  obtain⟨i,hi,d⟩:=this;obtain⟨j,s⟩:=UO.1 hi;exact key j j (NO _) ⟨i,s,d⟩
theorem Yp (G:Yn ops anc) (hT:∀τ,Kf τ->∀a w,c.sat τ a w->wpListIn (FR c.r) 0 c.P ops Qe (ops.toList.drop p0) a w) {m:Nat} {L D:List Nat} {ens:EN} {τ:St} {ex:List Nat} {listed:Array Bool} {a:Act} {w:World}
  (C:Tv ops.toList anc p0 L [] D=true) (g:Mix c ops.toList Kf [] D ens τ) (M:(L++ex).Nodup) (b:∀i∈ex,i∈D) (W:m+L.length+ex.length=ops.size) (J:listed.size=ops.size) (I:∀i,i<ops.size->(listed.getD i true=true↔i∈L\/i∈ex))
  (hs:c.sat (Aq ops.toList (Oj D ens) τ ex) a w) (d:∀i∈D,i∈ex):wpAnyIn (FR c.r) 0 c.P .any ops Qe m listed a w:=by
 obtain⟨q,h1,S,y,T,U,z⟩:=Vf C;have hF:=A1O q g.1;have V:ex.length=D.length:=ADT (MK (ADe.1 M).2.1 b) (MK q.nodup d);have K:m=(ops.toList.drop p0).length:=by grind
 have E:Lo ens τ=Aq ops.toList (Oj D ens) τ D.reverse:=by
  have:=bD (ops:=ops.toList) (en:=Oj D ens) (τ:=τ) (pre:=[]) hF.len (λj i e A B=>by
   obtain⟨o,R,_,f,u,x,_⟩:=hF.at_ j i A;rw[B]at f;cases f;exact⟨u,x⟩)
  simpa[Aq] using this
 have O:c.sat (Lo ens τ) a w:=by
  rw[E];have t:∀i∈D.reverse,i∈D:=λi hi=>by simpa using hi
  have l:∀i,i∈ex↔i∈D.reverse:=λi=>⟨λh=>by simpa using b i h,λh=>d i (by simpa using h)⟩;refine VY (λs=>AEM λv=>?_) (λn=>AEM λo=>?_) hs
  ·rw[lkE hF.own t,lkE hF.own b];simp only[l]
  ·rw[lkO hF.own t,lkO hF.own b];simp only[l]
 have:=Rk (Q:=Qe) (F:=FR c.r) (P:=c.P) G (k:=p0) (λi o N hi j H=>z i hi (by have:=(TO.1 N).1;simpa using this) j H) (rest:=ops.toList.drop p0) (p:=p0) (listed:=listed) (a:=a) (w:=w) rfl (NO _) (by simpa using y) J
  (λi hi=>by
   rw[I i hi];constructor
   ·grind
   ·intro h;rcases h1 i h with h|h
    ·exact .inl h
    ·exact .inr (d i h)) (hT _ g.2 a w O)
 rw[K];exact this
theorem A68 (ch:c.Ok) (bx:∀o∈ops.toList,J7 c.nt o=true) (ab:Yn ops anc) (hT:∀τ,Kf τ->∀a w,c.sat τ a w->wpListIn (FR c.r) 0 c.P ops Qe (ops.toList.drop p0) a w) :
  ∀(m:Nat) (f:List (List Nat×Nat)) (L D:List Nat) (ens:EN) (τ:St) (ex:List Nat) (listed:Array Bool) (a:Act) (w:World),Tv ops.toList anc p0 L f D=true->Mix c ops.toList Kf f D ens τ->(L++ex).Nodup->(∀i∈ex,i∈qs f D) ->
   m+L.length+ex.length=ops.size->listed.size=ops.size->(∀i,i<ops.size->(listed.getD i true=true↔i∈L\/i∈ex))->(∀i o,ops[i]?=some o->(i∈L\/i∈ex)->∀e∈EM o,e∈L\/e∈ex) ->
   c.sat (Aq ops.toList (Oj (qs f D) ens) τ ex) a w->wpAnyIn (FR c.r) 0 c.P .any ops Qe m listed a w:=by
 intro m;induction m with
 | zero =>
  intro f L D ens τ ex listed a w C T H B ax U O ae hs;have hF:=A1P C T;by_cases hf:f=[]/\∀i∈qs f D,i∈ex
  ·obtain⟨rfl,aq⟩:=hf;exact Yp ab hT C T H B ax U O hs aq
  ·exfalso;obtain⟨i,hi⟩:=Yo ab C hF.q B U O hf;rw[Dn]at hi;obtain⟨h1,o,E,_⟩:=hi;have X:i<ops.size:=(TO.1 E).1;have I:i∉L++ex:=λh=>by grind
   have N:=Vg C;have:=EU ops.size (i :: (L++ex)) (UN.2 ⟨I,H⟩) (λj d=>by
    have hp:=N.p0;simp only[AEz]at hp;rcases Do.1 d with rfl|d
    ·exact X
    ·rcases No.1 d with d|d
     ·have:=N.L j d;omega
     ·have:=N.Q j (B j d);omega)
   grind
 | succ m bj =>
  intro f L D ens τ ex listed a w C T H B ax U O ae hs;have hF:=A1P C T;have N:=Vg C;have bn:∀e b,e<ops.size->listed.getD e b=listed.getD e true:=λe b F=>by grind
  by_cases hf:f=[]/\∀i∈qs f D,i∈ex
  ·obtain⟨rfl,aq⟩:=hf;exact Yp ab hT C T H B ax U O hs aq
  ·refine⟨λcv=>?_,λi hi=>?_⟩
   ·obtain⟨i,hi⟩:=Yo ab C hF.q B U O hf;grind
   ·rw[Dn]at hi;obtain⟨h1,o,E,cq⟩:=hi;have X:i<ops.size:=(TO.1 E).1;have I:¬(i∈L\/i∈ex):=λh=>by rw[(O i X).2 h]at h1;cases h1
    have az:∀e∈EM o,e∈L\/e∈ex:=λe F=>by grind
    have ad:∀j∈anc.getD i [],j∈L\/j∈ex:=by
     have ct:∀i o,ops[i]?=some o->listed.getD i true=true->∀e∈EM o,listed.getD e false=true:=by
      intro i o E h1 e F;have X:i<ops.size:=(TO.1 E).1;have Y:=ab.lt i o E e F;rw[bn e false (by omega)];exact(O e (by omega)).2 (ae i o E ((O i X).1 h1) e F)
     grind [TE]
    have ag:ops.toList[i]?=some o:=by simpa using E
    have cf:o∈ops.toList:=f3 ag;have bw:=CK (bx o cf);have bd:∀(S:List Nat),(∀j,j∈S↔j=i\/j∈L\/j∈ex)->∀j,j<ops.size->((listed.setIfInBounds i true).getD j true=true↔j∈S):=by
     intro S bu j d;have cd:j<listed.size:=by omega
     rw[bu];by_cases aw:j=i
     ·subst aw;simp[Array.getD,cd]
     ·have Y:(listed.setIfInBounds i true).getD j true=listed.getD j true:=getD_set_ne true (λe=>aw e.symm);rw[Y,O j d];simp[aw]
    have bi:∀ {g:Option (Nat×Bool)},g=none->o.guard=g->Region.wanted o (yielded ops a.tmps)=true:=by
     intro g au e;simp[Region.wanted,e,au]
    by_cases af:i∈qs f D
    ·obtain⟨j,d⟩:=UO.1 af;obtain⟨_,cy,be,au,_,_⟩:=hF.q.pos j i d;rw[ag]at be;cases be;unfold wpOpIn;rw[E];simp only;rw[BY (bi rfl au)];refine qU ch hF B d ag (λh=>I (.inr h)) (λk hk ce=>?_) bw hs λak w' ci=>?_
     ·rcases ad k hk with h|h
      ·obtain⟨u,R⟩:=UO.1 ce;exact absurd h (hF.q.pos u k R).1
      ·exact h
     ·refine bj f L D ens τ (i :: ex) _ ak w' C T ?_ (λk hk=>?_) (by simp only[OS];omega) (by simpa using U) (λk hk=>?_) (λi' W G av e F=>?_) ci
      ·rw[ADe]at H ⊢;refine⟨H.1,UN.2 ⟨λh=>I (.inr h),H.2.1⟩,λx t y V=>?_⟩;rcases Do.1 V with rfl|V
       ·exact λe=>I (.inl (e▸t))
       ·exact H.2.2 x t y V
      ·rcases Do.1 hk with rfl|hk
       ·exact af
       ·exact B k hk
      ·rw[bd (i :: (L++ex)) (λj=>by simp) k hk];simp only[Do,No];constructor
       ·rintro (h|h|h)
        ·exact .inr (.inl h)
        ·exact .inl h
        ·exact .inr (.inr h)
       ·rintro (h|h|h)
        ·exact .inr (.inl h)
        ·exact .inl h
        ·exact .inr (.inr h)
      ·have:e∈L\/e∈ex:=by
        rcases av with h|h
        ·exact ae i' W G (.inl h) e F
        ·rcases Do.1 h with rfl|h
         ·rw[E]at G;cases G;exact az e F
         ·exact ae i' W G (.inr h) e F
       rcases this with h|h
       ·exact .inl h
       ·exact .inr (by simp[h])
    · -- no operation of the front
     have cw:¬p0<=i:=by
      intro ca;have ay:=N.back i ca (by simpa using X);cases f with
      | nil =>
       refine hf ⟨rfl,λj d=>?_⟩;have Y:=N.Q j d;rcases ad j (ay j (by omega)) with h|h
       ·obtain⟨u,R⟩:=UO.1 d;exact absurd h (hF.q.pos u j R).1
       ·exact h
      | cons p f =>
       obtain⟨A,l⟩:=p;obtain⟨_,_,_,am,an,_,_⟩:=KE C;have Y:=N.lo (A,l) (by simp);simp only at Y;rcases ad l (ay l (by omega)) with h|h
       ·exact am h
       ·exact an (by rw[<-JH A l];exact B l h)
     cases f with
     | nil =>
      rcases N.all i (by omega) with h|h|h
      ·exact absurd (.inl h) I
      ·exact absurd h af
      ·cases h
     | cons p f =>
      obtain⟨A,l⟩:=p;obtain⟨_,⟨ol,bf,cb,cu⟩,bq,am,an,bo,br⟩:=KE C;have cc:i=l:=by
       rcases N.all i (by omega) with h|h|h
       ·exact absurd (.inl h) I
       ·exact absurd h af
       ·simp only[So,Do,IF]at h;rcases h with h|⟨p,hp,rfl⟩
        ·exact h
        ·rcases ad l (bo p hp) with h|h
         ·exact absurd h am
         ·exact absurd (B l h) (by rw[JH];exact an)
      subst cc;rw[ag]at bf;cases bf;rw[JH]at hF B hs af;obtain⟨cs,W,G,bs⟩:=T;rw[ag]at G;cases G;have Z:∀j∈A,j∈ex:=λj d=>by
       rcases ad j (bq j d) with h|h
       ·obtain⟨u,R⟩:=UO.1 (show j∈A++qs f D by simp[d]);exact absurd h (hF.q.pos u j R).1
       ·exact h
      have ao:A.Nodup/\(qs f D).Nodup/\∀x∈A,∀y∈qs f D,x≠y:=ADe.1 hF.q.nodup;have bv:Lo (ens.take A.length) τ=Aq ops.toList (Oj (A++qs f D) ens) τ A.reverse:=by
       have:=bD (ops:=ops.toList) (en:=Oj (A++qs f D) ens) (τ:=τ) (pre:=[]) (Q:=A) (ens:=ens.take A.length) (by have:=hF.len;simp only[GO]at this;simp only[OR];omega) (λj i e M z=>by
        have bc:j<A.length:=(Sa.1 M).1;obtain⟨o,cp,_,J,K,al,_⟩:=hF.at_ j i (by rw[Sp bc];exact M);rw[Sr,BY bc,J]at z;cases z;exact⟨K,al⟩)
       simpa[Aq] using this
      have bh:=yO (A:=A.reverse) hF.own B (λj d=>Z j (by simpa using d));rw[<-bv]at bh;have aj:∀j,j∈ex.filter (λj=>!Aa j A.reverse)↔j∈ex/\j∉A:=λj=>by
       rw[ACV];have:=Al j A.reverse;constructor
       ·rintro⟨M,z⟩;exact⟨M,λJ=>by rw[this.2 (by simpa using J)]at z;cases z⟩
       ·rintro⟨M,z⟩;refine⟨M,?_⟩;cases cg:Aa j A.reverse with
        | false=>rfl
        | true=>exact absurd (by simpa using this.1 cg) z
      have aa:∀j∈ex.filter (λj=>!Aa j A.reverse),j∈qs f D:=λj d=>by
       have:=B j ((aj j).1 d).1;rcases No.1 this with h|h
       ·exact absurd h ((aj j).1 d).2
       ·exact h
      have ar:∀j∈qs f D,∃(u:Nat) (e:Nat×AV×List (Nat×Obj)),(qs f D)[u]?=some j/\(ens.drop A.length)[u]?=some e/\Aj ops.toList j=some e.1/\Oj (A++qs f D) ens j=⟨true,e.2.1,e.2.2⟩:=by
       intro j d;obtain⟨u,R⟩:=UO.1 d;obtain⟨o,e,_,J,K,al,_⟩:=hF.at_ (A.length+u) j (by rw[Ss (by omega),AEd];exact R);exact⟨u,e,R,by rw[ACE];exact J,K,al⟩
      have bg:Own ops.toList (Oj (A++qs f D) ens) ⟨[],[]⟩ (A++qs f D):=⟨hF.own.slot,λ_ _ _ _ _=>rfl,hF.own.name⟩;have ba:∀j∈ex.filter (λj=>!Aa j A.reverse),j∈A++qs f D:=λj d=>by simp[aa j d]
      unfold wpOpIn;rw[E];simp only;rw[BY (bi rfl cb)];refine bs _ _ bh ⟨λs v ah=>?_,λn W hn=>?_⟩ a w _ _ hs λbm bt ak w' cz bb cj=>?_
      ·rcases (lkE bg ba s v).1 ah with ⟨j,d,ai,rfl⟩|⟨_,ah⟩
       ·obtain⟨u,e,_,z,J,K⟩:=ar j (aa j d);rw[ai]at J;cases J;rw[K];exact⟨e.2.2,f3 z⟩
       ·cases ah
      ·rcases (lkO bg ba n W).1 hn with ⟨j,d,ai⟩|⟨_,ah⟩
       ·obtain⟨u,e,_,z,J,K⟩:=ar j (aa j d);rw[K]at ai;exact⟨e,f3 z,F8 ai⟩
       ·cases ah
      ·have cr:ex.length=A.length+(ex.filter (λj=>!Aa j A.reverse)).length:=by
        have ck:∀l:List Nat,l.length=(l.filter (λj=>Aa j A.reverse)).length+(l.filter (λj=>!Aa j A.reverse)).length:=by
         intro l;induction l with
         | nil=>rfl
         | cons x r cx =>
          simp only[bY,OS];cases Aa x A.reverse<;>simp<;>omega
        rw[ck ex];have bz:=(ADe.1 H).2.1;have M:(ex.filter (λj=>Aa j A.reverse)).length<=A.length:=MK (bz.filter _) λx t=>by
         have:=(Al _ _).1 (ACV.1 t).2;simpa using this
        have z:A.length<=(ex.filter (λj=>Aa j A.reverse)).length:=MK ao.1 λx t=>ACV.2 ⟨Z x t,(Al _ _).2 (by simpa using t)⟩;omega
       have ap:∀x,(x∈i :: (A++L)\/x∈ex.filter (λj=>!Aa j A.reverse))↔x=i\/x∈L\/x∈ex:=by
        intro x;rw[aj];simp only[Do,No];constructor
        ·rintro ((h|h|h)|h)
         ·exact .inl h
         ·exact .inr (.inr (Z x h))
         ·exact .inr (.inl h)
         ·exact .inr (.inr h.1)
        ·rintro (h|h|h)
         ·exact .inl (.inl h)
         ·exact .inl (.inr (.inr h))
         ·by_cases t:x∈A
          ·exact .inl (.inr (.inl t))
          ·exact .inr ⟨h,t⟩
       refine bj f (i :: (A++L)) D (ens.drop A.length) bm (ex.filter λj=>!Aa j A.reverse) _ ak w' br bt ?_ aa (by simp only[OS,GO];omega) (by simpa using U) (λk hk=>?_) (λi' W G av e F=>?_) ?_
       ·obtain⟨n1,cn,bk⟩:=ADe.1 H;have bp:∀x∈A,x∉L:=λx t cl=>bk x cl x (Z x t) rfl;rw[ADe];refine⟨UN.2 ⟨λh=>?_,ADe.2 ⟨ao.1,n1,λx t y V e=>bp x t (e▸V)⟩⟩,cn.filter _,λx t y V e=>?_⟩
        ·rcases No.1 h with h|h
         ·exact I (.inr (Z i h))
         ·exact I (.inl h)
        ·subst e;obtain⟨bl,co⟩:=(aj x).1 V;rcases Do.1 t with rfl|t
         ·exact I (.inr bl)
         ·rcases No.1 t with t|t
          ·exact co t
          ·exact bk x t x bl rfl
       ·rw[ap k,bd (i :: (L++ex)) (λj=>by simp) k hk];simp
       ·rw[ap];have:e∈L\/e∈ex:=by
         rcases (ap i').1 av with rfl|h
         ·rw[E]at G;cases G;exact az e F
         ·exact ae i' W G h e F
        exact .inr this
       ·have cm:∀j∈ex.filter (λj=>!Aa j A.reverse),Oj (qs f D) (ens.drop A.length) j=Oj (A++qs f D) ens j:=λj d=>by
         obtain⟨u,e,M,z,_,K⟩:=ar j (aa j d);rw[K];exact qT ao.2.1 u j e M z
        have t:=A1J (ops:=ops.toList) (en:=Oj (qs f D) (ens.drop A.length)) (τ:=bm) (ex.filter λj=>!Aa j A.reverse);rw[Kx (en:=Oj (A++qs f D) ens) (σ0:=⟨[],[]⟩) cm]at t;exact VY (λs=>by rw[t.env,bb.env]) (λn=>by rw[t.objs,bb.objs]) cj
end
section
variable {c:Cx} {R:Exit->Act->World->Prop} {k:List DT} {σ:St}
theorem Cc (j:c.P.follows .mixedOrders=true) (g:c.Ok) {id:Nat} {l:List Oper} (p0:Nat) (d:List (List Nat×Nat)) (D:List Nat) (b:(A8C l (A1y l)&&Tv l (A1y l) p0 [] d D)=true) {ens:EN}
  (h:Mix c l (fun τ=>KC c R k l.toArray (l.drop p0) τ) d D ens σ):Ev c R (.run (.region id l.toArray true)) k σ:=by
 intro h1 e a w hs;simp only[IL,Bu,IS]at h1;simp only[AT]at b;refine wpIn_region_any j ?_;have hk:∀τ,KC c R k l.toArray (l.drop p0) τ->∀a w,c.sat τ a w->wpListIn (FR c.r) 0 c.P l.toArray (VR c R k) (l.toArray.toList.drop p0) a w:=fun τ f a w hs=>f (λo m=>h1 o (by simpa using ADB m)) e a w hs;exact A68 (ops:=l.toArray) (anc:=A1y l) g (by simpa using h1) (A9R (by simpa using b.1)) hk l.toArray.size d [] D ens σ [] (Array.replicate l.toArray.size false) a { w with drawn:=w.drawn+1 } (by simpa using b.2) (by simpa using h) (by simp) (by simp) (by simp) (by simp) (λi hi=>by simp at hi;simp[Array.getD,hi]) (λi o _ hi=>by simp at hi) (fJ hs)
end
end
section
open Go Go.RowKit
section
variable {n:Nat} {ns:List Nat}
theorem Gc {m:Nat} (hn:n∈ns) (h:¬Aa m ns=true):¬m=n:=λe=>h ((Al _ _).2 (e▸hn))
mutual
theorem Vh (hn:n∈ns) {e:Ty} {xs:List e.den}:∀(x:AV),x.fgt ns=x->x.frz n e xs=x
 | .sr m e' lo hi,h=>by grind [AV.fgt,AV.frz,Gc]
 | .ep m e' i path off,h=>by grind [AV.fgt,AV.frz,Gc]
 | .nin m e' i len,h=>by grind [AV.fgt,AV.frz,Gc]
 | .ag l,h=>by
  simp only[AV.fgt,AV.ag.injEq]at h
  simp only[AV.frz,frzs_of_fgt hn l h]
 | .tup l,h=>by
  simp only[AV.fgt,AV.tup.injEq]at h
  simp only[AV.frz,frzs_of_fgt hn l h]
 | .p _ _,_=>rfl
 | .pc _ _,_=>rfl
 | .raw _,_=>rfl
 | .ip _ _,_=>rfl
 | .bp _ _ _,_=>rfl
 | .fn _,_=>rfl
 | .clo _ _,_=>rfl
 | .mp _,_=>rfl
 | .yl _,_=>rfl
 | .top,_=>rfl
theorem frzs_of_fgt (hn:n∈ns) {e:Ty} {xs:List e.den}:∀(l:List AV),AV.fgts ns l=l->AV.frzs n e xs l=l
 | [],_=>rfl
 | x :: r,h=>by
  simp only[AV.fgts,ADV]at h
  simp only[AV.frzs,Vh hn x h.1,frzs_of_fgt hn r h.2]
end
mutual
theorem Vi (hn:n∈ns):∀(x:AV),x.fgt ns=x->x.drp n=x
 | .sr m e' lo hi,h=>by grind [AV.fgt,AV.drp,Gc]
 | .ep m e' i path off,h=>by grind [AV.fgt,AV.drp,Gc]
 | .nin m e' i len,h=>by grind [AV.fgt,AV.drp,Gc]
 | .ag l,h=>by
  simp only[AV.fgt,AV.ag.injEq]at h
  simp only[AV.drp,drps_of_fgt hn l h]
 | .tup l,h=>by
  simp only[AV.fgt,AV.tup.injEq]at h
  simp only[AV.drp,drps_of_fgt hn l h]
 | .p _ _,_=>rfl
 | .pc _ _,_=>rfl
 | .raw _,_=>rfl
 | .ip _ _,_=>rfl
 | .bp _ _ _,_=>rfl
 | .fn _,_=>rfl
 | .clo _ _,_=>rfl
 | .mp _,_=>rfl
 | .yl _,_=>rfl
 | .top,_=>rfl
theorem drps_of_fgt (hn:n∈ns):∀(l:List AV),AV.fgts ns l=l->AV.drps n l=l
 | [],_=>rfl
 | x :: r,h=>by
  simp only[AV.fgts,ADV]at h
  simp only[AV.drps,Vi hn x h.1,drps_of_fgt hn r h.2]
end
end
section
variable {n:Nat} {ns tl:List Nat}
theorem EO (a:∀n,n∈tl->n∈ns) {m:Nat} (h:¬Aa m ns=true):¬Aa m tl=true:=λh1=>h ((Al _ _).2 (a _ ((Al _ _).1 h1)))
theorem vG (a:∀n,n∈tl->n∈ns) {l:List Nat} (h:¬(l.any λm=>Aa m ns)=true):¬(l.any λm=>Aa m tl)=true:=λh1=>by grind [Al]
mutual
theorem Vj (htl:∀n,n∈tl->n∈ns):∀(x:AV),x.fgt ns=x->x.fgt tl=x
 | .sr m e' lo hi,h=>by grind [AV.fgt,EO]
 | .ep m e' i path off,h=>by grind [AV.fgt,EO]
 | .nin m e' i len,h=>by grind [AV.fgt,EO]
 | .bp m path off,h=>by grind [AV.fgt,EO]
 | .mp m,h=>by grind [AV.fgt,EO]
 | .yl m,h=>by grind [AV.fgt,EO]
 | .clo f cs,h=>by
  simp only[AV.fgt]at h
  split at h
  ·cases h
  ·rename_i hm;simp only[AV.fgt,An (vG htl hm)]
 | .ag l,h=>by
  simp only[AV.fgt,AV.ag.injEq]at h
  simp only[AV.fgt,fgts_of_fgt htl l h]
 | .tup l,h=>by
  simp only[AV.fgt,AV.tup.injEq]at h
  simp only[AV.fgt,fgts_of_fgt htl l h]
 | .p _ _,_=>rfl
 | .pc _ _,_=>rfl
 | .raw _,_=>rfl
 | .ip _ _,_=>rfl
 | .fn _,_=>rfl
 | .top,_=>rfl
theorem fgts_of_fgt (htl:∀n,n∈tl->n∈ns):∀(l:List AV),AV.fgts ns l=l->AV.fgts tl l=l
 | [],_=>rfl
 | x :: r,h=>by
  simp only[AV.fgts,ADV]at h
  simp only[AV.fgts,Vj htl x h.1,fgts_of_fgt htl r h.2]
end
mutual
theorem Vk (hn:n∈ns) (htl:∀n,n∈tl->n∈ns):∀(x:AV),x.fgt ns=x->x.trn n tl=x
 | .sr m e' lo hi,h=>by grind [AV.fgt,AV.trn,EO]
 | .ep m e' i path off,h=>by grind [AV.fgt,AV.trn,EO]
 | .nin m e' i len,h=>by grind [AV.fgt,AV.trn,Gc,EO]
 | .bp m path off,h=>by grind [AV.fgt,AV.trn,EO]
 | .mp m,h=>by grind [AV.fgt,AV.trn,EO]
 | .yl m,h=>by grind [AV.fgt,AV.trn,EO]
 | .clo f cs,h=>by
  simp only[AV.fgt]at h
  split at h
  ·cases h
  ·rename_i hm;simp only[AV.trn,An (vG htl hm)]
 | .ag l,h=>by
  simp only[AV.fgt,AV.ag.injEq]at h
  simp only[AV.trn,trns_of_fgt hn htl l h]
 | .tup l,h=>by
  simp only[AV.fgt,AV.tup.injEq]at h
  simp only[AV.trn,trns_of_fgt hn htl l h]
 | .p _ _,_=>rfl
 | .pc _ _,_=>rfl
 | .raw _,_=>rfl
 | .ip _ _,_=>rfl
 | .fn _,_=>rfl
 | .top,_=>rfl
theorem trns_of_fgt (hn:n∈ns) (htl:∀n,n∈tl->n∈ns):∀(l:List AV),AV.fgts ns l=l->AV.trns n tl l=l
 | [],_=>rfl
 | x :: r,h=>by
  simp only[AV.fgts,ADV]at h
  simp only[AV.trns,Vk hn htl x h.1,trns_of_fgt hn htl r h.2]
end
end
def Kz:AV->Bool
 | .raw _=>true
 | .p _ _=>true
 | _=>false
def ML:Obj->Bool
 | .arr _ _ _=>true
 | .box _ _ fs=>fs.all Kz
 | _=>false
theorem Vl {n:Nat} {e:Ty} {xs:List e.den}:∀fs:List AV,fs.all Kz=true->AV.frzs n e xs fs=fs
 | [],_=>rfl
 | x :: r,h=>by
  rw[ADv,AT]at h;simp only[AV.frzs,Vl r h.2];cases x<;>first|rfl|(have:=h.1;simp[Kz]at this)
theorem Vm {n:Nat}:∀fs:List AV,fs.all Kz=true->AV.drps n fs=fs
 | [],_=>rfl
 | x :: r,h=>by
  rw[ADv,AT]at h;simp only[AV.drps,Vm r h.2];cases x<;>first|rfl|(have:=h.1;simp[Kz]at this)
theorem yQ {n:Nat} {e:Ty} {xs:List e.den} {o:Obj} (h:ML o=true):Obj.frz n e xs o=o:=by
 cases o with
 | box et st fs=>simp only[Obj.frz,Vl fs h]
 | arr et a ys=>rfl
 | _=>cases h
theorem yR {n:Nat} {o:Obj} (h:ML o=true):Obj.drp n o=o:=by
 cases o with
 | box et st fs=>simp only[Obj.drp,Vm fs h]
 | arr et a ys=>rfl
 | _=>cases h
theorem Vn {hs:List Nat}:∀fs:List AV,fs.all Kz=true->AV.fgts hs fs=fs
 | [],_=>rfl
 | x :: r,h=>by
  rw[ADv,AT]at h;simp only[AV.fgts,Vn r h.2];cases x<;>first|rfl|(have:=h.1;simp[Kz]at this)
theorem Yq {hs:List Nat} {o:Obj} (h:ML o=true):Obj.fgt hs o=o:=by
 cases o with
 | box et st fs=>simp only[Obj.fgt,Vn fs h]
 | arr et a ys=>rfl
 | _=>cases h
theorem Vo {n:Nat} {hs:List Nat}:∀fs:List AV,fs.all Kz=true->AV.trns n hs fs=fs
 | [],_=>rfl
 | x :: r,h=>by
  rw[ADv,AT]at h;simp only[AV.trns,Vo r h.2];cases x<;>first|rfl|(have:=h.1;simp[Kz]at this)
theorem yS {n:Nat} {hs:List Nat} {o:Obj} (h:ML o=true):Obj.trn n hs o=o:=by
 cases o with
 | box et st fs=>simp only[Obj.trn,Vo fs h]
 | arr et a ys=>rfl
 | _=>cases h
structure IV (X σ:St) (ns:List Nat):Prop where
 env:∀s v,lk s X.env=some v->v.fgt ns=v
 arr:∀n o,lk n X.objs=some o->ML o=true
 new:∀n o,lk n X.objs=some o->lk n σ.objs=none
 nm:∀n o,lk n X.objs=some o->n∉ns
section
variable {σ σ' X:St} {ns:List Nat}
theorem RL.lkn (b:RL σ σ' X) (ha:IV X σ ns) {n:Nat} (hn:n∈ns):lk n σ'.objs=lk n σ.objs:=by
 rw[b.objs];cases a:lk n X.objs with
 | none=>rfl
 | some o=>exact absurd hn (ha.nm n o a)
theorem RL.obs (b:RL σ σ' X) (ha:IV X σ ns):dX σ σ':=by
 intro n o hn;rw[b.objs];cases a:lk n X.objs with
 | none=>exact hn
 | some c=>rw[ha.new n c a]at hn;cases hn
theorem A69 {n:Nat} (c:RL σ σ' X) (ha:IV X σ ns) (hn:n∈ns):RL (frz n σ) (frz n σ') X/\IV X (frz n σ) ns:=by
 unfold frz;split
 ·exact⟨c,ha⟩
 have core:∀(e:Ty) (xs:List e.den),RL ⟨DE n e xs σ.env,A6 n e xs (del n σ.objs)⟩ ⟨DE n e xs σ'.env,A6 n e xs (del n σ'.objs)⟩ X/\IV X ⟨DE n e xs σ.env,A6 n e xs (del n σ.objs)⟩ ns:=by
  intro e xs;refine⟨⟨λs=>?_,λm=>?_⟩,ha.env,ha.arr,λm o b=>?_,ha.nm⟩
  ·simp only[NA,c.env];cases a:lk s X.env with
   | none=>rfl
   | some v=>simp[Vh hn v (ha.env s v a)]
  ·simp only[Cb,RT];by_cases b:m=n
   ·subst b;cases a:lk m X.objs with
    | none=>simp
    | some o=>exact absurd hn (ha.nm m o a)
   ·simp only[An b,c.objs];cases a:lk m X.objs with
    | none=>rfl
    | some o=>exact AD0 some (yQ (ha.arr m o a))
  ·simp only[Cb,RT];split
   ·rfl
   ·rw[ha.new m o b];rfl
 rw[c.lkn ha hn];unfold d7;grind
theorem Vp:∀ {l:List Nat} {σ σ':St},RL σ σ' X->IV X σ ns->(∀n∈l,n∈ns)->RL (Cq l σ) (Cq l σ') X/\IV X (Cq l σ) ns
 | [],_,_,a,ha,_=>⟨a,ha⟩
 | n :: l,σ,σ',a,ha,h=>by
  obtain⟨h1,b⟩:=A69 a ha (h n (by simp));have:=Vp (l:=l) h1 b λm c=>h m (by simp[c]);exact this
def yT (σ σ':St) (xs:List Operand):Prop:=∀x∈xs,Ao σ' x=Ao σ x
theorem bE (b:RL σ σ' X) {xs:List Operand} (h:∀t∈xs.filterMap Nz,lk t X.env=none):yT σ σ' xs:=by
 intro x a;cases x with
 | tmp t =>
  simp only[Ao,b.env];rw[h t (AEG.2 ⟨_,a,rfl⟩)];rfl
 | const v=>rfl
 | global g=>rfl
 | func f=>rfl
theorem MM:∀ {l:List (Nat×Operand)},yT σ σ' (l.map (·.2))->Cp σ' l=Cp σ l
 | [],_=>rfl
 | (i,x) :: r,h=>by
  simp only[Cp];rw[h x (by simp),MM (λy a=>h y (by simp only[So,Do];exact .inr a))]
theorem QD:∀ {l:List (Nat×Operand)},yT σ σ' (l.map (·.2))->Et σ' l=Et σ l
 | [],_=>rfl
 | (i,x) :: r,h=>by
  simp only[Et];rw[h x (by simp),QD (λy a=>h y (by simp only[So,Do];exact .inr a))]
theorem qV (b:RL σ σ' X) (ha:IV X σ ns) (n:Nat):Cg (lk n σ'.objs)=Cg (lk n σ.objs):=by
 rw[b.objs];cases a:lk n X.objs with
 | none=>rfl
 | some o =>
  rw[ha.new n o a];have:=ha.arr n o a;cases o<;>first|rfl|cases this
theorem fS (a:RL σ σ' X) (ha:IV X σ ns) {op:Op} (h:yT σ σ' op.operands.toList):DA σ' op=DA σ op:=by
 cases op<;>simp only[DA];case buildSlice t n parts =>
  exact MM (λx a=>h x (by simpa[Op.operands] using a))
 case build t parts =>
  exact QD (λx a=>h x (by simpa[Op.operands] using a))
 case store t x y =>
  rw[h x (by simp[Op.operands]),h y (by simp[Op.operands])];unfold B3;split
  ·rw[qV a ha]
  ·rfl
 case mapUpdate t m x y =>
  rw[h m (by simp[Op.operands]),h x (by simp[Op.operands]),h y (by simp[Op.operands])]
def JJ (σ:St):Option AV->Option AV->List Nat
 | some (.sr n _ _ _),some (.sr m _ _ _)=>if Cg (lk n σ.objs)=true then [n,m] else [n]
 | some (.sr n _ _ _),_=>[n]
 | some (.nin n _ _ _),_=>[n]
 | some (.raw _),some (.sr m _ _ _)=>if Cg (lk m σ.objs)=true then [m] else []
 | _,_=>[]
def bF (σ:St):Option AV->Option AV->List Nat
 | some (.ep n _ _ _ _),some (.sr m _ _ _)=>if Cg (lk n σ.objs)=true then [n,m] else []
 | _,_=>[]
def YC (σ:St):Op->List Nat
 | .call c=>match c.callee,c.args.toList with
  | .builtin .append,[x,y]=>JJ σ (Ao σ x) (Ao σ y)
  | _,_=>[]
 | .store _ x y=>bF σ (Ao σ x) (Ao σ y)
 | _=>[]
theorem A1Q {n:Nat} {e:Ty} {lo hi:Nat} {v:AV}:n∈JJ σ (some (.sr n e lo hi)) (some v):=by
 cases v<;>first|(simp[JJ];done)|(simp only[JJ];split<;>simp)
theorem vH (f:RL σ σ' X) (ha:IV X σ ns) {tl:List Nat} (e:∀n,n∈tl->n∈ns) {d b:Nat} {v:AV} {g:Obj} (i:lk d X.env=none) (j:lk b X.objs=none) :
  RL ⟨(d,v) :: CJ tl σ.env,(b,g) :: Av tl tl σ.objs⟩ ⟨(d,v) :: CJ tl σ'.env,(b,g) :: Av tl tl σ'.objs⟩ X:=by
 refine⟨λs=>?_,λm=>?_⟩
 ·simp only[lk];by_cases hs:s=d
  ·grind
  ·rw[An hs,An hs,E6,E6,f.env];cases a:lk s X.env with
   | none=>rfl
   | some w=>simp[Vj e w (ha.env s w a)]
 ·simp only[lk];by_cases c:m=b
  ·grind
  ·rw[An c,An c,CB,CB,f.objs];cases a:lk m X.objs with
   | none=>rfl
   | some w =>
    rw[An λh=>ha.nm m w a (e _ ((Al _ _).1 h))];exact AD0 some (Yq (ha.arr m w a))
theorem vI (c:RL σ σ' X) (ha:IV X σ ns) {n:Nat} {tl:List Nat} (hn:n∈ns) (b:∀n,n∈tl->n∈ns) {en:List (Nat×AV)} {new:List (Nat×Obj)} (d:∀s v,lk s en=some v->lk s X.env=none) (f:∀m o,lk m new=some o->lk m X.objs=none) :
  RL ⟨en++Eo n tl σ.env,new++C0 n tl σ.objs⟩ ⟨en++Eo n tl σ'.env,new++C0 n tl σ'.objs⟩ X:=by
 refine⟨λs=>?_,λm=>?_⟩
 ·simp only[A9];cases hs:lk s en with
  | some v=>rw[d s v hs];rfl
  | none =>
   rw[Hx,Hx,c.env];cases a:lk s X.env with
   | none=>rfl
   | some w=>simp[Vk hn b w (ha.env s w a)]
 ·simp only[A9];cases e:lk m new with
  | some o=>rw[f m o e];rfl
  | none =>
   rw[Ew,Ew,c.objs];cases a:lk m X.objs with
   | none=>rfl
   | some w =>
    rw[An λh=>ha.nm m w a (by
     rcases Do.1 ((Al _ _).1 h) with rfl|h
     ·exact hn
     ·exact b _ h)]
    exact AD0 some (yS (ha.arr m w a))
theorem bG {n:Nat} {o d:Obj} (c:RL σ σ' X) (ha:IV X σ ns) (hn:lk n σ.objs=some o) {env b:List (Nat×AV)} (f:∀s,lk s b=(lk s X.env).or (lk s env)):RL ⟨env,upd n d σ.objs⟩ ⟨b,upd n d σ'.objs⟩ X:=by
 refine⟨f,λm=>?_⟩;simp only[GY];have e:lk n X.objs=none:=by
  cases h:lk n X.objs with
  | none=>rfl
  | some u=>rw[ha.new n u h]at hn;cases hn
 by_cases a:m=n
 ·subst a;rw[BY rfl,BY rfl,c.objs,e];rfl
 ·rw[An a,An a,c.objs]
theorem RL.some_lk (a:RL σ σ' X) (ha:IV X σ ns) {n:Nat} {o:Obj} (h:lk n σ.objs=some o):lk n σ'.objs=some o:=a.obs ha n o h
theorem yU {tb:Tb} {op:Op} {d:Option Nat} {vc:Prop} {τ:St} (a:RL σ σ' X) (ha:IV X σ ns) (K:yT σ σ' op.operands.toList) (A:∀n∈YC σ op,n∈ns) (U:∀t,d=some t->lk t X.env=none) (T:∀n,(∃u,lk n τ.objs=some u)->lk n X.objs=none) (h:Gt tb σ d op=some (vc,τ)) :
  (∃ak,Gt tb σ' d op=some (vc,ak)/\RL τ ak X)/\∀k,aq tb σ' k op=none:=by
 have R:=a.obs ha;cases op<;>simp only[Gt]at h<;>try(cases h;done)
 case store t x y =>
  refine⟨?_,λ_=>rfl⟩;simp only[Gt];have A:∀n∈bF σ (Ao σ x) (Ao σ y),n∈ns:=A;rw[K x (by simp[Op.operands]),K y (by simp[Op.operands])];cases d with
  | some d=>simp[Di]at h
  | none =>
   simp only[Di]at h ⊢;generalize Ao σ x=al at h A ⊢;generalize Ao σ y=am at h A ⊢;unfold HN at h ⊢;split at h
   ·rename_i ti n aw off v Z;try simp only
    unfold DK at h ⊢;split at h
    ·rename_i et st fs f;rw[a.some_lk ha f];try simp only
     unfold Er at h ⊢;split at h
     ·rename_i u az h1 G;try rw[h1,G]
      try simp only
      split at h
      ·rename_i B;rw[BY B];cases h;exact⟨_,rfl,bG a ha f a.env⟩
      ·cases h
     ·cases h
    ·cases h
   ·rename_i ti n e i aw off v Z;try simp only
    unfold DL at h ⊢;split at h
    ·rename_i et ae xs f;rw[a.some_lk ha f];try simp only
     cases aa:Kb false σ ti.ty v with
     | none=>rw[aa]at h;unfold EI at h;split at h<;>first|(cases h;done)|(rename_i G;cases G)
     | some w =>
      rw[FU R aa];rw[aa]at h;unfold EI at h ⊢;split at h
      ·rename_i ys w' h1 G;cases G;try rw[h1]
       try simp only
       unfold Y1 at h ⊢;split at h
       ·rename_i z P;try rw[P]
        try simp only
        split at h
        ·rename_i B;rw[BY B];cases h;exact⟨_,rfl,bG a ha f a.env⟩
        ·cases h
       ·cases h
      ·cases h
    ·rename_i et ad k F xs j f;rw[a.some_lk ha f];try simp only
     split at h
     ·rename_i m E hi;try simp only
      split at h
      ·rename_i B;rw[BY B];unfold Ki at h ⊢;split at h
       ·rename_i J;rw[BY J];unfold Kg at h ⊢;split at h
        ·rename_i bb af ys D;rw[a.some_lk ha D];try simp only
         split at h
         ·rename_i ap;rw[BY ap];unfold Jg at h ⊢;split at h
          ·rename_i aj ab;try rw[ab]
           try simp only
           cases h;have ai:∀q,q∈[n,m]->q∈ns:=λq c=>A q (by simp only[bF,f,Cg,ACF];exact c);refine⟨_,rfl,vI (en:=[]) (new:=[(n,_)]) a ha (ai n (by simp)) (λq c=>ai q (by simp at c;simp[c])) (λs v h=>by cases h) (λq o c=>T q ⟨o,?_⟩)⟩;simp only[lk]at c ⊢;split at c
           ·rename_i F;cases c;rw[BY F]
           ·cases c
          ·cases h
         ·cases h
        ·cases h
       ·cases h
      ·cases h
     ·cases h
    ·cases h
   ·cases h
 case mapUpdate t m x y =>
  refine⟨?_,λ_=>rfl⟩;simp only[Gt];rw[K m (by simp[Op.operands]),K x (by simp[Op.operands]),K y (by simp[Op.operands])];cases d with
  | some d=>simp[Di]at h
  | none =>
   simp only[Di]at h ⊢;generalize Ao σ m=ax at h ⊢;generalize Ao σ x=al at h ⊢;generalize Ao σ y=am at h ⊢;unfold Ji at h ⊢;split at h
   ·try simp only
    unfold FY at h ⊢;split at h
    ·rename_i bf bh l f;rw[a.some_lk ha f];try simp only
     split at h
     ·rename_i B;rw[BY B];unfold F7 at h ⊢;split at h
      ·rename_i bd v1 h1 G;rw[FU R h1,FU R G];try simp only
       split at h
       ·rename_i J;rw[BY J];cases h;exact⟨_,rfl,bG a ha f a.env⟩
       ·cases h
      ·cases h
     ·cases h
    ·cases h
   ·cases h
 case call cl =>
  obtain⟨callee,⟨args⟩,⟨argTypes⟩⟩:=cl;cases callee with
  | value g=>simp[Dh]at h
  | invoke r m=>simp[Dh]at h
  | builtin b =>
   simp only[Dh]at h;unfold EK at h;split at h
   ·rename_i x y t u;have O:Ao σ' x=Ao σ x:=K x (by simp[Op.operands,Call.operands]);have S:Ao σ' y=Ao σ y:=K y (by simp[Op.operands,Call.operands]);have A:∀n∈JJ σ (Ao σ x) (Ao σ y),n∈ns:=λn hn=>A n (by simpa[YC] using hn);unfold Dy at h;split at h
    ·rename_i n e hi v C I;rw[C,I]at A;refine⟨?_,λk=>by simp[aq,Dg,EH,DJ,O,C]⟩;simp only[Gt,Dh,EK,Dy,O,C,S,I];split at h
     ·rename_i p ;have L:=U p rfl;have M:n∈ns:=A n A1Q;try simp only
      split at h
      ·rename_i N;rw[BY N];unfold EJ at h ⊢;split at h
       ·rename_i af av el b2 Y;try rw[Y]
        try simp only
        split at h
        ·rename_i W;rw[BY W];unfold CU at h ⊢;split at h
         ·rename_i ti et ae xs h1 f;try rw[h1]
          try rw[a.some_lk ha f]
          try simp only
          split at h
          ·rename_i ar;rw[BY ar];unfold Es at h ⊢;split at h
           ·rename_i aj ys G P;try rw[G]
            rw[Py R P];try simp only
            cases h;refine⟨_,rfl,⟨λs=>?_,λm=>?_⟩⟩
            ·simp only[lk];by_cases hs:s=p
             ·subst hs;rw[BY rfl,BY rfl,L];rfl
             ·rw[An hs,An hs,J6,J6,a.env];cases H:lk s X.env with
              | none=>rfl
              | some w=>simp[Vi M w (ha.env s w H)]
            ·simp only[GY,Bt];have ao:lk n X.objs=none:=by
              cases H:lk n X.objs with
              | none=>rfl
              | some w=>exact absurd M (ha.nm n w H)
             by_cases D:m=n
             ·subst D;rw[BY rfl,BY rfl,a.objs,ao];rfl
             ·rw[An D,An D,a.objs];cases H:lk m X.objs with
              | none=>rfl
              | some w=>exact AD0 some (yR (ha.arr m w H))
           ·cases h
          ·cases h
         ·rename_i ti et ad k ae xs h1 f;try rw[h1]
          try rw[a.some_lk ha f]
          try simp only
          split at h
          ·rename_i B;rw[BY B];unfold Ph at h ⊢;split at h
           ·rename_i m E au;try simp only
            unfold Kh at h ⊢;split at h
            ·rename_i an ba be ay ys D;rw[a.some_lk ha D];try simp only
             split at h
             ·rename_i J;rw[BY J];unfold Jh at h ⊢;split at h
              ·rename_i aj ab;try rw[ab]
               try simp only
               cases h;refine⟨_,rfl,vH a ha (λq c=>A q (by simp only[JJ,f,Cg,ACF];exact c)) L ?_⟩;cases H:lk n X.objs with
               | none=>rfl
               | some w=>exact absurd M (ha.nm n w H)
              ·cases h
             ·cases h
            ·cases h
           ·cases h
          ·cases h
         ·cases h
        ·cases h
       ·cases h
      ·cases h
     ·cases h
    ·rename_i n e i len v C I;rw[C,I]at A;refine⟨?_,λk=>by simp[aq,Dg,EH,DJ,O,C]⟩;simp only[Gt,Dh,EK,Dy,O,C,S,I];split at h
     ·rename_i p ;have L:=U p rfl;have M:n∈ns:=A n (by simp[JJ]);try simp only
      split at h
      ·rename_i N;rw[BY N];unfold Nt at h ⊢;split at h
       ·rename_i af av el b2 Y;try rw[Y]
        try simp only
        split at h
        ·rename_i W;rw[BY W];unfold Pg at h ⊢;split at h
         ·rename_i ti et ad k F xs h1 f;try rw[h1]
          try rw[a.some_lk ha f]
          try simp only
          split at h
          ·rename_i B;rw[BY B];unfold L1 at h ⊢;split at h
           ·rename_i ys P;rw[Py R P];try simp only
            split at h
            ·rename_i ag;have Q:lk p X.objs=none:=by
              refine T p ?_;cases h;exact⟨_,by simp only[lk,ACF];rfl⟩
             have V:(lk p σ'.objs).isNone=true/\ys.isEmpty=false:=⟨by rw[a.objs,Q];exact ag.1,ag.2⟩;rw[BY V];cases h;refine⟨_,rfl,vI (en:=[(p,_)]) (new:=[(p,_),(n,_)]) a ha M (λq c=>by cases c) (λs v h=>?_) (λq o c=>?_)⟩
             ·simp only[lk]at h;split at h
              ·rename_i F;rw[F];exact L
              ·cases h
             ·simp only[lk]at c;split at c
              ·rename_i F;rw[F];exact Q
              ·split at c
               ·rename_i F;rw[F];cases H:lk n X.objs with
                | none=>rfl
                | some w=>exact absurd M (ha.nm n w H)
               ·cases c
            ·cases h
           ·cases h
          ·cases h
         ·cases h
        ·cases h
       ·cases h
      ·cases h
     ·cases h
    ·rename_i v C I;rw[C,I]at A;split at h
     ·rename_i p ;have L:=U p rfl;split at h
      ·rename_i N;unfold X6 at h;split at h
       ·rename_i m E au bg offs el b Z;unfold Nv at h;split at h
        ·rename_i ti an ad k e ys h1 D;split at h
         ·rename_i B;unfold Nu at h;split at h
          ·rename_i J;have Q:lk p X.objs=none:=by
            refine T p ?_;cases h;exact⟨_,by simp only[lk,ACF];rfl⟩
           have V:(lk p σ'.objs).isNone=true:=by rw[a.objs,Q];exact J.1
           have ah:=a.some_lk ha D;refine⟨?_,λbc=>by simp[aq,Dg,EH,DJ,O,C,S,I,N,EF,PX,ah,Cg];split<;>simp[Eq]⟩;cases h;simp only[Gt,Dh,EK,Dy,O,C,S,I,X6,Nv,Nu];rw[BY N,Z];simp only;rw[ah,h1];simp only;rw[BY B,BY ⟨V,J.2⟩];exact⟨_,rfl,vH a ha (λq c=>A q (by simp only[JJ,D,Cg,ACF];exact c)) L Q⟩
          ·cases h
         ·cases h
        ·cases h
       ·cases h
      ·cases h
     ·cases h
    ·cases h
   ·cases h
end
end
section
open Go Go.RowKit
def A1R (o:Obj):Bool:=ML o
def Ol (o:Oper):EN->Bool
 | []=>true
 | (d,_,_) :: r=>!Aa d (Gy o.op)&&!Aa d o.dst.toList&&Ol o r
def Ua (ns:List Nat) (σ:List (Nat×Obj)):List (Nat×Obj)->Bool
 | []=>true
 | (n,o) :: r=>(lk n σ).isNone&&!Aa n ns&&A1R o&&Ua ns σ r
def MN (ns:List Nat) (σ:List (Nat×Obj)):EN->Bool
 | []=>true
 | (_,_,obs) :: r=>Ua ns σ obs&&MN ns σ r
def bH (τ:List (Nat×Obj)):List (Nat×Obj)->Bool
 | []=>true
 | (n,_) :: r=>(lk n τ).isNone&&bH τ r
def Vq (τ:List (Nat×Obj)):EN->Bool
 | []=>true
 | (_,_,obs) :: r=>bH τ obs&&Vq τ r
def JK (ns:List Nat):EN->EN
 | []=>[]
 | (d,v,obs) :: r=>(d,v.fgt ns,obs) :: JK ns r
def tn (σ:St) (o:Op):List Nat:=DA σ o++YC (Cq (DA σ o) σ) o
theorem Gz {o:Oper}:∀ {ens:EN},Ol o ens=true->∀e∈ens,e.1∉Gy o.op/\o.dst≠some e.1
 | [],_,e,a=>by cases a
 | (d,v,obs) :: r,h,e,a=>by
  simp only[Ol,AT,SZ]at h;rcases Do.1 a with rfl|a
  ·grind [Al,Aa]
  ·exact Gz h.2 e a
theorem QE {ns:List Nat} {σ:List (Nat×Obj)}:∀ {l:List (Nat×Obj)},Ua ns σ l=true->∀p∈l,lk p.1 σ=none/\p.1∉ns/\A1R p.2=true
 | [],_,e,a=>by cases a
 | (n,o) :: r,h,p,hp=>by
  simp only[Ua,AT,SZ,oS]at h;rcases Do.1 hp with rfl|hp
  ·grind [Al]
  ·exact QE h.2 p hp
theorem G0 {ns:List Nat} {σ:List (Nat×Obj)}:∀ {ens:EN},MN ns σ ens=true->∀e∈ens,∀p∈e.2.2,lk p.1 σ=none/\p.1∉ns/\A1R p.2=true
 | [],_,e,a=>by cases a
 | (d,v,obs) :: r,h,e,a=>by
  simp only[MN,AT]at h;rcases Do.1 a with rfl|a
  ·exact QE h.1
  ·exact G0 h.2 e a
theorem TF {τ:List (Nat×Obj)}:∀ {l:List (Nat×Obj)},bH τ l=true->∀p∈l,lk p.1 τ=none
 | [],_,e,a=>by cases a
 | (n,o) :: r,h,p,hp=>by
  simp only[bH,AT,oS]at h;rcases Do.1 hp with rfl|hp
  ·exact h.1
  ·exact TF h.2 p hp
theorem Om {τ:List (Nat×Obj)}:∀ {ens:EN},Vq τ ens=true->∀e∈ens,∀p∈e.2.2,lk p.1 τ=none
 | [],_,e,a=>by cases a
 | (d,v,obs) :: r,h,e,a=>by
  simp only[Vq,AT]at h;rcases Do.1 a with rfl|a
  ·exact TF h.1
  ·exact Om h.2 e a
theorem Oo {ns:List Nat}:∀ {ens:EN},JK ns ens=ens->∀e∈ens,e.2.1.fgt ns=e.2.1
 | [],_,e,a=>by cases a
 | (d,v,obs) :: r,h,e,a=>by
  simp only[JK,ADV,AEN,and_true,true_and]at h;rcases Do.1 a with rfl|a
  ·exact h.1
  ·exact Oo h.2 e a
section
variable {c:Cx} {o:Oper} {σ:St} {ens:EN} {N:St->Prop}
theorem A1S {X:St} {ns:List Nat} (b:XIn ens X) (hn:MN ns σ.objs ens=true) (hf:JK ns ens=ens):IV X σ ns:=by
 refine⟨λs v hs=>?_,λn o a=>?_,λn o a=>?_,λn o a=>?_⟩
 ·obtain⟨obs,d⟩:=b.env s v hs;exact Oo hf _ d
 all_goals
  obtain⟨e,c,hp⟩:=b.objs n o a;have:=G0 hn e c _ hp
 ·exact this.2.2
 ·exact this.1
 ·exact this.2.1
theorem yV (ab:c.Ok) {τ:St} {vc:Prop} (ns:List Nat) (h:II c.tb o σ=some (vc,τ)) (U:tn σ o.op=ns) (L:Ol o ens=true) (hn:MN ns σ.objs ens=true) (S:Vq τ.objs ens=true) (hf:JK ns ens=ens) (ad:J7 c.nt o=true) (ae:vc) (aa:N τ):qR c o σ ens N:=by
 subst U;intro X σ' j k a w next Q hs hk
 have ha:=A1S k hn hf;have F:∀t∈Gy o.op,lk t X.env=none:=λt A=>by
  cases g:lk t X.env with
  | none=>rfl
  | some v=>obtain⟨obs,f⟩:=k.env t v g;exact absurd A (Gz L _ f).1
 have D:∀t,o.dst=some t->lk t X.env=none:=λt A=>by
  cases g:lk t X.env with
  | none=>rfl
  | some v=>obtain⟨obs,f⟩:=k.env t v g;exact absurd A (Gz L _ f).2
 have G:∀n,(∃u,lk n τ.objs=some u)->lk n X.objs=none:=λn hu=>by
  cases g:lk n X.objs with
  | none=>rfl
  | some v =>
   obtain⟨e,R,hp⟩:=k.objs n v g;obtain⟨u,hu⟩:=hu;rw[Om S e R _ hp]at hu;cases hu
 have Y:=fS j ha (op:=o.op) (bE j F);obtain⟨b,y⟩:=Vp (l:=DA σ o.op) j ha (λm f=>by simp[tn,f]);have key:∃q,II c.tb o σ'=some (vc,q)/\RL τ q X:=by
  have H:∀n∈YC (Cq (DA σ o.op) σ) o.op,n∈tn σ o.op:=λm f=>by simp[tn,f]
  unfold II Pi at h ⊢;rw[Y];generalize Cq (DA σ o.op) σ=B at h b y H;generalize Cq (DA σ o.op) σ'=C at b;have K:=bE b F;cases z:aq c.tb B (o.dst.getD 0) o.op with
  | some r =>
   obtain⟨af,v,obs⟩:=r;rw[z]at h;have W:=UW (b.obs y) (λx j v Z=>by rw[K x j];exact Z) z;rw[W];simp only[L2]at h ⊢;split at h
   ·rename_i I;cases h;have J:∀n,lk n (B.add v obs o.dst).objs=(lk n obs).or (lk n B.objs):=λn=>by cases o.dst<;>simp only[St.add,A9]
    have V:∀n,lk n (C.add v obs o.dst).objs=(lk n obs).or (lk n C.objs):=λn=>by cases o.dst<;>simp only[St.add,A9]
    have E:∀n u,lk n obs=some u->lk n X.objs=none:=λn u hu=>G n ⟨u,by rw[J,hu];rfl⟩;have T:Bj obs C=true:=by
     simp only[Bj,IS,oS]at I ⊢;intro p hp;obtain⟨u,hu⟩:=NL hp;rw[b.objs,E _ u hu,I p hp];rfl
    rw[BY T];refine⟨_,rfl,λs=>?_,λn=>?_⟩
    ·cases P:o.dst with
     | none=>simp only[St.add];exact b.env s
     | some d =>
      simp only[St.add,lk];by_cases i:s=d
      ·rw[BY i,BY i,i,D d P];rfl
      ·rw[An i,An i];exact b.env s
    ·rw[J,V,b.objs];cases hu:lk n obs with
     | none=>rfl
     | some u=>rw[E n u hu];rfl
   ·cases h
  | none =>
   rw[z]at h;simp only[L2]at h;obtain⟨⟨q,h1,M⟩,O⟩:=yU b y K H D G h;rw[O];simp only[L2];exact⟨q,h1,M⟩
 grind [VQ,CK]
theorem fT {σ σ':St}:∀ {xs:List Operand},yT σ σ' xs->IR σ' xs=IR σ xs
 | [],_=>rfl
 | x :: r,h=>by
  simp only[IR];rw[h x (by simp),fT (λy a=>h y (by simp[a]))]
theorem bI {σ σ':St} (h:dX σ σ') {ren:List (Nat×B1)} {x y:AV} (a:GB σ ren x y):GB σ' ren x y:=by
 cases y<;>first|exact a|exact FU h a
theorem N0 {σ σ':St} (h:dX σ σ') {ren:List (Nat×B1)}:∀ {l r:List AV},BK σ ren l r->BK σ' ren l r
 | [],[],_=>trivial
 | [],_ :: _,a=>a.elim
 | _ :: _,[],a=>a.elim
 | _ :: _,_ :: _,a=>⟨bI h a.1,N0 h a.2⟩
theorem OA {l l':List (Nat×Obj)} (h:∀n o,lk n l=some o->lk n l'=some o) {ren:List (Nat×B1)}:∀ {r:List (Nat×Obj)},Ae l ren r->Ae l' ren r
 | [],_=>trivial
 | (m,o) :: r,a=>by
  refine⟨?_,OA h a.2⟩;have h1:=a.1;cases hf:lk m ren with
  | none=>rw[hf]at h1;exact h1.elim
  | some f =>
   rw[hf]at h1;cases f with
   | nil=>exact h1
   | nm n =>
    simp only[GA]at h1 ⊢;cases hn:lk n l with
    | none=>rw[hn]at h1;simp only[HP]at h1
    | some x=>rw[h n x hn,<-hn];exact h1
theorem yW (af:c.Ok) {dst:Option Nat} {g:Operand} {xs:List Operand} {ts:Array TypeId} {ty:TypeId} {pos:String} {after:Array Edge}
  {f:FuncId} {D:List Nat} (aj:Cs (Ao σ g)=some (f,D)) {as:List AV} (ae:IR σ xs=some as)
  {A:List AV} {objs:List (Nat×Obj)} {stay:List Nat} {post:AV->List (Nat×Obj)->Prop} (aa:BI c.P f A objs stay post)
  (ren:List (Nat×B1)) (hs:List Nat) (h1:B4 ren=true) (V:CM objs ren=true) (am:(c.ds.pin.all λp=>!Aa p.1 hs)=true)
  (I:Ol ⟨dst,.call ⟨.value g,xs.toArray,ts⟩,ty,pos,after,none⟩ ens=true) (hn:MN (Ah ren) σ.objs ens=true) (hf:JK hs ens=ens) (ag:J7 c.nt ⟨dst,.call ⟨.value g,xs.toArray,ts⟩,ty,pos,after,none⟩=true)
  (Z:BK σ ren (as++D.map λn=>AV.bp n [] 0) A) (ab:Ae σ.objs ren objs)
  (hk:∀res r,post res r->∃(l:List (Nat×B1)) (x:AV) (i:List (Nat×Obj)),B4 l=true/\CM i l=true/\Ae r l i/\Bk l res x /\
   JG ren l stay hs=true/\Fd (Ah ren) i σ.objs=true/\Vq i ens=true/\N (CL σ (Ah ren) hs dst x i)) :
  qR c ⟨dst,.call ⟨.value g,xs.toArray,ts⟩,ty,pos,after,none⟩ σ ens N:=by
 intro X σ' q k a w next Q ao al
 have ah:∀s v,lk s X.env=some v->v.fgt hs=v:=λs v hs=>by
  obtain⟨obs,m⟩:=k.env s v hs;exact Oo hf _ m
 have G:dX σ σ':=by
  intro n o z;rw[q.objs];cases b:lk n X.objs with
  | none=>exact z
  | some aq =>
   obtain⟨e,j,hp⟩:=k.objs n aq b;rw[(G0 hn e j _ hp).1]at z;cases z
 have ak:∀n o,lk n X.objs=some o->n∉Ah ren:=λn o B=>by
  obtain⟨e,j,hp⟩:=k.objs n o B;exact(G0 hn e j _ hp).2.1
 have ad:∀t∈(g :: xs).filterMap Nz,lk t X.env=none:=λt C=>by
  cases b:lk t X.env with
  | none=>rfl
  | some v =>
   obtain⟨obs,m⟩:=k.env t v b;refine absurd ?_ (Gz I _ m).1;simpa[Gy,Op.operands,Call.operands] using C
 have ar:∀t,dst=some t->lk t X.env=none:=λt C=>by
  cases b:lk t X.env with
  | none=>rfl
  | some v=>obtain⟨obs,m⟩:=k.env t v b;exact absurd C (Gz I _ m).2
 have H:=bE q ad;refine bA af (xs:=xs) (ts:=ts) rfl rfl (by rw[H g (by simp)];exact aj) (by rw[fT (λy ap=>H y (by simp[ap]))];exact ae) aa ren h1 V (N0 G Z) (OA G ab) hs am ao (CK ag) λres r hp=>?_;obtain⟨l,x,i,L,M,O,R,S,E,T,U⟩:=hk res r hp;have F:∀n o,lk n X.objs=some o->lk n i=none:=λn o B=>by
  obtain⟨e,j,hp⟩:=k.objs n o B;exact Om T e j _ hp
 refine⟨l,x,i,L,M,O,R,S,?_,λK w' an=>al _ U K w' _ ⟨λs=>?_,λn=>?_⟩ an⟩
 ·simp only[Fd,IS,Su,oS]at E ⊢;intro p hp;rcases E p hp with h|h
  ·exact .inl h
  ·right;rw[q.objs,h];cases b:lk p.1 X.objs with
   | none=>rfl
   | some u =>
    obtain⟨av,J⟩:=NL hp;rw[F _ u b]at J;cases J
 ·have ai:lk s (CJ hs σ'.env)=(lk s X.env).or (lk s (CJ hs σ.env)):=by
   rw[E6,E6,q.env];cases b:lk s X.env with
   | none=>rfl
   | some v=>simp[ah s v b]
  simp only[CL];cases dst with
  | none=>exact ai
  | some d =>
   simp only[Jr,lk];by_cases au:s=d
   ·grind
   ·grind
 ·simp only[CL,A9,CB,q.objs];cases b:lk n X.objs with
  | none=>simp
  | some u =>
   have Y:ML u=true:=by
    obtain⟨e,j,hp⟩:=k.objs n u b;exact(G0 hn e j _ hp).2.2
   have W:¬Aa n (Ah ren)=true:=λh=>ak n _ b ((Al _ _).1 h);rw[F n _ b,An W];exact AD0 some (Yq Y)
end
section
variable {c:Cx} {ops:List Oper} {Kf:St->Prop} {τ:St} {ens:EN} {vc:Prop}
theorem A1T {D:List Nat} (h:pX c.tb ops τ.objs D [] τ.env=some (vc,ens)) (b:vc) (a:QC ens τ.objs=true) (hk:Kf (Lo ens τ)):Mix c ops Kf [] D ens τ:=⟨⟨vc,h,b,a⟩,hk⟩
theorem A1U {A D:List Nat} {l:Nat} {b:List (List Nat×Nat)} {o:Oper} {d:St} {a:EN} (h:pX c.tb ops τ.objs (A++qs b D) [] τ.env=some (vc,ens)) (j:vc) (g:QC ens τ.objs=true) (i:ops[l]?=some o) (k:Lo (ens.take A.length) τ=d) (f:ens.drop A.length=a)
  (e:qR c o d a (λm=>Mix c ops Kf b D a m)):Mix c ops Kf ((A,l) :: b) D ens τ:=by
 subst k f;exact⟨⟨vc,h,j,g⟩,o,i,e⟩
end
end
section
open Go
attribute [local go_sem] YY AM List.toList_toArray Bq evG evK VA Ef Jj Fs E7 II Pi L2 DA Cp Kj B3 Cq frz d7 GV DE A6 Fa Bd AV.frz AV.frzs AV.drp AV.drps AV.names AV.namess aq GW J4 Ja RP H7 BX Be Iz EZ Hf Ea Hh Hg Hi Tr Np GX I0 Fc Dx Ts Pd qUn I8 IA Kd FJ Df IB Jc EE RQ DJ EF Eq Pe IC Lz FP Ly Nq Pf LS ID Jd EH Dg Gt Di HN DK Er DL EI Y1 B3 Cg PX Pa Lx F6 H9 H8 Jb Nt Pg L1 Ki Kg Jg Ph Kh Jh X6 Nv Nu AV.trn AV.trns Eo C0 Obj.trn JJ bF Dh EK Dy EJ CU Es Ao lk Gn GP HK bin d6 Uz d9 Pc uN uP pfs AV.cells CD Ix OQ Jf Ns CT Lv Ty.cell1 He Ep De F5 Kb E5 J0 LR PZ Em Gr Lu RN Tp Ln Jz X3 aC Pb Lw Co Iy RV.flat Ty.flat Ty.size St.add upd del Bj Value.oneCell' KZ Ty.dflt Hd NE Gx NK List.take_succ_cons List.take_zero List.length_cons Yf Yg NJ IQ KD Gb Hz yF E8 Kr Ks Kt Ku Od Oe Kv Hn Rc Option.map_some Option.map_none Option.bind_some Option.getD_some Option.getD_none Option.isNone_none Option.isNone_some Bool.and_true Bool.true_and Bool.and_false Bool.false_and Bool.not_true Bool.not_false if_true if_false List.length_cons List.length_nil and_true true_and and_self List.all_cons List.all_nil List.append_nil List.nil_append List.cons_append List.getElem?_cons_zero List.getElem?_cons_succ List.getElem?_nil List.map_cons List.map_nil List.set_cons_zero List.set_cons_succ List.isEmpty_nil List.isEmpty_cons decide_true decide_false beq_self_eq_true bne_self_eq_false Nat.zero_add Nat.add_zero Nat.sub_zero Int.toNat_natCast Int.toNat_zero Int.toNat_one List.take_length List.length_append List.length_singleton true_or or_true or_self false_or or_false Ty.agg.injEq Ty.slice.injEq Ty.prod.injEq Ty.int.injEq Option.some.injEq beq_iff_eq La evMG evMQ opM HR LZ B2 JD Gy Nz JC HQ Ho JE KB MD MF ME Rd KA NG NH Hy Aa Aj Op.operands Call.operands List.filterMap_cons List.filterMap_nil List.append_eq Bool.cond_false_right Bool.cond_true_left cond_true cond_false implies_true decide_eq_true_eq beq_true beq_false Bool.or_true Bool.or_false Bool.true_or Bool.false_or Option.isSome_some Array.empty_append List.append_toArray Fb Kk Et HZ X5 Nr FQ Fl Fk IE HL Je Ke U0 d8 Hv inB Ji FY F7 IG Am Yh List.drop_zero DU Ha YA CL Jr CJ AV.fgt AV.fgts Obj.fgt Av Ah Aa Cs IR BK GB List.any_cons List.any_nil pX bB YB bC Lo QC qs List.flatMap_cons List.flatMap_nil List.cons_append tn YC JK List.take_succ_cons List.drop_succ_cons B4 CM Ae Ey Jp Bk Ex Dj HO Hm GA HP
end
end Go.Proofs.YtapkhdkbkodbjaaGreat.Fw
