/- Regions in which operations on memory float among quiet ones. -/
import Derived.Test.YtapkhdkbkodbjaaGreatJZG
set_option linter.unusedVariables false
set_option linter.unusedSimpArgs false
namespace Go.Proofs.YtapkhdkbkodbjaaGreat.Fw
section
open Go Go.RowKit
abbrev EN:=List (Nat×AV×List (Nat×Obj))
def f8 (x:Option Oper) (f:Oper->Option (Prop×EN)):Option (Prop×EN) :=
 match x with
 | some o=>f o
 | none=>none
def bQ (d:Option Nat) (r:Ba) (f:Nat->Prop->AV->List (Nat×Obj)->Option (Prop×EN)):Option (Prop×EN) :=
 match d,r with
 | some d,some (vc,v,obs)=>f d vc v obs
 | _,_=>none
def f9 (d:Nat) (vc:Prop) (v:AV) (obs:List (Nat×Obj)) (r:Option (Prop×EN)):Option (Prop×EN) :=
 match r with
 | some (a,l)=>some (vc/\a,(d,v,obs) :: l)
 | none=>none
def l9 (tb:Tb) (ops:List Oper) (base:List (Nat×Obj)):List Nat->List (Nat×List (Nat×Obj))->List (Nat×AV)->Option (Prop×EN)
 | [],_,_=>some (True,[])
 | i :: Q,E,env=>f8 (ops[i]?) λo=>bQ o.dst (aq tb ⟨env,MF false o.op base E⟩ (o.dst.getD 0) o.op) λd vc v obs=>f9 d vc v obs (l9 tb ops base Q (Jw d obs E) ((d,v) :: env))
def MM:EN->St->St
 | [],σ=>σ
 | (d,v,obs) :: r,σ=>MM r ⟨(d,v) :: σ.env,obs++σ.objs⟩
def Rr:EN->List (Nat×Obj)->Bool
 | [],_=>true
 | (_,_,obs) :: r,objs=>(obs.all λp=>(lk p.1 objs).isNone)&&Rr r (obs++objs)
def A9c (tb:Tb) (ops:List Oper) (Q:List Nat) (ens:EN) (τ:St):Prop:=∃vc:Prop,l9 tb ops τ.objs Q [] τ.env=some (vc,ens)/\vc/\Rr ens τ.objs=true
def qs (a:List (List Nat×Nat)) (D:List Nat):List Nat:=(a.flatMap (·.1))++D
def qB1 (ops:List Oper) (anc:List (List Nat)) (L Q:List Nat):List Nat->List Nat->Bool
 | [],_=>true
 | i :: r,pre=>(match ops[i]? with
   | some o=>o.dst.isSome&&o.guard.isNone&&((EI o).all λe=>Ac e L||Ac e pre)&&((Gx o.op).all λt=>Q.all λj=>Ap ops j != some t||(Ac j (anc.getD i [])&&Ac j pre))&&(pre.all λj=>Ap ops j != o.dst)&&!Ac i L&&!Ac i pre
   | none=>false)&&qB1 ops anc L Q r (i :: pre)
def Tp (ops:List Oper) (anc:List (List Nat)) (p0:Nat):List Nat->List (List Nat×Nat)->List Nat->Bool
 | L,[],D=>qB1 ops anc L D D []&&((List.range p0).all λi=>Ac i L||Ac i D)&&decide (L.length+D.length=p0)&&decide (p0<=ops.length)&&(L.all λi=>decide (i<p0))&&(D.all λi=>decide (i<p0))&&((List.range ops.length).all λi=>decide (i<p0)||(List.range i).all λj=>Ac j (anc.getD i []))
 | L,(A,l) :: a,D=>qB1 ops anc L (A++qs a D) (A++qs a D) []&&(match ops[l]? with
   | some o=>o.guard.isNone&&((EI o).all λe=>Ac e L||Ac e A)&&(A.all λj=>Ac j (anc.getD l []))&&!Ac l L&&!Ac l (A++qs a D)
   | none=>false)&&(a.all λp=>Ac l (anc.getD p.2 []))&&Tp ops anc p0 (l :: (A++L)) a D
def A9d (ops:List Oper) (anc:List (List Nat)):Bool :=
 (List.range ops.length).all λi=>match ops[i]? with|some o=>((EI o).all λe=>decide (e<i))&&((anc.getD i []).all λj=>Ac j (EI o)||(EI o).any λe=>Ac j (anc.getD e []))|none=>false
structure Nn (σ σ' X:St):Prop where
 env:∀s,lk s σ'.env=(lk s X.env).or (lk s σ.env)
 objs:∀n,lk n σ'.objs=(lk n X.objs).or (lk n σ.objs)
structure XIn (ens:EN) (X:St):Prop where
 env:∀s v,lk s X.env=some v->∃obs,(s,v,obs)∈ens
 objs:∀n o,lk n X.objs=some o->∃e∈ens,(n,o)∈e.2.2
def bS (c:Cx) (o:Oper) (σ:St) (ens:EN) (N:St->Prop):Prop :=
 ∀(X σ':St),Nn σ σ' X->XIn ens X->∀(a:Act) (w:World) (next:Act->World->Prop) (Q:Exit->Act->World->Prop),c.sat σ' a w ->
  (∀τ,N τ->∀(b:Act) (w':World) (d:St),Nn τ d X->c.sat d b w'->next b w')->o.wpIn (FR c.r) 0 c.P a w next Q
def Mix (c:Cx) (ops:List Oper) (Kf:St->Prop):List (List Nat×Nat)->List Nat->EN->St->Prop
 | [],D,ens,τ=>A9c c.tb ops D ens τ/\Kf (MM ens τ)
 | (A,l) :: a,D,ens,τ=>A9c c.tb ops (A++qs a D) ens τ/\∃o,ops[l]?=some o/\bS c o (MM (ens.take A.length) τ) (ens.drop A.length) (λb=>Mix c ops Kf a D (ens.drop A.length) b)
def Om (Q:List Nat) (ens:EN) (i:Nat):En :=
 match lk i (Q.zip ens) with
 | some (_,v,obs)=>⟨true,v,obs⟩
 | none=>⟨true,.top,[]⟩
section
variable {ops:List Oper} {en:Nat->En} {τ:St}
theorem Rs:∀(l:List Nat),(Aw ops en τ l).env=(Aw ops en ⟨[],[]⟩ l).env++τ.env
 | []=>rfl
 | i :: r=>by
  simp only[Aw];cases Ap ops i with
  | none=>simp only[St.add];exact Rs r
  | some d=>simp only[St.add,ADF];rw[Rs r]
theorem mA (l:List Nat):(Aw ops en τ l).objs=(Aw ops en ⟨[],[]⟩ l).objs++τ.objs:=by
 rw[Fm,Fm];simp
theorem A24 (l:List Nat):Nn τ (Aw ops en τ l) (Aw ops en ⟨[],[]⟩ l) :=
 ⟨λs=>by rw[Rs,A5],λn=>by rw[mA,A5]⟩
structure Own (ops:List Oper) (en:Nat->En) (τ:St) (Q:List Nat):Prop where
 slot:∀i∈Q,∀j∈Q,∀s,Ap ops i=some s->Ap ops j=some s->i=j
 new:∀i∈Q,∀n o,lk n (en i).obs=some o->lk n τ.objs=none
 name:∀i∈Q,∀j∈Q,∀n o o',lk n (en i).obs=some o->lk n (en j).obs=some o'->i=j
theorem lkE {Q l:List Nat} (h:Own ops en τ Q) (c:∀i∈l,i∈Q) (s:Nat) (v:AV):lk s (Aw ops en τ l).env=some v↔(∃i∈l,Ap ops i=some s/\(en i).v=v)\/((∀i∈l,Ap ops i≠some s)/\lk s τ.env=some v):=by
 rw[Fq];cases hf:l.find? (λj=>Ap ops j==some s) with
 | none =>
  have hn:∀i∈l,Ap ops i≠some s:=λi hi=>by simpa using AFi.1 hf i hi
  constructor
  ·grind
  ·grind
 | some j =>
  have b:=AEG hf;have a:Ap ops j=some s:=by simpa using AFx hf
  constructor
  ·grind
  ·rintro (⟨i,hi,d,rfl⟩|⟨hn,_⟩)
   ·rw[h.slot i (c i hi) j (c j b) s d a]
   ·exact absurd a (hn j b)
theorem lkO {Q l:List Nat} (h:Own ops en τ Q) (d:∀i∈l,i∈Q) (n:Nat) (o:Obj):lk n (Aw ops en τ l).objs=some o↔(∃i∈l,lk n (en i).obs=some o)\/((∀i∈l,lk n (en i).obs=none)/\lk n τ.objs=some o):=by
 rw[Fm,A5];cases hf:lk n (l.flatMap λj=>(en j).obs) with
 | some e =>
  obtain⟨j,c,a⟩:=pZ hf;simp only[AFl];constructor
  ·grind
  ·rintro (⟨i,hi,b⟩|⟨hn,_⟩)
   ·have:=h.name i (d i hi) j (d j c) n o e b a;subst this;rw[<-a,b]
   ·rw[hn j c]at a;cases a
 | none =>
  have hn:=Kq hf;simp only[Option.none_or];constructor
  ·grind
  ·grind
theorem zG {Q l A:List Nat} (h:Own ops en τ Q) (k:∀i∈l,i∈Q) (m:∀i∈A,i∈l):Nn (Aw ops en τ A) (Aw ops en τ l) (Aw ops en ⟨[],[]⟩ (l.filter λi=>!Ac i A)):=by
 have h0:Own ops en ⟨[],[]⟩ Q:=⟨h.slot,λ_ _ _ _ _=>rfl,h.name⟩;have hf:∀i∈l.filter (λi=>!Ac i A),i∈Q:=λi hi=>k i (ADv.1 hi).1;have p:∀i∈A,i∈Q:=λi hi=>k i (m i hi);have g:∀i,i∈l.filter (λi=>!Ac i A)↔i∈l/\i∉A:=λi=>by grind [Af,Ac]
 refine⟨λs=>AFn λv=>?_,λn=>AFn λo=>?_⟩
 ·rw[lkE h k,Option.or_eq_some_iff,lkE h0 hf,lkE h p];constructor
  ·rintro (⟨i,hi,d,a⟩|⟨hn,a⟩)
   ·by_cases c:i∈A
    ·refine .inr ⟨?_,.inl ⟨i,c,d,a⟩⟩;cases b:lk s (Aw ops en ⟨[],[]⟩ (l.filter λi=>!Ac i A)).env with
     | none=>rfl
     | some u =>
      rcases (lkE h0 hf s u).1 b with ⟨j,e,f,_⟩|⟨_,b⟩
      ·have:=h.slot i (k i hi) j (hf j e) s d f;subst this;exact absurd c ((g i).1 e).2
      ·cases b
    ·exact .inl (.inl ⟨i,(g i).2 ⟨hi,c⟩,d,a⟩)
   ·refine .inr ⟨?_,.inr ⟨λi hi=>hn i (m i hi),a⟩⟩;cases b:lk s (Aw ops en ⟨[],[]⟩ (l.filter λi=>!Ac i A)).env with
    | none=>rfl
    | some u =>
     rcases (lkE h0 hf s u).1 b with ⟨j,e,f,_⟩|⟨_,b⟩
     ·exact absurd f (hn j ((g j).1 e).1)
     ·cases b
  ·rintro ((⟨i,hi,d,a⟩|⟨_,a⟩)|⟨b,⟨i,hi,d,a⟩|⟨hn,a⟩⟩)
   ·grind
   ·cases a
   ·grind
   ·refine .inr ⟨λi hi d=>?_,a⟩;by_cases c:i∈A
    ·exact hn i c d
    ·have:=(lkE h0 hf s (en i).v).2 (.inl ⟨i,(g i).2 ⟨hi,c⟩,d,rfl⟩);rw[b]at this;cases this
 ·rw[lkO h k,Option.or_eq_some_iff,lkO h0 hf,lkO h p];constructor
  ·rintro (⟨i,hi,a⟩|⟨hn,a⟩)
   ·by_cases c:i∈A
    ·refine .inr ⟨?_,.inl ⟨i,c,a⟩⟩;cases b:lk n (Aw ops en ⟨[],[]⟩ (l.filter λi=>!Ac i A)).objs with
     | none=>rfl
     | some u =>
      rcases (lkO h0 hf n u).1 b with ⟨j,e,f⟩|⟨_,b⟩
      ·have:=h.name i (k i hi) j (hf j e) n _ _ a f;subst this;exact absurd c ((g i).1 e).2
      ·cases b
    ·exact .inl (.inl ⟨i,(g i).2 ⟨hi,c⟩,a⟩)
   ·refine .inr ⟨?_,.inr ⟨λi hi=>hn i (m i hi),a⟩⟩;cases b:lk n (Aw ops en ⟨[],[]⟩ (l.filter λi=>!Ac i A)).objs with
    | none=>rfl
    | some u =>
     rcases (lkO h0 hf n u).1 b with ⟨j,e,f⟩|⟨_,b⟩
     ·rw[hn j ((g j).1 e).1]at f;cases f
     ·cases b
  ·rintro ((⟨i,hi,a⟩|⟨_,a⟩)|⟨b,⟨i,hi,a⟩|⟨hn,a⟩⟩)
   ·grind
   ·cases a
   ·grind
   ·refine .inr ⟨λi hi=>?_,a⟩;by_cases c:i∈A
    ·exact hn i c
    ·cases d:lk n (en i).obs with
     | none=>rfl
     | some u =>
      have:=(lkO h0 hf n u).2 (.inl ⟨i,(g i).2 ⟨hi,c⟩,d⟩);rw[b]at this;cases this
end
def A27 (tb:Tb) (ops:List Oper) (τ:St) (en:Nat->En) (pre:List Nat) (i:Nat) (o:Oper):Prop :=
 ∃vc:Prop,aq tb ⟨(Aw ops en τ pre).env,B8 false (Gx o.op) τ.objs (ES ops en pre)⟩ (o.dst.getD 0) o.op=some (vc,(en i).v,(en i).obs)/\vc
theorem gB {ts:List Nat} {base:List (Nat×Obj)} {d:Nat} {obs:List (Nat×Obj)} {E:List (Nat×List (Nat×Obj))}:B8 false ts base (Jw d obs E)=B8 false ts base ((d,obs) :: E):=by
 cases obs with
 | nil=>simp only[Jw,B8,AE0];split<;>rfl
 | cons x r=>rfl
theorem A28 {o:Op} {base:List (Nat×Obj)} {E:List (Nat×List (Nat×Obj))}:MF false o base E=B8 false (Gx o) base E:=by
 cases E<;>rfl
theorem Yz {tb:Tb} {ops:List Oper} {τ:St} {en:Nat->En}:∀ {Q:List Nat} {ens:EN} {pre:List Nat} {E:List (Nat×List (Nat×Obj))} {vc:Prop},l9 tb ops τ.objs Q E (Aw ops en τ pre).env=some (vc,ens)->vc ->
  (∀ts,B8 false ts τ.objs E=B8 false ts τ.objs (ES ops en pre))->(∀(j i:Nat) (e:Nat×AV×List (Nat×Obj)),Q[j]?=some i->ens[j]?=some e->en i=⟨true,e.2.1,e.2.2⟩) ->
  ens.length=Q.length/\∀(j i:Nat),Q[j]?=some i->∃(o:Oper) (e:Nat×AV×List (Nat×Obj)),ops[i]?=some o/\ens[j]?=some e/\Ap ops i=some e.1/\A27 tb ops τ en ((Q.take j).reverse++pre) i o
 | [],ens,pre,E,vc,h,q,g,m=>by grind [l9]
 | i :: Q,ens,pre,E,vc,h,q,g,m=>by
  simp only[l9]at h;cases b:ops[i]? with
  | none=>rw[b]at h;simp[f8]at h
  | some o =>
   rw[b]at h;simp only[f8]at h;cases a:o.dst with
   | none=>rw[a]at h;simp[bQ]at h
   | some d =>
    cases c:aq tb ⟨(Aw ops en τ pre).env,MF false o.op τ.objs E⟩ (o.dst.getD 0) o.op with
    | none=>rw[c,a]at h;simp[bQ]at h
    | some r =>
     obtain⟨y,v,obs⟩:=r;rw[c,a]at h;simp only[bQ]at h;cases n:l9 tb ops τ.objs Q (Jw d obs E) ((d,v) :: (Aw ops en τ pre).env) with
     | none=>rw[n]at h;simp[f9]at h
     | some p =>
      obtain⟨A,z⟩:=p;rw[n]at h;simp only[f9]at h;cases h;have hi:=m 0 i (d,v,obs) rfl rfl;have l:Ap ops i=some d:=by simp[Ap,b,a]
      have w:(Aw ops en τ (i :: pre)).env=(d,v) :: (Aw ops en τ pre).env:=by simp[Aw,l,St.add,hi]
      have s:=Yz (pre:=i :: pre) (by rw[w];exact n) q.2 (λts=>by
       rw[gB];simp only[ES,UQ,l,AF1,hi,B8];rw[g ts];rfl) (λj k e h1 f=>m (j+1) k e (by simpa using h1) (by simpa using f))
      refine⟨by simp[s.1],λj k hk=>?_⟩;cases j with
      | zero =>
       simp only[AE1,tO]at hk;subst hk;refine⟨o,(d,v,obs),b,rfl,l,y,?_,q.1⟩;rw[A28,g]at c;simp only[ADf,List.reverse_nil,AE0];rw[hi];exact c
      | succ j =>
       obtain⟨x,e,h1,f,t,u⟩:=s.2 j k (by simpa using hk);refine⟨x,e,h1,by simpa using f,t,?_⟩;simpa[AAa] using u
theorem Ru:∀ {ens:EN} {objs:List (Nat×Obj)},Rr ens objs=true->∀(j:Nat) (e:Nat×AV×List (Nat×Obj)),ens[j]?=some e->∀n o,lk n e.2.2=some o->lk n objs=none/\∀(b:Nat) (a:Nat×AV×List (Nat×Obj)) (c:Obj),ens[b]?=some a->lk n a.2.2=some c->j=b
 | [],objs,_,j,e,h=>by simp at h
 | (d,v,obs) :: r,objs,h,j,e,f=>by
  simp only[Rr,AT,Is,AA9]at h;have h0:∀n o,lk n obs=some o->lk n objs=none:=λn o hn=>h.1 _ (F8 hn);have g:=Ru h.2;grind [lk,A5]
end
section
open Go Go.RowKit
structure Y0 (ops:Array Oper) (anc:List (List Nat)):Prop where
 lt:∀i o,ops[i]?=some o->∀e∈EI o,e<i
 cl:∀i o,ops[i]?=some o->∀j∈anc.getD i [],j∈EI o\/∃e∈EI o,j∈anc.getD e []
theorem AAx {ops:Array Oper} {anc:List (List Nat)} (h:A9d ops.toList anc=true):Y0 ops anc:=by
 simp only[A9d,Is,UM]at h;have hi:∀i o,ops[i]?=some o->((EI o).all λe=>decide (e<i))=true/\((anc.getD i []).all λj=>Ac j (EI o)||(EI o).any λe=>Ac j (anc.getD e []))=true:=by grind
 refine⟨λi o a e b=>?_,λi o a j c=>?_⟩
 ·grind
 ·grind [Af]
section
variable {ops:Array Oper} {k:Nat} {anc:List (List Nat)} {Q:Exit->Act->World->Prop}
theorem S6 (a:Y0 ops anc) {listed:Array Bool} (g:∀i o,ops[i]?=some o->listed.getD i true=true->∀e∈EI o,listed.getD e false=true) :
  ∀i o,ops[i]?=some o->(∀e∈EI o,listed.getD e false=true)->∀j∈anc.getD i [],listed.getD j false=true:=by
 intro i;induction i using Nat.strongRecOn with
 | _ i l =>
  intro o b c j f;rcases a.cl i o b j f with h1|⟨e,d,h⟩
  ·exact c j h1
  ·have k:=a.lt i o b e d;grind
theorem Rv {F:Fence} {P:Program} (g:Y0 ops anc) (q:∀i o,ops[i]?=some o->k<=i->∀j,j<i->j∈anc.getD i []):∀ {rest:List Oper} {p:Nat} {listed:Array Bool} {a:Act} {w:World},ops.toList.drop p=rest->k<=p->p<=ops.size->listed.size=ops.size ->
  (∀i,i<ops.size->(listed.getD i true=true↔i<p))->wpListIn F 0 P ops Q rest a w->wpAnyIn F 0 P .any ops Q rest.length listed a w
 | [],p,listed,a,w,l,C,D,m,f,c=>by
  have hp:p=ops.size:=by
   have:=ADx List.length l;simp at this;omega
  refine⟨?_,c⟩;apply AEY.2;grind [Dq]
 | o :: r,p,listed,a,w,l,C,D,m,f,c=>by
  obtain⟨d,v⟩:=Yu l;have d:ops[p]?=some o:=by simpa using d
  have E:p<ops.size:=(UV.1 d).1;have x:∀e b,e<ops.size->listed.getD e b=listed.getD e true:=λe b h=>by grind
  have L:∀i o,ops[i]?=some o->listed.getD i true=true->∀e∈EI o,listed.getD e false=true:=by
   intro i o u h1 e h;have H:i<ops.size:=(UV.1 u).1;have J:=(f i H).1 h1;have K:=g.lt i o u e h;grind
  have G:∀i,i∈Region.ready .any ops listed->i=p:=by grind [Dq,S6]
  refine⟨λM=>?_,λi hi=>?_⟩
  ·exfalso;have:p∈Region.ready .any ops listed:=by
    rw[Dq];refine⟨?_,o,d,λe h=>?_⟩
    ·cases hh:listed.getD p true with
     | false=>rfl
     | true=>have:=(f p E).1 hh;omega
    ·have:=g.lt p o d e h;rw[x e false (by omega)];exact(f e (by omega)).2 this
   grind
  ·have z:=G i hi;subst z;have t:∀(j:Nat),j<ops.size->((listed.setIfInBounds i true).getD j true=true↔j<i+1):=by
    intro j A;have B:j<listed.size:=by omega
    by_cases s:j=i
    ·subst s;simp[Array.getD,B]
    ·have h1:(listed.setIfInBounds i true).getD j true=listed.getD j true:=getD_set_ne true (λe=>s e.symm);rw[h1,f j A];omega
   unfold wpOpIn;rw[d];simp only;unfold wpListIn at c;split
   ·rename_i n;rw[BY n]at c;exact Oper.wpIn_mono (λI w' y=>Rv g q v.symm (by omega) (by omega) (by simpa using m) t y) c
   ·rename_i n;rw[An n]at c;exact⟨c.1,Rv g q v.symm (by omega) (by omega) (by simpa using m) t c.2⟩
end
structure QOk (ops:List Oper) (anc:List (List Nat)) (L Q:List Nat):Prop where
 nodup:Q.Nodup
 pos:∀(j i:Nat),Q[j]?=some i->i∉L/\∃o,ops[i]?=some o/\o.guard=none/\(∀e∈EI o,e∈L\/e∈Q.take j)/\(∀t∈Gx o.op,∀k∈Q,Ap ops k=some t->k∈anc.getD i []/\k∈Q.take j)
 slot:∀i∈Q,∀j∈Q,∀s,Ap ops i=some s->Ap ops j=some s->i=j
theorem gC {ops:List Oper} {anc:List (List Nat)} {L Q:List Nat}:∀ {r pre:List Nat},qB1 ops anc L Q r pre=true ->
  (∀(j i:Nat),r[j]?=some i->i∉L/\i∉pre/\i∉r.take j/\∃o,ops[i]?=some o/\o.guard=none/\(∀e∈EI o,e∈L\/e∈pre\/e∈r.take j)/\(∀t∈Gx o.op,∀k∈Q,Ap ops k=some t->k∈anc.getD i []/\(k∈pre\/k∈r.take j)) /\
   ∀k,k∈pre\/k∈r.take j->Ap ops k≠Ap ops i)
 | [],pre,h,j,i,a=>by simp at a
 | x :: r,pre,h,j,i,a=>by
  simp only[qB1,AT]at h;obtain⟨h1,s⟩:=h;cases j with
  | zero =>
   simp only[AE1,tO]at a;subst a;cases f:ops[x]? with
   | none=>rw[f]at h1;cases h1
   | some o =>
    rw[f]at h1;simp only[AT,Is,UU,Af,AEM,UB,AA9]at h1;obtain⟨⟨⟨⟨⟨⟨A,q⟩,B⟩,C⟩,D⟩,c⟩,d⟩:=h1;refine⟨λh=>(by rw[(Af _ _).2 h]at c;cases c),λh=>(by rw[(Af _ _).2 h]at d;cases d),by simp,o,rfl,q,λe v=>?_,λt w k hk u=>?_,λk hk=>?_⟩
    ·grind
    ·grind
    ·grind [Ap]
  | succ j =>
   obtain⟨g,b,l,o,m,n,y,z,p⟩:=gC s j i (by simpa using a);simp only[DO,not_or]at b;refine⟨g,b.2,by simp[AAa,b.1,l],o,m,n,λe v=>?_,λt w k hk u=>?_,λk hk=>p k ?_⟩
   ·grind
   ·grind
   ·grind
theorem gD {α:Type} {l:List α} {i j:Nat} {x:α} (h:l[i]?=some x) (a:i<j):x∈l.take j:=by
 rw[bY];exact⟨i,by rw[US,BY a];exact h⟩
theorem qOk {ops:List Oper} {anc:List (List Nat)} {L Q:List Nat} (h:qB1 ops anc L Q Q []=true):QOk ops anc L Q:=by
 have hs:=gC h;have m:∀ {i j x y:Nat},Q[i]?=some x->Q[j]?=some y->i<j->x≠y/\Ap ops x≠Ap ops y:=by grind [gD]
 refine⟨?_,λj i c=>?_,λi hi j c s h1 q=>?_⟩
 ·rw[List.nodup_iff_pairwise_ne,UK];intro i j hi c l e;exact(m (At hi) (At c) l).1 e
 ·obtain⟨d,_,_,o,f,g,n,p,_⟩:=hs j i c;refine⟨d,o,f,g,λe v=>?_,λt w k hk u=>?_⟩
  ·grind
  ·grind
 ·obtain⟨a,ha⟩:=bY.1 hi;obtain⟨b,r⟩:=bY.1 c;grind
theorem mB:∀ {Q:List Nat} {ens:EN},Q.Nodup->∀(j i:Nat) (e:Nat×AV×List (Nat×Obj)),Q[j]?=some i->ens[j]?=some e->Om Q ens i=⟨true,e.2.1,e.2.2⟩
 | [],ens,_,j,i,e,h,_=>by simp at h
 | x :: Q,[],_,j,i,e,_,h=>by simp at h
 | x :: Q,f :: ens,hn,j,i,e,h1,a=>by
  cases j with
  | zero =>
   simp only[AE1,tO]at h1 a;subst h1;subst a;simp[Om,AFe,lk]
  | succ j =>
   have h1:Q[j]?=some i:=by simpa using h1
   have b:i≠x:=λe=>by grind
   have:=mB (aT.1 hn).2 j i e h1 (by simpa using a);simp only[Om,AFe,lk,An b]at this ⊢;exact this
structure Fr (tb:Tb) (ops:List Oper) (anc:List (List Nat)) (L Q:List Nat) (ens:EN) (τ:St):Prop where
 q:QOk ops anc L Q
 len:ens.length=Q.length
 own:Own ops (Om Q ens) τ Q
 at_:∀(j i:Nat),Q[j]?=some i->∃(o:Oper) (e:Nat×AV×List (Nat×Obj)),ops[i]?=some o/\ens[j]?=some e/\Ap ops i=some e.1/\Om Q ens i=⟨true,e.2.1,e.2.2⟩/\A27 tb ops τ (Om Q ens) (Q.take j).reverse i o
theorem A29 {tb:Tb} {ops:List Oper} {anc:List (List Nat)} {L Q:List Nat} {ens:EN} {τ:St} (d:QOk ops anc L Q) (h:A9c tb ops Q ens τ):Fr tb ops anc L Q ens τ:=by
 obtain⟨vc,h1,p,q⟩:=h;have u:=λ(j i:Nat) (e:Nat×AV×List (Nat×Obj))=>mB (ens:=ens) d.nodup j i e;obtain⟨t,hf⟩:=Yz (en:=Om Q ens) (pre:=[]) h1 p (λts=>rfl) u;have k:∀i∈Q,∃(j:Nat) (e:Nat×AV×List (Nat×Obj)),Q[j]?=some i/\ens[j]?=some e/\Om Q ens i=⟨true,e.2.1,e.2.2⟩:=by
  intro i hi;obtain⟨j,c⟩:=bY.1 hi;grind
 refine⟨d,t,⟨d.slot,λi hi n o hn=>?_,λi hi j c n o x f g=>?_⟩,λj i c=>?_⟩
 ·grind [Ru]
 ·obtain⟨a,e,ha,r,v⟩:=k i hi;obtain⟨b,m,l,s,w⟩:=k j c;rw[v]at f;rw[w]at g;have:=(Ru q a e r n o f).2 b m x s g;subst this;rw[ha]at l;injection l
 ·grind
theorem zH {ops:List Oper} {en:Nat->En} {τ:St} {Q:List Nat} (h:Own ops en τ Q) {ts pre ex:List Nat} (hp:∀j∈pre,j∈Q) (e:∀j∈ex,j∈Q) (d:∀j∈pre,Ac ((Ap ops j).getD 0) ts=true->j∈ex) {n:Nat} {o:Obj} :
  lk n (B8 false ts τ.objs (ES ops en pre))=some o->lk n (Aw ops en τ ex).objs=some o:=by
 rw[lkO h e];induction pre with
 | nil =>
  simp only[ES,AEW,B8];intro hn;refine .inr ⟨λj b=>?_,hn⟩;cases a:lk n (en j).obs with
  | none=>rfl
  | some f=>have:=h.new j (e j b) n f a;rw[this]at hn;cases hn
 | cons i r c =>
  simp only[ES,UQ,B8];have c:=c (λj b=>hp j (by simp[b])) (λj b=>d j (by simp[b]));split
  ·rename_i g;intro hn;rw[A5]at hn;cases a:lk n (en i).obs with
   | some f =>
    rw[a]at hn;simp only[AFl]at hn;cases hn;exact .inl ⟨i,d i (by simp) (by simpa using g),a⟩
   | none =>
    rw[a]at hn;exact c (by simpa[ES] using hn)
  ·exact c
theorem NM {p:Nat×Obj}:∀ {l:List (Nat×Obj)},p∈l->∃b,lk p.1 l=some b
 | (c,d) :: r,h=>by
  simp only[lk];by_cases a:p.1=c
  ·simp_all
  ·rw[An a];rcases DO.1 h with rfl|h
   ·exact absurd rfl a
   ·exact NM h
theorem mC {c:Cx} (y:c.Ok) {ops:List Oper} {anc:List (List Nat)} {L Q:List Nat} {ens:EN} {τ:St} (hF:Fr c.tb ops anc L Q ens τ) {ex:List Nat} (h:∀i∈ex,i∈Q) {j i:Nat} {o:Oper} (m:Q[j]?=some i) (s:ops[i]?=some o) (ai:i∉ex)
  (ab:∀k∈anc.getD i [],k∈Q->k∈ex) (I:∀d,o.dst=some d->d<c.nt) {a:Act} {w:World} {next:Act->World->Prop} {Qe:Exit->Act->World->Prop} (hs:c.sat (Aw ops (Om Q ens) τ ex) a w)
  (hn:∀A w',c.sat (Aw ops (Om Q ens) τ (i :: ex)) A w'->next A w'):o.wpIn (FR c.r) 0 c.P a w next Qe:=by
 obtain⟨l,e,D,ae,aa,am,vc,T,W⟩:=hF.at_ j i m;rw[s]at D;cases D;obtain⟨_,an,E,_,_,al⟩:=hF.q.pos j i m;rw[s]at E;cases E;have z:∀k∈(Q.take j).reverse,k∈Q:=λk hk=>f6 (by simpa using hk);have S:Ops ⟨(Aw ops (Om Q ens) τ (Q.take j).reverse).env,B8 false (Gx o.op) τ.objs (ES ops (Om Q ens) (Q.take j).reverse)⟩ (Aw ops (Om Q ens) τ ex) o.op.operands.toList:=by
  intro x X v b;cases x with
  | tmp t =>
   simp only[Ak]at b ⊢;have ak:t∈Gx o.op:=AFh.2 ⟨_,X,rfl⟩;rw[lkE hF.own z]at b;rw[lkE hF.own h];rcases b with ⟨k,hk,af,ag⟩|⟨aj,b⟩
   ·grind
   ·grind
  | const ao=>exact b
  | global g=>exact b
  | func f=>exact b
 have R:eH ⟨(Aw ops (Om Q ens) τ (Q.take j).reverse).env,B8 false (Gx o.op) τ.objs (ES ops (Om Q ens) (Q.take j).reverse)⟩ (Aw ops (Om Q ens) τ ex):=by
  intro n l hn;refine zH hF.own z h (λk hk ah=>?_) hn;obtain⟨Y,J⟩:=bY.1 (z k hk);obtain⟨_,Z,_,_,ad,_⟩:=hF.at_ Y k J;grind [Af]
 have U:=Ue R S T;have C:=gO m;have B:Bi (Om Q ens i).obs (Aw ops (Om Q ens) τ ex)=true:=by
  simp only[Bi,Is,AA9];intro p hp;obtain⟨l,F⟩:=NM hp;cases N:lk p.1 (Aw ops (Om Q ens) τ ex).objs with
  | none=>rfl
  | some u =>
   rcases (lkO hF.own h p.1 u).1 N with ⟨k,hk,M⟩|⟨_,hu⟩
   ·have:=hF.own.name i C k (h k hk) p.1 l u F M;grind
   ·rw[hF.own.new i C p.1 l F]at hu;cases hu
 obtain⟨ρ,G⟩:=hs;refine pQ (A5j y G) U W B λu ρ' w' V=>hn _ _ ?_;have H:Ap ops i=o.dst:=by simp[Ap,s]
 simp only[Aw,H];exact⟨ρ',G.add y.K y.O I B V⟩
end
section
open Go Go.RowKit
theorem MN:∀ {l l':List Nat},l.Nodup->(∀x∈l,x∈l')->l.length<=l'.length
 | [],_,_,_=>by simp
 | x :: l,l',hn,h=>by
  have b:=h x (by simp);have:=MN (l:=l) (l':=l'.erase x) (aT.1 hn).2 (λy a=>by
   have:y≠x:=λe=>(aT.1 hn).1 (e▸a);exact(AF6 this).2 (h y (by simp[a])))
  grind
theorem JA (A:List Nat) (l:Nat) (a:List (List Nat×Nat)) (D:List Nat):qs ((A,l) :: a) D=A++qs a D:=by simp[qs]
structure AAy (ops:List Oper) (anc:List (List Nat)) (p0:Nat) (L:List Nat) (ps:List (List Nat×Nat)) (D:List Nat):Prop where
 all:∀i,i<p0->i∈L\/i∈qs ps D\/i∈ps.map (·.2)
 back:∀i,p0<=i->i<ops.length->∀j,j<i->j∈anc.getD i []
 L:∀i∈L,i<p0
 Q:∀i∈qs ps D,i<p0
 lo:∀p∈ps,p.2<p0
 p0:p0<=ops.length
theorem Vn {ops:List Oper} {anc:List (List Nat)} {p0:Nat} {L D:List Nat} (h:Tp ops anc p0 L [] D=true):QOk ops anc L D/\(∀i,i<p0->i∈L\/i∈D)/\L.length+D.length=p0/\p0<=ops.length/\(∀i∈L,i<p0)/\(∀i∈D,i<p0)/\(∀i,p0<=i->i<ops.length->∀j,j<i->j∈anc.getD i []):=by
 simp only[Tp,AT,Is,UM,UU,Fe,Af]at h;grind [qOk]
theorem J4 {ops:List Oper} {anc:List (List Nat)} {p0:Nat} {L D A:List Nat} {l:Nat} {b:List (List Nat×Nat)} (h:Tp ops anc p0 L ((A,l) :: b) D=true):QOk ops anc L (A++qs b D)/\(∃o,ops[l]?=some o/\o.guard=none/\(∀e∈EI o,e∈L\/e∈A))/\(∀j∈A,j∈anc.getD l [])/\l∉L/\l∉A++qs b D/\(∀p∈b,l∈anc.getD p.2 [])/\Tp ops anc p0 (l :: (A++L)) b D=true:=by
 simp only[Tp,AT,Is,Af]at h;obtain⟨⟨⟨h1,a⟩,m⟩,n⟩:=h;cases f:ops[l]? with
 | none=>rw[f]at a;cases a
 | some o =>
  rw[f]at a;simp only[AT,Is,UU,Af,UB,AA9]at a;obtain⟨⟨⟨⟨g,i⟩,k⟩,c⟩,d⟩:=a;exact⟨qOk h1,⟨o,rfl,g,i⟩,k,λh=>(by rw[(Af _ _).2 h]at c;cases c),λh=>(by rw[(Af _ _).2 h]at d;cases d),m,n⟩
theorem Vo {ops:List Oper} {anc:List (List Nat)} {p0:Nat}:∀ {b:List (List Nat×Nat)} {L D:List Nat},Tp ops anc p0 L b D=true->AAy ops anc p0 L b D
 | [],L,D,h=>by
  obtain⟨_,h1,g,c,d,e,f⟩:=Vn h;refine⟨λi hi=>?_,f,d,by simpa[qs] using e,by simp,c⟩;grind [qs]
 | (A,l) :: b,L,D,h=>by
  obtain⟨_,_,_,_,_,_,h1⟩:=J4 h;have a:=Vo h1;refine⟨λi hi=>?_,a.back,λi hi=>a.L i (by simp[hi]),λi hi=>?_,λp hp=>?_,a.p0⟩
  ·rcases a.all i hi with h|h|h
   ·grind [JA]
   ·grind [JA]
   ·grind
  ·rw[JA,No]at hi;rcases hi with hi|hi
   ·exact a.L i (by simp[hi])
   ·exact a.Q i hi
  ·rcases DO.1 hp with rfl|hp
   ·exact a.L l (by simp)
   ·exact a.lo p hp
theorem bT {ops:List Oper} {en:Nat->En} {τ:St}:∀ {Q:List Nat} {ens:EN} {pre:List Nat},ens.length=Q.length->(∀(j i:Nat) (e:Nat×AV×List (Nat×Obj)),Q[j]?=some i->ens[j]?=some e->Ap ops i=some e.1/\en i=⟨true,e.2.1,e.2.2⟩) ->
  MM ens (Aw ops en τ pre)=Aw ops en τ (Q.reverse++pre)
 | [],[],pre,_,_=>rfl
 | [],_ :: _,_,h,_=>by simp at h
 | _ :: _,[],_,h,_=>by simp at h
 | i :: Q,(d,v,obs) :: ens,pre,f,h=>by
  obtain⟨h1,a⟩:=h 0 i (d,v,obs) rfl rfl;have:(⟨(d,v) :: (Aw ops en τ pre).env,obs++(Aw ops en τ pre).objs⟩:St)=Aw ops en τ (i :: pre):=by simp[Aw,h1,a,St.add]
  simp only[MM];rw[this,bT (by simpa using f) (λj k e b c=>h (j+1) k e (by simpa using b) (by simpa using c))];simp
section
variable {c:Cx} {ops:Array Oper} {anc:List (List Nat)} {p0:Nat} {Kf:St->Prop} {Qe:Exit->Act->World->Prop}
theorem A2a {a:List (List Nat×Nat)} {L D:List Nat} {ens:EN} {τ:St} (b:Tp ops.toList anc p0 L a D=true) (d:Mix c ops.toList Kf a D ens τ):Fr c.tb ops.toList anc L (qs a D) ens τ:=by
 cases a with
 | nil =>
  have:qs [] D=D:=rfl;rw[this];exact A29 (Vn b).1 d.1
 | cons p a =>
  obtain⟨A,l⟩:=p;rw[JA];exact A29 (J4 b).1 d.1
theorem Y2 (x:Y0 ops anc) {a:List (List Nat×Nat)} {L D:List Nat} {ex:List Nat} {listed:Array Bool} (w:Tp ops.toList anc p0 L a D=true) (v:QOk ops.toList anc L (qs a D)) (u:∀i∈ex,i∈qs a D) (I:listed.size=ops.size)
  (H:∀i,i<ops.size->(listed.getD i true=true↔i∈L\/i∈ex)) (hf:¬(a=[]/\∀i∈qs a D,i∈ex)):∃i,i∈Region.ready .any ops listed:=by
 have C:∀e b,e<ops.size->listed.getD e b=listed.getD e true:=λe b c=>by grind
 have mk:∀i o,ops[i]?=some o->i∉L->i∉ex->(∀e∈EI o,e∈L\/e∈ex)->i∈Region.ready .any ops listed:=by
  intro i o f h1 k E;have J:i<ops.size:=(UV.1 f).1;rw[Dq];refine⟨?_,o,f,λe c=>?_⟩
  ·grind
  ·have F:=x.lt i o f e c;grind
 by_cases t:∀i∈qs a D,i∈ex
 ·cases a with
  | nil=>exact absurd ⟨rfl,t⟩ hf
  | cons p a =>
   obtain⟨A,l⟩:=p;rw[JA]at t u;obtain⟨_,⟨o,f,_,y⟩,_,h1,k,_,_⟩:=J4 w;refine⟨l,mk l o (by simpa using f) h1 (λh=>k (u l h)) λe c=>?_⟩;rcases y e c with h|h
   ·exact .inl h
   ·grind
 ·have key:∀(n j:Nat),j<=n->(∃i,(qs a D)[j]?=some i/\i∉ex)->∃i,i∈Region.ready .any ops listed:=by
   intro n;induction n with
   | zero =>
    rintro j s ⟨i,hi,d⟩;have:j=0:=by omega
    subst this;obtain⟨m,o,q,_,r,_⟩:=v.pos 0 i hi;refine⟨i,mk i o (by simpa using q) m d λe c=>?_⟩;rcases r e c with h|h
    ·exact .inl h
    ·simp at h
   | succ n B =>
    rintro j s ⟨i,hi,d⟩;by_cases z:∃g,g<j/\∃i',(qs a D)[g]?=some i'/\i'∉ex
    ·obtain⟨g,h1,k⟩:=z;exact B g (by omega) k
    ·obtain⟨m,o,q,_,r,_⟩:=v.pos j i hi;refine⟨i,mk i o (by simpa using q) m d λe c=>?_⟩;rcases r e c with h|h
     ·exact .inl h
     ·right;obtain⟨g,G⟩:=bY.1 h;grind
  have:∃i,i∈qs a D/\i∉ex:=by grind
  obtain⟨i,hi,d⟩:=this;obtain⟨j,s⟩:=bY.1 hi;exact key j j (NO _) ⟨i,s,d⟩
theorem Y3 (G:Y0 ops anc) (hT:∀τ,Kf τ->∀a w,c.sat τ a w->wpListIn (FR c.r) 0 c.P ops Qe (ops.toList.drop p0) a w) {m:Nat} {L D:List Nat} {ens:EN} {τ:St} {ex:List Nat} {listed:Array Bool} {a:Act} {w:World}
  (C:Tp ops.toList anc p0 L [] D=true) (g:Mix c ops.toList Kf [] D ens τ) (M:(L++ex).Nodup) (b:∀i∈ex,i∈D) (W:m+L.length+ex.length=ops.size) (J:listed.size=ops.size) (I:∀i,i<ops.size->(listed.getD i true=true↔i∈L\/i∈ex))
  (hs:c.sat (Aw ops.toList (Om D ens) τ ex) a w) (d:∀i∈D,i∈ex):wpAnyIn (FR c.r) 0 c.P .any ops Qe m listed a w:=by
 obtain⟨q,h1,S,y,T,U,z⟩:=Vn C;have hF:=A29 q g.1;have V:ex.length=D.length:=AE8 (MN (ADJ.1 M).2.1 b) (MN q.nodup d);have K:m=(ops.toList.drop p0).length:=by grind
 have E:MM ens τ=Aw ops.toList (Om D ens) τ D.reverse:=by
  have:=bT (ops:=ops.toList) (en:=Om D ens) (τ:=τ) (pre:=[]) hF.len (λj i e A B=>by
   obtain⟨o,R,_,f,u,x,_⟩:=hF.at_ j i A;rw[B]at f;cases f;exact⟨u,x⟩)
  simpa[Aw] using this
 have O:c.sat (MM ens τ) a w:=by
  rw[E];have t:∀i∈D.reverse,i∈D:=λi hi=>by simpa using hi
  have l:∀i,i∈ex↔i∈D.reverse:=λi=>⟨λh=>by simpa using b i h,λh=>d i (by simpa using h)⟩;refine Vg (λs=>AFn λv=>?_) (λn=>AFn λo=>?_) hs
  ·rw[lkE hF.own t,lkE hF.own b];simp only[l]
  ·rw[lkO hF.own t,lkO hF.own b];simp only[l]
 have:=Rv (Q:=Qe) (F:=FR c.r) (P:=c.P) G (k:=p0) (λi o N hi j H=>z i hi (by have:=(UV.1 N).1;simpa using this) j H) (rest:=ops.toList.drop p0) (p:=p0) (listed:=listed) (a:=a) (w:=w) rfl (NO _) (by simpa using y) J
  (λi hi=>by
   rw[I i hi];constructor
   ·grind
   ·intro h;rcases h1 i h with h|h
    ·exact .inl h
    ·exact .inr (d i h)) (hT _ g.2 a w O)
 rw[K];exact this
theorem A5r (ch:c.Ok) (bx:∀o∈ops.toList,Hs c.nt o=true) (ab:Y0 ops anc) (hT:∀τ,Kf τ->∀a w,c.sat τ a w->wpListIn (FR c.r) 0 c.P ops Qe (ops.toList.drop p0) a w) :
  ∀(m:Nat) (f:List (List Nat×Nat)) (L D:List Nat) (ens:EN) (τ:St) (ex:List Nat) (listed:Array Bool) (a:Act) (w:World),Tp ops.toList anc p0 L f D=true->Mix c ops.toList Kf f D ens τ->(L++ex).Nodup->(∀i∈ex,i∈qs f D) ->
   m+L.length+ex.length=ops.size->listed.size=ops.size->(∀i,i<ops.size->(listed.getD i true=true↔i∈L\/i∈ex))->(∀i o,ops[i]?=some o->(i∈L\/i∈ex)->∀e∈EI o,e∈L\/e∈ex) ->
   c.sat (Aw ops.toList (Om (qs f D) ens) τ ex) a w->wpAnyIn (FR c.r) 0 c.P .any ops Qe m listed a w:=by
 intro m;induction m with
 | zero =>
  intro f L D ens τ ex listed a w C T H B ax U O ae hs;have hF:=A2a C T;by_cases hf:f=[]/\∀i∈qs f D,i∈ex
  ·obtain⟨rfl,aq⟩:=hf;exact Y3 ab hT C T H B ax U O hs aq
  ·exfalso;obtain⟨i,hi⟩:=Y2 ab C hF.q B U O hf;rw[Dq]at hi;obtain⟨h1,o,E,_⟩:=hi;have X:i<ops.size:=(UV.1 E).1;have I:i∉L++ex:=λh=>by grind
   have N:=Vo C;have:=EP ops.size (i :: (L++ex)) (aT.2 ⟨I,H⟩) (λj d=>by
    have hp:=N.p0;simp only[AEL]at hp;rcases DO.1 d with rfl|d
    ·exact X
    ·rcases No.1 d with d|d
     ·have:=N.L j d;omega
     ·have:=N.Q j (B j d);omega)
   grind
 | succ m bj =>
  intro f L D ens τ ex listed a w C T H B ax U O ae hs;have hF:=A2a C T;have N:=Vo C;have bn:∀e b,e<ops.size->listed.getD e b=listed.getD e true:=λe b F=>by grind
  by_cases hf:f=[]/\∀i∈qs f D,i∈ex
  ·obtain⟨rfl,aq⟩:=hf;exact Y3 ab hT C T H B ax U O hs aq
  ·refine⟨λcv=>?_,λi hi=>?_⟩
   ·obtain⟨i,hi⟩:=Y2 ab C hF.q B U O hf;grind
   ·rw[Dq]at hi;obtain⟨h1,o,E,cq⟩:=hi;have X:i<ops.size:=(UV.1 E).1;have I:¬(i∈L\/i∈ex):=λh=>by rw[(O i X).2 h]at h1;cases h1
    have az:∀e∈EI o,e∈L\/e∈ex:=λe F=>by grind
    have ad:∀j∈anc.getD i [],j∈L\/j∈ex:=by
     have ct:∀i o,ops[i]?=some o->listed.getD i true=true->∀e∈EI o,listed.getD e false=true:=by
      intro i o E h1 e F;have X:i<ops.size:=(UV.1 E).1;have Y:=ab.lt i o E e F;rw[bn e false (by omega)];exact(O e (by omega)).2 (ae i o E ((O i X).1 h1) e F)
     grind [S6]
    have ag:ops.toList[i]?=some o:=by simpa using E
    have cf:o∈ops.toList:=gO ag;have bw:=Bx (bx o cf);have bd:∀(S:List Nat),(∀j,j∈S↔j=i\/j∈L\/j∈ex)->∀j,j<ops.size->((listed.setIfInBounds i true).getD j true=true↔j∈S):=by
     intro S bu j d;have cd:j<listed.size:=by omega
     rw[bu];by_cases aw:j=i
     ·subst aw;simp[Array.getD,cd]
     ·have Y:(listed.setIfInBounds i true).getD j true=listed.getD j true:=getD_set_ne true (λe=>aw e.symm);rw[Y,O j d];simp[aw]
    have bi:∀ {g:Option (Nat×Bool)},g=none->o.guard=g->Region.wanted o (yielded ops a.tmps)=true:=by
     intro g au e;simp[Region.wanted,e,au]
    by_cases af:i∈qs f D
    ·obtain⟨j,d⟩:=bY.1 af;obtain⟨_,cy,be,au,_,_⟩:=hF.q.pos j i d;rw[ag]at be;cases be;unfold wpOpIn;rw[E];simp only;rw[BY (bi rfl au)];refine mC ch hF B d ag (λh=>I (.inr h)) (λk hk ce=>?_) bw hs λak w' ci=>?_
     ·rcases ad k hk with h|h
      ·obtain⟨u,R⟩:=bY.1 ce;exact absurd h (hF.q.pos u k R).1
      ·exact h
     ·refine bj f L D ens τ (i :: ex) _ ak w' C T ?_ (λk hk=>?_) (by simp only[OS];omega) (by simpa using U) (λk hk=>?_) (λi' W G av e F=>?_) ci
      ·rw[ADJ]at H ⊢;refine⟨H.1,aT.2 ⟨λh=>I (.inr h),H.2.1⟩,λx t y V=>?_⟩;rcases DO.1 V with rfl|V
       ·exact λe=>I (.inl (e▸t))
       ·exact H.2.2 x t y V
      ·rcases DO.1 hk with rfl|hk
       ·exact af
       ·exact B k hk
      ·rw[bd (i :: (L++ex)) (λj=>by simp) k hk];simp only[DO,No];constructor
       ·rintro (h|h|h)
        ·exact .inr (.inl h)
        ·exact .inl h
        ·exact .inr (.inr h)
       ·rintro (h|h|h)
        ·exact .inr (.inl h)
        ·exact .inl h
        ·exact .inr (.inr h)
      ·have:e∈L\/e∈ex:=by
        rcases av with h|h
        ·exact ae i' W G (.inl h) e F
        ·rcases DO.1 h with rfl|h
         ·rw[E]at G;cases G;exact az e F
         ·exact ae i' W G (.inr h) e F
       rcases this with h|h
       ·exact .inl h
       ·exact .inr (by simp[h])
    · -- no operation of the front
     have cw:¬p0<=i:=by
      intro ca;have ay:=N.back i ca (by simpa using X);cases f with
      | nil =>
       refine hf ⟨rfl,λj d=>?_⟩;have Y:=N.Q j d;rcases ad j (ay j (by omega)) with h|h
       ·obtain⟨u,R⟩:=bY.1 d;exact absurd h (hF.q.pos u j R).1
       ·exact h
      | cons p f =>
       obtain⟨A,l⟩:=p;obtain⟨_,_,_,am,an,_,_⟩:=J4 C;have Y:=N.lo (A,l) (by simp);simp only at Y;rcases ad l (ay l (by omega)) with h|h
       ·exact am h
       ·exact an (by rw[<-JA A l];exact B l h)
     cases f with
     | nil =>
      rcases N.all i (by omega) with h|h|h
      ·exact absurd (.inl h) I
      ·exact absurd h af
      ·cases h
     | cons p f =>
      obtain⟨A,l⟩:=p;obtain⟨_,⟨ol,bf,cb,cu⟩,bq,am,an,bo,br⟩:=J4 C;have cc:i=l:=by
       rcases N.all i (by omega) with h|h|h
       ·exact absurd (.inl h) I
       ·exact absurd h af
       ·simp only[UQ,DO,IF]at h;rcases h with h|⟨p,hp,rfl⟩
        ·exact h
        ·rcases ad l (bo p hp) with h|h
         ·exact absurd h am
         ·exact absurd (B l h) (by rw[JA];exact an)
      subst cc;rw[ag]at bf;cases bf;rw[JA]at hF B hs af;obtain⟨cs,W,G,bs⟩:=T;rw[ag]at G;cases G;have Z:∀j∈A,j∈ex:=λj d=>by
       rcases ad j (bq j d) with h|h
       ·obtain⟨u,R⟩:=bY.1 (show j∈A++qs f D by simp[d]);exact absurd h (hF.q.pos u j R).1
       ·exact h
      have ao:A.Nodup/\(qs f D).Nodup/\∀x∈A,∀y∈qs f D,x≠y:=ADJ.1 hF.q.nodup;have bv:MM (ens.take A.length) τ=Aw ops.toList (Om (A++qs f D) ens) τ A.reverse:=by
       have:=bT (ops:=ops.toList) (en:=Om (A++qs f D) ens) (τ:=τ) (pre:=[]) (Q:=A) (ens:=ens.take A.length) (by have:=hF.len;simp only[GO]at this;simp only[ON];omega) (λj i e M z=>by
        have bc:j<A.length:=(UC.1 M).1;obtain⟨o,cp,_,J,K,al,_⟩:=hF.at_ j i (by rw[UR bc];exact M);rw[US,BY bc,J]at z;cases z;exact⟨K,al⟩)
       simpa[Aw] using this
      have bh:=zG (A:=A.reverse) hF.own B (λj d=>Z j (by simpa using d));rw[<-bv]at bh;have aj:∀j,j∈ex.filter (λj=>!Ac j A.reverse)↔j∈ex/\j∉A:=λj=>by
       rw[ADv];have:=Af j A.reverse;constructor
       ·rintro⟨M,z⟩;exact⟨M,λJ=>by rw[this.2 (by simpa using J)]at z;cases z⟩
       ·rintro⟨M,z⟩;refine⟨M,?_⟩;cases cg:Ac j A.reverse with
        | false=>rfl
        | true=>exact absurd (by simpa using this.1 cg) z
      have aa:∀j∈ex.filter (λj=>!Ac j A.reverse),j∈qs f D:=λj d=>by
       have:=B j ((aj j).1 d).1;rcases No.1 this with h|h
       ·exact absurd h ((aj j).1 d).2
       ·exact h
      have ar:∀j∈qs f D,∃(u:Nat) (e:Nat×AV×List (Nat×Obj)),(qs f D)[u]?=some j/\(ens.drop A.length)[u]?=some e/\Ap ops.toList j=some e.1/\Om (A++qs f D) ens j=⟨true,e.2.1,e.2.2⟩:=by
       intro j d;obtain⟨u,R⟩:=bY.1 d;obtain⟨o,e,_,J,K,al,_⟩:=hF.at_ (A.length+u) j (by rw[UT (by omega),AEN];exact R);exact⟨u,e,R,by rw[ADg];exact J,K,al⟩
      have bg:Own ops.toList (Om (A++qs f D) ens) ⟨[],[]⟩ (A++qs f D):=⟨hF.own.slot,λ_ _ _ _ _=>rfl,hF.own.name⟩;have ba:∀j∈ex.filter (λj=>!Ac j A.reverse),j∈A++qs f D:=λj d=>by simp[aa j d]
      unfold wpOpIn;rw[E];simp only;rw[BY (bi rfl cb)];refine bs _ _ bh ⟨λs v ah=>?_,λn W hn=>?_⟩ a w _ _ hs λbm bt ak w' cz bb cj=>?_
      ·rcases (lkE bg ba s v).1 ah with ⟨j,d,ai,rfl⟩|⟨_,ah⟩
       ·obtain⟨u,e,_,z,J,K⟩:=ar j (aa j d);rw[ai]at J;cases J;rw[K];exact⟨e.2.2,gO z⟩
       ·cases ah
      ·rcases (lkO bg ba n W).1 hn with ⟨j,d,ai⟩|⟨_,ah⟩
       ·obtain⟨u,e,_,z,J,K⟩:=ar j (aa j d);rw[K]at ai;exact⟨e,gO z,F8 ai⟩
       ·cases ah
      ·have cr:ex.length=A.length+(ex.filter (λj=>!Ac j A.reverse)).length:=by
        have ck:∀l:List Nat,l.length=(l.filter (λj=>Ac j A.reverse)).length+(l.filter (λj=>!Ac j A.reverse)).length:=by
         intro l;induction l with
         | nil=>rfl
         | cons x r cx =>
          simp only[dO,OS];cases Ac x A.reverse<;>simp<;>omega
        rw[ck ex];have bz:=(ADJ.1 H).2.1;have M:(ex.filter (λj=>Ac j A.reverse)).length<=A.length:=MN (bz.filter _) λx t=>by
         have:=(Af _ _).1 (ADv.1 t).2;simpa using this
        have z:A.length<=(ex.filter (λj=>Ac j A.reverse)).length:=MN ao.1 λx t=>ADv.2 ⟨Z x t,(Af _ _).2 (by simpa using t)⟩;omega
       have ap:∀x,(x∈i :: (A++L)\/x∈ex.filter (λj=>!Ac j A.reverse))↔x=i\/x∈L\/x∈ex:=by
        intro x;rw[aj];simp only[DO,No];constructor
        ·rintro ((h|h|h)|h)
         ·exact .inl h
         ·exact .inr (.inr (Z x h))
         ·exact .inr (.inl h)
         ·exact .inr (.inr h.1)
        ·rintro (h|h|h)
         ·exact .inl (.inl h)
         ·exact .inl (.inr (.inr h))
         ·by_cases t:x∈A
          ·exact .inl (.inr (.inl t))
          ·exact .inr ⟨h,t⟩
       refine bj f (i :: (A++L)) D (ens.drop A.length) bm (ex.filter λj=>!Ac j A.reverse) _ ak w' br bt ?_ aa (by simp only[OS,GO];omega) (by simpa using U) (λk hk=>?_) (λi' W G av e F=>?_) ?_
       ·obtain⟨n1,cn,bk⟩:=ADJ.1 H;have bp:∀x∈A,x∉L:=λx t cl=>bk x cl x (Z x t) rfl;rw[ADJ];refine⟨aT.2 ⟨λh=>?_,ADJ.2 ⟨ao.1,n1,λx t y V e=>bp x t (e▸V)⟩⟩,cn.filter _,λx t y V e=>?_⟩
        ·rcases No.1 h with h|h
         ·exact I (.inr (Z i h))
         ·exact I (.inl h)
        ·subst e;obtain⟨bl,co⟩:=(aj x).1 V;rcases DO.1 t with rfl|t
         ·exact I (.inr bl)
         ·rcases No.1 t with t|t
          ·exact co t
          ·exact bk x t x bl rfl
       ·rw[ap k,bd (i :: (L++ex)) (λj=>by simp) k hk];simp
       ·rw[ap];have:e∈L\/e∈ex:=by
         rcases (ap i').1 av with rfl|h
         ·rw[E]at G;cases G;exact az e F
         ·exact ae i' W G h e F
        exact .inr this
       ·have cm:∀j∈ex.filter (λj=>!Ac j A.reverse),Om (qs f D) (ens.drop A.length) j=Om (A++qs f D) ens j:=λj d=>by
         obtain⟨u,e,M,z,_,K⟩:=ar j (aa j d);rw[K];exact mB ao.2.1 u j e M z
        have t:=A24 (ops:=ops.toList) (en:=Om (qs f D) (ens.drop A.length)) (τ:=bm) (ex.filter λj=>!Ac j A.reverse);rw[Kp (en:=Om (A++qs f D) ens) (σ0:=⟨[],[]⟩) cm]at t;exact Vg (λs=>by rw[t.env,bb.env]) (λn=>by rw[t.objs,bb.objs]) cj
end
section
variable {c:Cx} {R:Exit->Act->World->Prop} {k:List DZ} {σ:St}
theorem CV (j:c.P.follows .mixedOrders=true) (g:c.Ok) {id:Nat} {l:List Oper} (p0:Nat) (d:List (List Nat×Nat)) (D:List Nat) (b:(A9d l (A1S l)&&Tp l (A1S l) p0 [] d D)=true) {ens:EN}
  (h:Mix c l (fun τ=>Ih c R k l.toArray (l.drop p0) τ) d D ens σ):Ev c R (.run (.region id l.toArray true)) k σ:=by
 intro h1 e a w hs;simp only[Ht,Bz,Is]at h1;simp only[AT]at b;refine wpIn_region_any j ?_;have hk:∀τ,Ih c R k l.toArray (l.drop p0) τ->∀a w,c.sat τ a w->wpListIn (FR c.r) 0 c.P l.toArray (VY c R k) (l.toArray.toList.drop p0) a w:=fun τ f a w hs=>f (λo m=>h1 o (by simpa using AEc m)) e a w hs;exact A5r (ops:=l.toArray) (anc:=A1S l) g (by simpa using h1) (AAx (by simpa using b.1)) hk l.toArray.size d [] D ens σ [] (Array.replicate l.toArray.size false) a { w with drawn:=w.drawn+1 } (by simpa using b.2) (by simpa using h) (by simp) (by simp) (by simp) (by simp) (λi hi=>by simp at hi;simp[Array.getD,hi]) (λi o _ hi=>by simp at hi) (fY hs)
end
end
section
open Go Go.RowKit
section
variable {n:Nat} {ns:List Nat}
theorem Gc {m:Nat} (hn:n∈ns) (h:¬Ac m ns=true):¬m=n:=λe=>h ((Af _ _).2 (e▸hn))
mutual
theorem Vp (hn:n∈ns) {e:Ty} {xs:List e.den}:∀(x:AV),x.fgt ns=x->x.frz n e xs=x
 | .sr m e' lo hi,h=>by grind [AV.fgt,AV.frz,Gc]
 | .ep m e' i path off,h=>by grind [AV.fgt,AV.frz,Gc]
 | .nin m e' i len,h=>by grind [AV.fgt,AV.frz,Gc]
 | .ag l,h=>by
  simp only[AV.fgt,AV.ag.injEq]at h
  simp only[AV.frz,frzs_of_fgt hn l h]
 | .tup l,h=>by
  simp only[AV.fgt,AV.tup.injEq]at h
  simp only[AV.frz,frzs_of_fgt hn l h]
 | .p _ _,_=>rfl
 | .pc _ _,_=>rfl
 | .raw _,_=>rfl
 | .ip _ _,_=>rfl
 | .bp _ _ _,_=>rfl
 | .fn _,_=>rfl
 | .clo _ _,_=>rfl
 | .mp _,_=>rfl
 | .yl _,_=>rfl
 | .top,_=>rfl
theorem frzs_of_fgt (hn:n∈ns) {e:Ty} {xs:List e.den}:∀(l:List AV),AV.fgts ns l=l->AV.frzs n e xs l=l
 | [],_=>rfl
 | x :: r,h=>by
  simp only[AV.fgts,AEj]at h
  simp only[AV.frzs,Vp hn x h.1,frzs_of_fgt hn r h.2]
end
mutual
theorem Vq (hn:n∈ns):∀(x:AV),x.fgt ns=x->x.drp n=x
 | .sr m e' lo hi,h=>by grind [AV.fgt,AV.drp,Gc]
 | .ep m e' i path off,h=>by grind [AV.fgt,AV.drp,Gc]
 | .nin m e' i len,h=>by grind [AV.fgt,AV.drp,Gc]
 | .ag l,h=>by
  simp only[AV.fgt,AV.ag.injEq]at h
  simp only[AV.drp,drps_of_fgt hn l h]
 | .tup l,h=>by
  simp only[AV.fgt,AV.tup.injEq]at h
  simp only[AV.drp,drps_of_fgt hn l h]
 | .p _ _,_=>rfl
 | .pc _ _,_=>rfl
 | .raw _,_=>rfl
 | .ip _ _,_=>rfl
 | .bp _ _ _,_=>rfl
 | .fn _,_=>rfl
 | .clo _ _,_=>rfl
 | .mp _,_=>rfl
 | .yl _,_=>rfl
 | .top,_=>rfl
theorem drps_of_fgt (hn:n∈ns):∀(l:List AV),AV.fgts ns l=l->AV.drps n l=l
 | [],_=>rfl
 | x :: r,h=>by
  simp only[AV.fgts,AEj]at h
  simp only[AV.drps,Vq hn x h.1,drps_of_fgt hn r h.2]
end
end
section
variable {n:Nat} {ns tl:List Nat}
theorem EJ (a:∀n,n∈tl->n∈ns) {m:Nat} (h:¬Ac m ns=true):¬Ac m tl=true:=λh1=>h ((Af _ _).2 (a _ ((Af _ _).1 h1)))
theorem qB (a:∀n,n∈tl->n∈ns) {l:List Nat} (h:¬(l.any λm=>Ac m ns)=true):¬(l.any λm=>Ac m tl)=true:=λh1=>by grind [Af]
mutual
theorem Vr (htl:∀n,n∈tl->n∈ns):∀(x:AV),x.fgt ns=x->x.fgt tl=x
 | .sr m e' lo hi,h=>by grind [AV.fgt,EJ]
 | .ep m e' i path off,h=>by grind [AV.fgt,EJ]
 | .nin m e' i len,h=>by grind [AV.fgt,EJ]
 | .bp m path off,h=>by grind [AV.fgt,EJ]
 | .mp m,h=>by grind [AV.fgt,EJ]
 | .yl m,h=>by grind [AV.fgt,EJ]
 | .clo f cs,h=>by
  simp only[AV.fgt]at h
  split at h
  ·cases h
  ·rename_i hm;simp only[AV.fgt,An (qB htl hm)]
 | .ag l,h=>by
  simp only[AV.fgt,AV.ag.injEq]at h
  simp only[AV.fgt,fgts_of_fgt htl l h]
 | .tup l,h=>by
  simp only[AV.fgt,AV.tup.injEq]at h
  simp only[AV.fgt,fgts_of_fgt htl l h]
 | .p _ _,_=>rfl
 | .pc _ _,_=>rfl
 | .raw _,_=>rfl
 | .ip _ _,_=>rfl
 | .fn _,_=>rfl
 | .top,_=>rfl
theorem fgts_of_fgt (htl:∀n,n∈tl->n∈ns):∀(l:List AV),AV.fgts ns l=l->AV.fgts tl l=l
 | [],_=>rfl
 | x :: r,h=>by
  simp only[AV.fgts,AEj]at h
  simp only[AV.fgts,Vr htl x h.1,fgts_of_fgt htl r h.2]
end
mutual
theorem Vs (hn:n∈ns) (htl:∀n,n∈tl->n∈ns):∀(x:AV),x.fgt ns=x->x.trn n tl=x
 | .sr m e' lo hi,h=>by grind [AV.fgt,AV.trn,EJ]
 | .ep m e' i path off,h=>by grind [AV.fgt,AV.trn,EJ]
 | .nin m e' i len,h=>by grind [AV.fgt,AV.trn,Gc,EJ]
 | .bp m path off,h=>by grind [AV.fgt,AV.trn,EJ]
 | .mp m,h=>by grind [AV.fgt,AV.trn,EJ]
 | .yl m,h=>by grind [AV.fgt,AV.trn,EJ]
 | .clo f cs,h=>by
  simp only[AV.fgt]at h
  split at h
  ·cases h
  ·rename_i hm;simp only[AV.trn,An (qB htl hm)]
 | .ag l,h=>by
  simp only[AV.fgt,AV.ag.injEq]at h
  simp only[AV.trn,trns_of_fgt hn htl l h]
 | .tup l,h=>by
  simp only[AV.fgt,AV.tup.injEq]at h
  simp only[AV.trn,trns_of_fgt hn htl l h]
 | .p _ _,_=>rfl
 | .pc _ _,_=>rfl
 | .raw _,_=>rfl
 | .ip _ _,_=>rfl
 | .fn _,_=>rfl
 | .top,_=>rfl
theorem trns_of_fgt (hn:n∈ns) (htl:∀n,n∈tl->n∈ns):∀(l:List AV),AV.fgts ns l=l->AV.trns n tl l=l
 | [],_=>rfl
 | x :: r,h=>by
  simp only[AV.fgts,AEj]at h
  simp only[AV.trns,Vs hn htl x h.1,trns_of_fgt hn htl r h.2]
end
end
def Ks:AV->Bool
 | .raw _=>true
 | .p _ _=>true
 | _=>false
def MO:Obj->Bool
 | .arr _ _ _=>true
 | .box _ _ fs=>fs.all Ks
 | _=>false
theorem Vt {n:Nat} {e:Ty} {xs:List e.den}:∀fs:List AV,fs.all Ks=true->AV.frzs n e xs fs=fs
 | [],_=>rfl
 | x :: r,h=>by
  rw[AE7,AT]at h;simp only[AV.frzs,Vt r h.2];cases x<;>first|rfl|(have:=h.1;simp[Ks]at this)
theorem Vu {n:Nat}:∀fs:List AV,fs.all Ks=true->AV.drps n fs=fs
 | [],_=>rfl
 | x :: r,h=>by
  rw[AE7,AT]at h;simp only[AV.drps,Vu r h.2];cases x<;>first|rfl|(have:=h.1;simp[Ks]at this)
theorem zI {n:Nat} {e:Ty} {xs:List e.den} {o:Obj} (h:MO o=true):Obj.frz n e xs o=o:=by
 cases o with
 | box et st fs=>simp only[Obj.frz,Vt fs h]
 | arr et a ys=>rfl
 | _=>cases h
theorem zJ {n:Nat} {o:Obj} (h:MO o=true):Obj.drp n o=o:=by
 cases o with
 | box et st fs=>simp only[Obj.drp,Vu fs h]
 | arr et a ys=>rfl
 | _=>cases h
theorem Vv {hs:List Nat}:∀fs:List AV,fs.all Ks=true->AV.fgts hs fs=fs
 | [],_=>rfl
 | x :: r,h=>by
  rw[AE7,AT]at h;simp only[AV.fgts,Vv r h.2];cases x<;>first|rfl|(have:=h.1;simp[Ks]at this)
theorem Y4 {hs:List Nat} {o:Obj} (h:MO o=true):Obj.fgt hs o=o:=by
 cases o with
 | box et st fs=>simp only[Obj.fgt,Vv fs h]
 | arr et a ys=>rfl
 | _=>cases h
theorem Vx {n:Nat} {hs:List Nat}:∀fs:List AV,fs.all Ks=true->AV.trns n hs fs=fs
 | [],_=>rfl
 | x :: r,h=>by
  rw[AE7,AT]at h;simp only[AV.trns,Vx r h.2];cases x<;>first|rfl|(have:=h.1;simp[Ks]at this)
theorem Y5 {n:Nat} {hs:List Nat} {o:Obj} (h:MO o=true):Obj.trn n hs o=o:=by
 cases o with
 | box et st fs=>simp only[Obj.trn,Vx fs h]
 | arr et a ys=>rfl
 | _=>cases h
structure H9 (X σ:St) (ns:List Nat):Prop where
 env:∀s v,lk s X.env=some v->v.fgt ns=v
 arr:∀n o,lk n X.objs=some o->MO o=true
 new:∀n o,lk n X.objs=some o->lk n σ.objs=none
 nm:∀n o,lk n X.objs=some o->n∉ns
section
variable {σ σ' X:St} {ns:List Nat}
theorem Nn.lkn (b:Nn σ σ' X) (ha:H9 X σ ns) {n:Nat} (hn:n∈ns):lk n σ'.objs=lk n σ.objs:=by
 rw[b.objs];cases a:lk n X.objs with
 | none=>rfl
 | some o=>exact absurd hn (ha.nm n o a)
theorem Nn.obs (b:Nn σ σ' X) (ha:H9 X σ ns):eH σ σ':=by
 intro n o hn;rw[b.objs];cases a:lk n X.objs with
 | none=>exact hn
 | some c=>rw[ha.new n c a]at hn;cases hn
theorem A5s {n:Nat} (c:Nn σ σ' X) (ha:H9 X σ ns) (hn:n∈ns):Nn (frz n σ) (frz n σ') X/\H9 X (frz n σ) ns:=by
 unfold frz;split
 ·exact⟨c,ha⟩
 have core:∀(e:Ty) (xs:List e.den),Nn ⟨DW n e xs σ.env,BB n e xs (del n σ.objs)⟩ ⟨DW n e xs σ'.env,BB n e xs (del n σ'.objs)⟩ X/\H9 X ⟨DW n e xs σ.env,BB n e xs (del n σ.objs)⟩ ns:=by
  intro e xs;refine⟨⟨λs=>?_,λm=>?_⟩,ha.env,ha.arr,λm o b=>?_,ha.nm⟩
  ·simp only[NB,c.env];cases a:lk s X.env with
   | none=>rfl
   | some v=>simp[Vp hn v (ha.env s v a)]
  ·simp only[Cf,Re];by_cases b:m=n
   ·subst b;cases a:lk m X.objs with
    | none=>simp
    | some o=>exact absurd hn (ha.nm m o a)
   ·simp only[An b,c.objs];cases a:lk m X.objs with
    | none=>rfl
    | some o=>exact ADx some (zI (ha.arr m o a))
  ·simp only[Cf,Re];split
   ·rfl
   ·rw[ha.new m o b];rfl
 rw[c.lkn ha hn];unfold lC;grind
theorem Vy:∀ {l:List Nat} {σ σ':St},Nn σ σ' X->H9 X σ ns->(∀n∈l,n∈ns)->Nn (Ct l σ) (Ct l σ') X/\H9 X (Ct l σ) ns
 | [],_,_,a,ha,_=>⟨a,ha⟩
 | n :: l,σ,σ',a,ha,h=>by
  obtain⟨h1,b⟩:=A5s a ha (h n (by simp));have:=Vy (l:=l) h1 b λm c=>h m (by simp[c]);exact this
def mD (σ σ':St) (xs:List Operand):Prop:=∀x∈xs,Ak σ' x=Ak σ x
theorem Ui (b:Nn σ σ' X) {xs:List Operand} (h:∀t∈xs.filterMap QA,lk t X.env=none):mD σ σ' xs:=by
 intro x a;cases x with
 | tmp t =>
  simp only[Ak,b.env];rw[h t (AFh.2 ⟨_,a,rfl⟩)];rfl
 | const v=>rfl
 | global g=>rfl
 | func f=>rfl
theorem MP:∀ {l:List (Nat×Operand)},mD σ σ' (l.map (·.2))->DX σ' l=DX σ l
 | [],_=>rfl
 | (i,x) :: r,h=>by
  simp only[DX];rw[h x (by simp),MP (λy a=>h y (by simp only[UQ,DO];exact .inr a))]
theorem QJ:∀ {l:List (Nat×Operand)},mD σ σ' (l.map (·.2))->FK σ' l=FK σ l
 | [],_=>rfl
 | (i,x) :: r,h=>by
  simp only[FK];rw[h x (by simp),QJ (λy a=>h y (by simp only[UQ,DO];exact .inr a))]
theorem mE (b:Nn σ σ' X) (ha:H9 X σ ns) (n:Nat):Cs (lk n σ'.objs)=Cs (lk n σ.objs):=by
 rw[b.objs];cases a:lk n X.objs with
 | none=>rfl
 | some o =>
  rw[ha.new n o a];have:=ha.arr n o a;cases o<;>first|rfl|cases this
theorem gE (a:Nn σ σ' X) (ha:H9 X σ ns) {op:Op} (h:mD σ σ' op.operands.toList):CP σ' op=CP σ op:=by
 cases op<;>simp only[CP];case buildSlice t n parts =>
  exact MP (λx a=>h x (by simpa[Op.operands] using a))
 case build t parts =>
  exact QJ (λx a=>h x (by simpa[Op.operands] using a))
 case store t x y =>
  rw[h x (by simp[Op.operands]),h y (by simp[Op.operands])];unfold Ce;split
  ·rw[mE a ha]
  ·rfl
 case mapUpdate t m x y =>
  rw[h m (by simp[Op.operands]),h x (by simp[Op.operands]),h y (by simp[Op.operands])]
def J5 (σ:St):Option AV->Option AV->List Nat
 | some (.sr n _ _ _),some (.sr m _ _ _)=>if Cs (lk n σ.objs)=true then [n,m] else [n]
 | some (.sr n _ _ _),_=>[n]
 | some (.nin n _ _ _),_=>[n]
 | some (.raw _),some (.sr m _ _ _)=>if Cs (lk m σ.objs)=true then [m] else []
 | _,_=>[]
def gF (σ:St):Option AV->Option AV->List Nat
 | some (.ep n _ _ _ _),some (.sr m _ _ _)=>if Cs (lk n σ.objs)=true then [n,m] else []
 | _,_=>[]
def bU (σ:St):Op->List Nat
 | .call c=>match c.callee,c.args.toList with
  | .builtin .append,[x,y]=>J5 σ (Ak σ x) (Ak σ y)
  | _,_=>[]
 | .store _ x y=>gF σ (Ak σ x) (Ak σ y)
 | _=>[]
theorem A2b {n:Nat} {e:Ty} {lo hi:Nat} {v:AV}:n∈J5 σ (some (.sr n e lo hi)) (some v):=by
 cases v<;>first|(simp[J5];done)|(simp only[J5];split<;>simp)
theorem qC (f:Nn σ σ' X) (ha:H9 X σ ns) {tl:List Nat} (e:∀n,n∈tl->n∈ns) {d b:Nat} {v:AV} {g:Obj} (i:lk d X.env=none) (j:lk b X.objs=none) :
  Nn ⟨(d,v) :: Bu tl σ.env,(b,g) :: Ao tl tl σ.objs⟩ ⟨(d,v) :: Bu tl σ'.env,(b,g) :: Ao tl tl σ'.objs⟩ X:=by
 refine⟨λs=>?_,λm=>?_⟩
 ·simp only[lk];by_cases hs:s=d
  ·grind
  ·rw[An hs,An hs,EO,EO,f.env];cases a:lk s X.env with
   | none=>rfl
   | some w=>simp[Vr e w (ha.env s w a)]
 ·simp only[lk];by_cases c:m=b
  ·grind
  ·rw[An c,An c,Bj,Bj,f.objs];cases a:lk m X.objs with
   | none=>rfl
   | some w =>
    rw[An λh=>ha.nm m w a (e _ ((Af _ _).1 h))];exact ADx some (Y4 (ha.arr m w a))
theorem qD (c:Nn σ σ' X) (ha:H9 X σ ns) {n:Nat} {tl:List Nat} (hn:n∈ns) (b:∀n,n∈tl->n∈ns) {en:List (Nat×AV)} {new:List (Nat×Obj)} (d:∀s v,lk s en=some v->lk s X.env=none) (f:∀m o,lk m new=some o->lk m X.objs=none) :
  Nn ⟨en++EY n tl σ.env,new++Ck n tl σ.objs⟩ ⟨en++EY n tl σ'.env,new++Ck n tl σ'.objs⟩ X:=by
 refine⟨λs=>?_,λm=>?_⟩
 ·simp only[A5];cases hs:lk s en with
  | some v=>rw[d s v hs];rfl
  | none =>
   rw[Fl,Fl,c.env];cases a:lk s X.env with
   | none=>rfl
   | some w=>simp[Vs hn b w (ha.env s w a)]
 ·simp only[A5];cases e:lk m new with
  | some o=>rw[f m o e];rfl
  | none =>
   rw[DY,DY,c.objs];cases a:lk m X.objs with
   | none=>rfl
   | some w =>
    rw[An λh=>ha.nm m w a (by
     rcases DO.1 ((Af _ _).1 h) with rfl|h
     ·exact hn
     ·exact b _ h)]
    exact ADx some (Y5 (ha.arr m w a))
theorem bV {n:Nat} {o d:Obj} (c:Nn σ σ' X) (ha:H9 X σ ns) (hn:lk n σ.objs=some o) {env b:List (Nat×AV)} (f:∀s,lk s b=(lk s X.env).or (lk s env)):Nn ⟨env,upd n d σ.objs⟩ ⟨b,upd n d σ'.objs⟩ X:=by
 refine⟨f,λm=>?_⟩;simp only[GY];have e:lk n X.objs=none:=by
  cases h:lk n X.objs with
  | none=>rfl
  | some u=>rw[ha.new n u h]at hn;cases hn
 by_cases a:m=n
 ·subst a;rw[BY rfl,BY rfl,c.objs,e];rfl
 ·rw[An a,An a,c.objs]
theorem Nn.some_lk (a:Nn σ σ' X) (ha:H9 X σ ns) {n:Nat} {o:Obj} (h:lk n σ.objs=some o):lk n σ'.objs=some o:=a.obs ha n o h
theorem zK {tb:Tb} {op:Op} {d:Option Nat} {vc:Prop} {τ:St} (a:Nn σ σ' X) (ha:H9 X σ ns) (K:mD σ σ' op.operands.toList) (A:∀n∈bU σ op,n∈ns) (U:∀t,d=some t->lk t X.env=none) (T:∀n,(∃u,lk n τ.objs=some u)->lk n X.objs=none) (h:Fh tb σ d op=some (vc,τ)) :
  (∃ak,Fh tb σ' d op=some (vc,ak)/\Nn τ ak X)/\∀k,aq tb σ' k op=none:=by
 have R:=a.obs ha;cases op<;>simp only[Fh]at h<;>try(cases h;done)
 case store t x y =>
  refine⟨?_,λ_=>rfl⟩;simp only[Fh];have A:∀n∈gF σ (Ak σ x) (Ak σ y),n∈ns:=A;rw[K x (by simp[Op.operands]),K y (by simp[Op.operands])];cases d with
  | some d=>simp[D0]at h
  | none =>
   simp only[D0]at h ⊢;generalize Ak σ x=al at h A ⊢;generalize Ak σ y=am at h A ⊢;unfold Hn at h ⊢;split at h
   ·rename_i ti n aw off v Z;try simp only
    unfold Dj at h ⊢;split at h
    ·rename_i et st fs f;rw[a.some_lk ha f];try simp only
     unfold FI at h ⊢;split at h
     ·rename_i u az h1 G;try rw[h1,G]
      try simp only
      split at h
      ·rename_i B;rw[BY B];cases h;exact⟨_,rfl,bV a ha f a.env⟩
      ·cases h
     ·cases h
    ·cases h
   ·rename_i ti n e i aw off v Z;try simp only
    unfold Dk at h ⊢;split at h
    ·rename_i et ae xs f;rw[a.some_lk ha f];try simp only
     cases aa:LQ false σ ti.ty v with
     | none=>rw[aa]at h;unfold Eq at h;split at h<;>first|(cases h;done)|(rename_i G;cases G)
     | some w =>
      rw[FO R aa];rw[aa]at h;unfold Eq at h ⊢;split at h
      ·rename_i ys w' h1 G;cases G;try rw[h1]
       try simp only
       unfold F6 at h ⊢;split at h
       ·rename_i z P;try rw[P]
        try simp only
        split at h
        ·rename_i B;rw[BY B];cases h;exact⟨_,rfl,bV a ha f a.env⟩
        ·cases h
       ·cases h
      ·cases h
    ·rename_i et ad k F xs j f;rw[a.some_lk ha f];try simp only
     split at h
     ·rename_i m E hi;try simp only
      split at h
      ·rename_i B;rw[BY B];unfold L2 at h ⊢;split at h
       ·rename_i J;rw[BY J];unfold Lz at h ⊢;split at h
        ·rename_i bb af ys D;rw[a.some_lk ha D];try simp only
         split at h
         ·rename_i ap;rw[BY ap];unfold Ka at h ⊢;split at h
          ·rename_i aj ab;try rw[ab]
           try simp only
           cases h;have ai:∀q,q∈[n,m]->q∈ns:=λq c=>A q (by simp only[gF,f,Cs,AD1];exact c);refine⟨_,rfl,qD (en:=[]) (new:=[(n,_)]) a ha (ai n (by simp)) (λq c=>ai q (by simp at c;simp[c])) (λs v h=>by cases h) (λq o c=>T q ⟨o,?_⟩)⟩;simp only[lk]at c ⊢;split at c
           ·rename_i F;cases c;rw[BY F]
           ·cases c
          ·cases h
         ·cases h
        ·cases h
       ·cases h
      ·cases h
     ·cases h
    ·cases h
   ·cases h
 case mapUpdate t m x y =>
  refine⟨?_,λ_=>rfl⟩;simp only[Fh];rw[K m (by simp[Op.operands]),K x (by simp[Op.operands]),K y (by simp[Op.operands])];cases d with
  | some d=>simp[D0]at h
  | none =>
   simp only[D0]at h ⊢;generalize Ak σ m=ax at h ⊢;generalize Ak σ x=al at h ⊢;generalize Ak σ y=am at h ⊢;unfold Kd at h ⊢;split at h
   ·try simp only
    unfold F7 at h ⊢;split at h
    ·rename_i bf bh l f;rw[a.some_lk ha f];try simp only
     split at h
     ·rename_i B;rw[BY B];unfold Gn at h ⊢;split at h
      ·rename_i bd v1 h1 G;rw[FO R h1,FO R G];try simp only
       split at h
       ·rename_i J;rw[BY J];cases h;exact⟨_,rfl,bV a ha f a.env⟩
       ·cases h
      ·cases h
     ·cases h
    ·cases h
   ·cases h
 case call cl =>
  obtain⟨callee,⟨args⟩,⟨argTypes⟩⟩:=cl;cases callee with
  | value g=>simp[DP]at h
  | invoke r m=>simp[DP]at h
  | builtin b =>
   simp only[DP]at h;unfold Dm at h;split at h
   ·rename_i x y t u;have O:Ak σ' x=Ak σ x:=K x (by simp[Op.operands,Call.operands]);have S:Ak σ' y=Ak σ y:=K y (by simp[Op.operands,Call.operands]);have A:∀n∈J5 σ (Ak σ x) (Ak σ y),n∈ns:=λn hn=>A n (by simpa[bU] using hn);unfold DN at h;split at h
    ·rename_i n e hi v C I;rw[C,I]at A;refine⟨?_,λk=>by simp[aq,DB,DM,Cl,O,C]⟩;simp only[Fh,DP,Dm,DN,O,C,S,I];split at h
     ·rename_i p ;have L:=U p rfl;have M:n∈ns:=A n A2b;try simp only
      split at h
      ·rename_i N;rw[BY N];unfold Er at h ⊢;split at h
       ·rename_i af av el b2 Y;try rw[Y]
        try simp only
        split at h
        ·rename_i W;rw[BY W];unfold Ci at h ⊢;split at h
         ·rename_i ti et ae xs h1 f;try rw[h1]
          try rw[a.some_lk ha f]
          try simp only
          split at h
          ·rename_i ar;rw[BY ar];unfold FJ at h ⊢;split at h
           ·rename_i aj ys G P;try rw[G]
            rw[ME R P];try simp only
            cases h;refine⟨_,rfl,⟨λs=>?_,λm=>?_⟩⟩
            ·simp only[lk];by_cases hs:s=p
             ·subst hs;rw[BY rfl,BY rfl,L];rfl
             ·rw[An hs,An hs,Jt,Jt,a.env];cases H:lk s X.env with
              | none=>rfl
              | some w=>simp[Vq M w (ha.env s w H)]
            ·simp only[GY,Bw];have ao:lk n X.objs=none:=by
              cases H:lk n X.objs with
              | none=>rfl
              | some w=>exact absurd M (ha.nm n w H)
             by_cases D:m=n
             ·subst D;rw[BY rfl,BY rfl,a.objs,ao];rfl
             ·rw[An D,An D,a.objs];cases H:lk m X.objs with
              | none=>rfl
              | some w=>exact ADx some (zJ (ha.arr m w H))
           ·cases h
          ·cases h
         ·rename_i ti et ad k ae xs h1 f;try rw[h1]
          try rw[a.some_lk ha f]
          try simp only
          split at h
          ·rename_i B;rw[BY B];unfold Sm at h ⊢;split at h
           ·rename_i m E au;try simp only
            unfold L1 at h ⊢;split at h
            ·rename_i an ba be ay ys D;rw[a.some_lk ha D];try simp only
             split at h
             ·rename_i J;rw[BY J];unfold Kb at h ⊢;split at h
              ·rename_i aj ab;try rw[ab]
               try simp only
               cases h;refine⟨_,rfl,qC a ha (λq c=>A q (by simp only[J5,f,Cs,AD1];exact c)) L ?_⟩;cases H:lk n X.objs with
               | none=>rfl
               | some w=>exact absurd M (ha.nm n w H)
              ·cases h
             ·cases h
            ·cases h
           ·cases h
          ·cases h
         ·cases h
        ·cases h
       ·cases h
      ·cases h
     ·cases h
    ·rename_i n e i len v C I;rw[C,I]at A;refine⟨?_,λk=>by simp[aq,DB,DM,Cl,O,C]⟩;simp only[Fh,DP,Dm,DN,O,C,S,I];split at h
     ·rename_i p ;have L:=U p rfl;have M:n∈ns:=A n (by simp[J5]);try simp only
      split at h
      ·rename_i N;rw[BY N];unfold Nw at h ⊢;split at h
       ·rename_i af av el b2 Y;try rw[Y]
        try simp only
        split at h
        ·rename_i W;rw[BY W];unfold Pf at h ⊢;split at h
         ·rename_i ti et ad k F xs h1 f;try rw[h1]
          try rw[a.some_lk ha f]
          try simp only
          split at h
          ·rename_i B;rw[BY B];unfold Ly at h ⊢;split at h
           ·rename_i ys P;rw[ME R P];try simp only
            split at h
            ·rename_i ag;have Q:lk p X.objs=none:=by
              refine T p ?_;cases h;exact⟨_,by simp only[lk,AD1];rfl⟩
             have V:(lk p σ'.objs).isNone=true/\ys.isEmpty=false:=⟨by rw[a.objs,Q];exact ag.1,ag.2⟩;rw[BY V];cases h;refine⟨_,rfl,qD (en:=[(p,_)]) (new:=[(p,_),(n,_)]) a ha M (λq c=>by cases c) (λs v h=>?_) (λq o c=>?_)⟩
             ·simp only[lk]at h;split at h
              ·rename_i F;rw[F];exact L
              ·cases h
             ·simp only[lk]at c;split at c
              ·rename_i F;rw[F];exact Q
              ·split at c
               ·rename_i F;rw[F];cases H:lk n X.objs with
                | none=>rfl
                | some w=>exact absurd M (ha.nm n w H)
               ·cases c
            ·cases h
           ·cases h
          ·cases h
         ·cases h
        ·cases h
       ·cases h
      ·cases h
     ·cases h
    ·rename_i v C I;rw[C,I]at A;split at h
     ·rename_i p ;have L:=U p rfl;split at h
      ·rename_i N;unfold aR at h;split at h
       ·rename_i m E au bg offs el b Z;unfold Ph at h;split at h
        ·rename_i ti an ad k e ys h1 D;split at h
         ·rename_i B;unfold Pg at h;split at h
          ·rename_i J;have Q:lk p X.objs=none:=by
            refine T p ?_;cases h;exact⟨_,by simp only[lk,AD1];rfl⟩
           have V:(lk p σ'.objs).isNone=true:=by rw[a.objs,Q];exact J.1
           have ah:=a.some_lk ha D;refine⟨?_,λbc=>by simp[aq,DB,DM,Cl,O,C,S,I,N,Ep,PZ,ah,Cs];split<;>simp[FH]⟩;cases h;simp only[Fh,DP,Dm,DN,O,C,S,I,aR,Ph,Pg];rw[BY N,Z];simp only;rw[ah,h1];simp only;rw[BY B,BY ⟨V,J.2⟩];exact⟨_,rfl,qC a ha (λq c=>A q (by simp only[J5,D,Cs,AD1];exact c)) L Q⟩
          ·cases h
         ·cases h
        ·cases h
       ·cases h
      ·cases h
     ·cases h
    ·cases h
   ·cases h
end
end
section
open Go Go.RowKit
def A2c (o:Obj):Bool:=MO o
def Kt (o:Oper):EN->Bool
 | []=>true
 | (d,_,_) :: r=>!Ac d (Gx o.op)&&!Ac d o.dst.toList&&Kt o r
def Uj (ns:List Nat) (σ:List (Nat×Obj)):List (Nat×Obj)->Bool
 | []=>true
 | (n,o) :: r=>(lk n σ).isNone&&!Ac n ns&&A2c o&&Uj ns σ r
def Jf (ns:List Nat) (σ:List (Nat×Obj)):EN->Bool
 | []=>true
 | (_,_,obs) :: r=>Uj ns σ obs&&Jf ns σ r
def bW (τ:List (Nat×Obj)):List (Nat×Obj)->Bool
 | []=>true
 | (n,_) :: r=>(lk n τ).isNone&&bW τ r
def QK (τ:List (Nat×Obj)):EN->Bool
 | []=>true
 | (_,_,obs) :: r=>bW τ obs&&QK τ r
def J6 (ns:List Nat):EN->EN
 | []=>[]
 | (d,v,obs) :: r=>(d,v.fgt ns,obs) :: J6 ns r
def tn (σ:St) (o:Op):List Nat:=CP σ o++bU (Ct (CP σ o) σ) o
theorem Eu {o:Oper}:∀ {ens:EN},Kt o ens=true->∀e∈ens,e.1∉Gx o.op/\o.dst≠some e.1
 | [],_,e,a=>by cases a
 | (d,v,obs) :: r,h,e,a=>by
  simp only[Kt,AT,UB]at h;rcases DO.1 a with rfl|a
  ·grind [Af,Ac]
  ·exact Eu h.2 e a
theorem QL {ns:List Nat} {σ:List (Nat×Obj)}:∀ {l:List (Nat×Obj)},Uj ns σ l=true->∀p∈l,lk p.1 σ=none/\p.1∉ns/\A2c p.2=true
 | [],_,e,a=>by cases a
 | (n,o) :: r,h,p,hp=>by
  simp only[Uj,AT,UB,AA9]at h;rcases DO.1 hp with rfl|hp
  ·grind [Af]
  ·exact QL h.2 p hp
theorem Fs {ns:List Nat} {σ:List (Nat×Obj)}:∀ {ens:EN},Jf ns σ ens=true->∀e∈ens,∀p∈e.2.2,lk p.1 σ=none/\p.1∉ns/\A2c p.2=true
 | [],_,e,a=>by cases a
 | (d,v,obs) :: r,h,e,a=>by
  simp only[Jf,AT]at h;rcases DO.1 a with rfl|a
  ·exact QL h.1
  ·exact Fs h.2 e a
theorem S7 {τ:List (Nat×Obj)}:∀ {l:List (Nat×Obj)},bW τ l=true->∀p∈l,lk p.1 τ=none
 | [],_,e,a=>by cases a
 | (n,o) :: r,h,p,hp=>by
  simp only[bW,AT,AA9]at h;rcases DO.1 hp with rfl|hp
  ·exact h.1
  ·exact S7 h.2 p hp
theorem Ku {τ:List (Nat×Obj)}:∀ {ens:EN},QK τ ens=true->∀e∈ens,∀p∈e.2.2,lk p.1 τ=none
 | [],_,e,a=>by cases a
 | (d,v,obs) :: r,h,e,a=>by
  simp only[QK,AT]at h;rcases DO.1 a with rfl|a
  ·exact S7 h.1
  ·exact Ku h.2 e a
theorem Oo {ns:List Nat}:∀ {ens:EN},J6 ns ens=ens->∀e∈ens,e.2.1.fgt ns=e.2.1
 | [],_,e,a=>by cases a
 | (d,v,obs) :: r,h,e,a=>by
  simp only[J6,AEj,AF8,and_true,true_and]at h;rcases DO.1 a with rfl|a
  ·exact h.1
  ·exact Oo h.2 e a
section
variable {c:Cx} {o:Oper} {σ:St} {ens:EN} {N:St->Prop}
theorem A2d {X:St} {ns:List Nat} (b:XIn ens X) (hn:Jf ns σ.objs ens=true) (hf:J6 ns ens=ens):H9 X σ ns:=by
 refine⟨λs v hs=>?_,λn o a=>?_,λn o a=>?_,λn o a=>?_⟩
 ·obtain⟨obs,d⟩:=b.env s v hs;exact Oo hf _ d
 all_goals
  obtain⟨e,c,hp⟩:=b.objs n o a;have:=Fs hn e c _ hp
 ·exact this.2.2
 ·exact this.1
 ·exact this.2.1
theorem zL (ab:c.Ok) {τ:St} {vc:Prop} (ns:List Nat) (h:GQ c.tb o σ=some (vc,τ)) (U:tn σ o.op=ns) (L:Kt o ens=true) (hn:Jf ns σ.objs ens=true) (S:QK τ.objs ens=true) (hf:J6 ns ens=ens) (ad:Hs c.nt o=true) (ae:vc) (aa:N τ):bS c o σ ens N:=by
 subst U;intro X σ' j k a w next Q hs hk
 have ha:=A2d k hn hf;have F:∀t∈Gx o.op,lk t X.env=none:=λt A=>by
  cases g:lk t X.env with
  | none=>rfl
  | some v=>obtain⟨obs,f⟩:=k.env t v g;exact absurd A (Eu L _ f).1
 have D:∀t,o.dst=some t->lk t X.env=none:=λt A=>by
  cases g:lk t X.env with
  | none=>rfl
  | some v=>obtain⟨obs,f⟩:=k.env t v g;exact absurd A (Eu L _ f).2
 have G:∀n,(∃u,lk n τ.objs=some u)->lk n X.objs=none:=λn hu=>by
  cases g:lk n X.objs with
  | none=>rfl
  | some v =>
   obtain⟨e,R,hp⟩:=k.objs n v g;obtain⟨u,hu⟩:=hu;rw[Ku S e R _ hp]at hu;cases hu
 have Y:=gE j ha (op:=o.op) (Ui j F);obtain⟨b,y⟩:=Vy (l:=CP σ o.op) j ha (λm f=>by simp[tn,f]);have key:∃q,GQ c.tb o σ'=some (vc,q)/\Nn τ q X:=by
  have H:∀n∈bU (Ct (CP σ o.op) σ) o.op,n∈tn σ o.op:=λm f=>by simp[tn,f]
  unfold GQ Pi at h ⊢;rw[Y];generalize Ct (CP σ o.op) σ=B at h b y H;generalize Ct (CP σ o.op) σ'=C at b;have K:=Ui b F;cases z:aq c.tb B (o.dst.getD 0) o.op with
  | some r =>
   obtain⟨af,v,obs⟩:=r;rw[z]at h;have W:=Ue (b.obs y) (λx j v Z=>by rw[K x j];exact Z) z;rw[W];simp only[LS]at h ⊢;split at h
   ·rename_i I;cases h;have J:∀n,lk n (B.add v obs o.dst).objs=(lk n obs).or (lk n B.objs):=λn=>by cases o.dst<;>simp only[St.add,A5]
    have V:∀n,lk n (C.add v obs o.dst).objs=(lk n obs).or (lk n C.objs):=λn=>by cases o.dst<;>simp only[St.add,A5]
    have E:∀n u,lk n obs=some u->lk n X.objs=none:=λn u hu=>G n ⟨u,by rw[J,hu];rfl⟩;have T:Bi obs C=true:=by
     simp only[Bi,Is,AA9]at I ⊢;intro p hp;obtain⟨u,hu⟩:=NM hp;rw[b.objs,E _ u hu,I p hp];rfl
    rw[BY T];refine⟨_,rfl,λs=>?_,λn=>?_⟩
    ·cases P:o.dst with
     | none=>simp only[St.add];exact b.env s
     | some d =>
      simp only[St.add,lk];by_cases i:s=d
      ·rw[BY i,BY i,i,D d P];rfl
      ·rw[An i,An i];exact b.env s
    ·rw[J,V,b.objs];cases hu:lk n obs with
     | none=>rfl
     | some u=>rw[E n u hu];rfl
   ·cases h
  | none =>
   rw[z]at h;simp only[LS]at h;obtain⟨⟨q,h1,M⟩,O⟩:=zK b y K H D G h;rw[O];simp only[LS];exact⟨q,h1,M⟩
 grind [Px,Bx]
theorem gG {σ σ':St}:∀ {xs:List Operand},mD σ σ' xs->Ii σ' xs=Ii σ xs
 | [],_=>rfl
 | x :: r,h=>by
  simp only[Ii];rw[h x (by simp),gG (λy a=>h y (by simp[a]))]
theorem bX {σ σ':St} (h:eH σ σ') {ren:List (Nat×B5)} {x y:AV} (a:Gy σ ren x y):Gy σ' ren x y:=by
 cases y<;>first|exact a|exact FO h a
theorem OA {σ σ':St} (h:eH σ σ') {ren:List (Nat×B5)}:∀ {l r:List AV},BS σ ren l r->BS σ' ren l r
 | [],[],_=>trivial
 | [],_ :: _,a=>a.elim
 | _ :: _,[],a=>a.elim
 | _ :: _,_ :: _,a=>⟨bX h a.1,OA h a.2⟩
theorem OB {l l':List (Nat×Obj)} (h:∀n o,lk n l=some o->lk n l'=some o) {ren:List (Nat×B5)}:∀ {r:List (Nat×Obj)},Ag l ren r->Ag l' ren r
 | [],_=>trivial
 | (m,o) :: r,a=>by
  refine⟨?_,OB h a.2⟩;have h1:=a.1;cases hf:lk m ren with
  | none=>rw[hf]at h1;exact h1.elim
  | some f =>
   rw[hf]at h1;cases f with
   | nil=>exact h1
   | nm n =>
    simp only[Gb]at h1 ⊢;cases hn:lk n l with
    | none=>rw[hn]at h1;simp only[Hy]at h1
    | some x=>rw[h n x hn,<-hn];exact h1
theorem zM (af:c.Ok) {dst:Option Nat} {g:Operand} {xs:List Operand} {ts:Array TypeId} {ty:TypeId} {pos:String} {after:Array Edge}
  {f:FuncId} {D:List Nat} (aj:DR (Ak σ g)=some (f,D)) {as:List AV} (ae:Ii σ xs=some as)
  {A:List AV} {objs:List (Nat×Obj)} {stay:List Nat} {post:AV->List (Nat×Obj)->Prop} (aa:BJ c.P f A objs stay post)
  (ren:List (Nat×B5)) (hs:List Nat) (h1:CD ren=true) (V:CT objs ren=true) (am:(c.ds.pin.all λp=>!Ac p.1 hs)=true)
  (I:Kt ⟨dst,.call ⟨.value g,xs.toArray,ts⟩,ty,pos,after,none⟩ ens=true) (hn:Jf (Am ren) σ.objs ens=true) (hf:J6 hs ens=ens) (ag:Hs c.nt ⟨dst,.call ⟨.value g,xs.toArray,ts⟩,ty,pos,after,none⟩=true)
  (Z:BS σ ren (as++D.map λn=>AV.bp n [] 0) A) (ab:Ag σ.objs ren objs)
  (hk:∀res r,post res r->∃(l:List (Nat×B5)) (x:AV) (i:List (Nat×Obj)),CD l=true/\CT i l=true/\Ag r l i/\Br l res x /\
   I9 ren l stay hs=true/\FY (Am ren) i σ.objs=true/\QK i ens=true/\N (CU σ (Am ren) hs dst x i)) :
  bS c ⟨dst,.call ⟨.value g,xs.toArray,ts⟩,ty,pos,after,none⟩ σ ens N:=by
 intro X σ' q k a w next Q ao al
 have ah:∀s v,lk s X.env=some v->v.fgt hs=v:=λs v hs=>by
  obtain⟨obs,m⟩:=k.env s v hs;exact Oo hf _ m
 have G:eH σ σ':=by
  intro n o z;rw[q.objs];cases b:lk n X.objs with
  | none=>exact z
  | some aq =>
   obtain⟨e,j,hp⟩:=k.objs n aq b;rw[(Fs hn e j _ hp).1]at z;cases z
 have ak:∀n o,lk n X.objs=some o->n∉Am ren:=λn o B=>by
  obtain⟨e,j,hp⟩:=k.objs n o B;exact(Fs hn e j _ hp).2.1
 have ad:∀t∈(g :: xs).filterMap QA,lk t X.env=none:=λt C=>by
  cases b:lk t X.env with
  | none=>rfl
  | some v =>
   obtain⟨obs,m⟩:=k.env t v b;refine absurd ?_ (Eu I _ m).1;simpa[Gx,Op.operands,Call.operands] using C
 have ar:∀t,dst=some t->lk t X.env=none:=λt C=>by
  cases b:lk t X.env with
  | none=>rfl
  | some v=>obtain⟨obs,m⟩:=k.env t v b;exact absurd C (Eu I _ m).2
 have H:=Ui q ad;refine bO af (xs:=xs) (ts:=ts) rfl rfl (by rw[H g (by simp)];exact aj) (by rw[gG (λy ap=>H y (by simp[ap]))];exact ae) aa ren h1 V (OA G Z) (OB G ab) hs am ao (Bx ag) λres r hp=>?_;obtain⟨l,x,i,L,M,O,R,S,E,T,U⟩:=hk res r hp;have F:∀n o,lk n X.objs=some o->lk n i=none:=λn o B=>by
  obtain⟨e,j,hp⟩:=k.objs n o B;exact Ku T e j _ hp
 refine⟨l,x,i,L,M,O,R,S,?_,λK w' an=>al _ U K w' _ ⟨λs=>?_,λn=>?_⟩ an⟩
 ·simp only[FY,Is,UU,AA9]at E ⊢;intro p hp;rcases E p hp with h|h
  ·exact .inl h
  ·right;rw[q.objs,h];cases b:lk p.1 X.objs with
   | none=>rfl
   | some u =>
    obtain⟨av,J⟩:=NM hp;rw[F _ u b]at J;cases J
 ·have ai:lk s (Bu hs σ'.env)=(lk s X.env).or (lk s (Bu hs σ.env)):=by
   rw[EO,EO,q.env];cases b:lk s X.env with
   | none=>rfl
   | some v=>simp[ah s v b]
  simp only[CU];cases dst with
  | none=>exact ai
  | some d =>
   simp only[Kr,lk];by_cases au:s=d
   ·grind
   ·grind
 ·simp only[CU,A5,Bj,q.objs];cases b:lk n X.objs with
  | none=>simp
  | some u =>
   have Y:MO u=true:=by
    obtain⟨e,j,hp⟩:=k.objs n u b;exact(Fs hn e j _ hp).2.2
   have W:¬Ac n (Am ren)=true:=λh=>ak n _ b ((Af _ _).1 h);rw[F n _ b,An W];exact ADx some (Y4 Y)
end
section
variable {c:Cx} {ops:List Oper} {Kf:St->Prop} {τ:St} {ens:EN} {vc:Prop}
theorem A2e {D:List Nat} (h:l9 c.tb ops τ.objs D [] τ.env=some (vc,ens)) (b:vc) (a:Rr ens τ.objs=true) (hk:Kf (MM ens τ)):Mix c ops Kf [] D ens τ:=⟨⟨vc,h,b,a⟩,hk⟩
theorem A2f {A D:List Nat} {l:Nat} {b:List (List Nat×Nat)} {o:Oper} {d:St} {a:EN} (h:l9 c.tb ops τ.objs (A++qs b D) [] τ.env=some (vc,ens)) (j:vc) (g:Rr ens τ.objs=true) (i:ops[l]?=some o) (k:MM (ens.take A.length) τ=d) (f:ens.drop A.length=a)
  (e:bS c o d a (λm=>Mix c ops Kf b D a m)):Mix c ops Kf ((A,l) :: b) D ens τ:=by
 subst k f;exact⟨⟨vc,h,j,g⟩,o,i,e⟩
end
end
section
open Go
attribute [local go_sem] fT AL List.toList_toArray B1 evG evK YL E2 Ke Gw GA GQ Pi LS CP DX M5 Ce Ct frz lC Gq DW BB F2 Bg AV.frz AV.frzs AV.drp AV.drps AV.names AV.namess aq Gt LR KT Tj JS Bh Bp Jp El Il Em Io Im Ip VJ Pb HJ KV F4 Ed VK Ra qUn Jq Iq Lv FX Dz JV KW Eo Tk Cl Ep FH Rb Ir Nv Fg Nu Pc Rc Lw JW KX DM DB Fh D0 Hn Dj FI Dk Eq F6 Ce Cs PZ RZ OT Gm JU JT KU Nw Pf Ly L2 Lz Ka Sm L1 Kb aR Ph Pg AV.trn AV.trns EY Ck Obj.trn J5 gF DP Dm DN Er Ci FJ Ak lk HV Gr Hk bin lB YP lE Sk yQ yR pfs AV.cells CL Jn Pa KZ Pe Ca Ns Ty.cell1 Ik FD Dy GP LQ Eh KS Lu RW Ff HI Nl Th VI Lt KQ aP eL Sj Nt DF Jo RV.flat Ty.flat Ty.size St.add upd del Bi Value.oneCell' Ln Ty.dflt Ij P0 Hz QH List.take_succ_cons List.take_zero List.length_cons f3 f4 QG Jz MJ Hf J0 A1Q GB NF NG NH NI Rl Rm NJ Iz Va Option.map_some Option.map_none Option.bind_some Option.getD_some Option.getD_none Option.isNone_none Option.isNone_some Bool.and_true Bool.true_and Bool.and_false Bool.false_and Bool.not_true Bool.not_false if_true if_false List.length_cons List.length_nil and_true true_and and_self List.all_cons List.all_nil List.append_nil List.nil_append List.cons_append List.getElem?_cons_zero List.getElem?_cons_succ List.getElem?_nil List.map_cons List.map_nil List.set_cons_zero List.set_cons_succ List.isEmpty_nil List.isEmpty_cons decide_true decide_false beq_self_eq_true bne_self_eq_false Nat.zero_add Nat.add_zero Nat.sub_zero Int.toNat_natCast Int.toNat_zero Int.toNat_one List.take_length List.length_append List.length_singleton true_or or_true or_self false_or or_false Ty.agg.injEq Ty.slice.injEq Ty.prod.injEq Ty.int.injEq Option.some.injEq beq_iff_eq Lo evMG evMQ opM H5 MF B8 Jy Gx QA Jw H0 I0 Kn LZ Oh N0 Oi Tn MG QB QC Jx Ac Ap Op.operands Call.operands List.filterMap_cons List.filterMap_nil List.append_eq Bool.cond_false_right Bool.cond_true_left cond_true cond_false implies_true decide_eq_true_eq beq_true beq_false Bool.or_true Bool.or_false Bool.true_or Bool.false_or Option.isSome_some Array.empty_append List.append_toArray F3 M6 FK Hl aQ Pd F5 GX GW It Hm KY Lx YQ lD Hj inB Kd F7 Gn Jr Ar f5 List.drop_zero Dr H6 bP CU Kr Bu AV.fgt AV.fgts Obj.fgt Ao Am Ac DR Ii BS Gy List.any_cons List.any_nil l9 f8 bQ f9 MM Rr qs List.flatMap_cons List.flatMap_nil List.cons_append tn bU J6 List.take_succ_cons List.drop_succ_cons CD CT Ag FN Km Br FM D6 Hx Iy Gb Hy
end
end Go.Proofs.YtapkhdkbkodbjaaGreat.Fw
