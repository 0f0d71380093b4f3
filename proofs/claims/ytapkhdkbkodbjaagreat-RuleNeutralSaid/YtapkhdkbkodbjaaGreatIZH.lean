/- Regions in which operations on memory float among quiet ones. -/
import Derived.Test.YtapkhdkbkodbjaaGreatIZG
set_option linter.unusedVariables false
set_option linter.unusedSimpArgs false
namespace Go.Proofs.YtapkhdkbkodbjaaGreat.Fw
section
open Go Go.RowKit
abbrev EN:=List (Nat×AV×List (Nat×Obj))
def gB (x:Option Oper) (f:Oper->Option (Prop×EN)):Option (Prop×EN) :=
 match x with
 | some o=>f o
 | none=>none
def bU (d:Option Nat) (r:Ba) (f:Nat->Prop->AV->List (Nat×Obj)->Option (Prop×EN)):Option (Prop×EN) :=
 match d,r with
 | some d,some (vc,v,obs)=>f d vc v obs
 | _,_=>none
def gC (d:Nat) (vc:Prop) (v:AV) (obs:List (Nat×Obj)) (r:Option (Prop×EN)):Option (Prop×EN) :=
 match r with
 | some (a,l)=>some (vc/\a,(d,v,obs) :: l)
 | none=>none
def mB (tb:Tb) (ops:List Oper) (base:List (Nat×Obj)):List Nat->List (Nat×List (Nat×Obj))->List (Nat×AV)->Option (Prop×EN)
 | [],_,_=>some (True,[])
 | i :: Q,E,env=>gB (ops[i]?) λo=>bU o.dst (aq tb ⟨env,L8 false o.op base E⟩ (o.dst.getD 0) o.op) λd vc v obs=>gC d vc v obs (mB tb ops base Q (Ju d obs E) ((d,v) :: env))
def ME:EN->St->St
 | [],σ=>σ
 | (d,v,obs) :: r,σ=>ME r ⟨(d,v) :: σ.env,obs++σ.objs⟩
def SG:EN->List (Nat×Obj)->Bool
 | [],_=>true
 | (_,_,obs) :: r,objs=>(obs.all λp=>(lk p.1 objs).isNone)&&SG r (obs++objs)
def A9l (tb:Tb) (ops:List Oper) (Q:List Nat) (ens:EN) (τ:St):Prop:=∃vc:Prop,mB tb ops τ.objs Q [] τ.env=some (vc,ens)/\vc/\SG ens τ.objs=true
def qs (a:List (List Nat×Nat)) (D:List Nat):List Nat:=(a.flatMap (·.1))++D
def qB1 (ops:List Oper) (anc:List (List Nat)) (L Q:List Nat):List Nat->List Nat->Bool
 | [],_=>true
 | i :: r,pre=>(match ops[i]? with
   | some o=>o.dst.isSome&&o.guard.isNone&&((EE o).all λe=>Ac e L||Ac e pre)&&((HI o.op).all λt=>Q.all λj=>Aj ops j != some t||(Ac j (anc.getD i [])&&Ac j pre))&&(pre.all λj=>Aj ops j != o.dst)&&!Ac i L&&!Ac i pre
   | none=>false)&&qB1 ops anc L Q r (i :: pre)
def UX (ops:List Oper) (anc:List (List Nat)) (p0:Nat):List Nat->List (List Nat×Nat)->List Nat->Bool
 | L,[],D=>qB1 ops anc L D D []&&((List.range p0).all λi=>Ac i L||Ac i D)&&decide (L.length+D.length=p0)&&decide (p0<=ops.length)&&(L.all λi=>decide (i<p0))&&(D.all λi=>decide (i<p0))&&((List.range ops.length).all λi=>decide (i<p0)||(List.range i).all λj=>Ac j (anc.getD i []))
 | L,(A,l) :: a,D=>qB1 ops anc L (A++qs a D) (A++qs a D) []&&(match ops[l]? with
   | some o=>o.guard.isNone&&((EE o).all λe=>Ac e L||Ac e A)&&(A.all λj=>Ac j (anc.getD l []))&&!Ac l L&&!Ac l (A++qs a D)
   | none=>false)&&(a.all λp=>Ac l (anc.getD p.2 []))&&UX ops anc p0 (l :: (A++L)) a D
def A9m (ops:List Oper) (anc:List (List Nat)):Bool :=
 (List.range ops.length).all λi=>match ops[i]? with|some o=>((EE o).all λe=>decide (e<i))&&((anc.getD i []).all λj=>Ac j (EE o)||(EE o).any λe=>Ac j (anc.getD e []))|none=>false
structure Rv (σ σ' X:St):Prop where
 env:∀s,lk s σ'.env=(lk s X.env).or (lk s σ.env)
 objs:∀n,lk n σ'.objs=(lk n X.objs).or (lk n σ.objs)
structure XIn (ens:EN) (X:St):Prop where
 env:∀s v,lk s X.env=some v->∃obs,(s,v,obs)∈ens
 objs:∀n o,lk n X.objs=some o->∃e∈ens,(n,o)∈e.2.2
def mC (c:Cx) (o:Oper) (σ:St) (ens:EN) (N:St->Prop):Prop :=
 ∀(X σ':St),Rv σ σ' X->XIn ens X->∀(a:Act) (w:World) (next:Act->World->Prop) (Q:Exit->Act->World->Prop),c.sat σ' a w ->
  (∀τ,N τ->∀(b:Act) (w':World) (d:St),Rv τ d X->c.sat d b w'->next b w')->o.wpIn (FR c.r) 0 c.P a w next Q
def Mix (c:Cx) (ops:List Oper) (Kf:St->Prop):List (List Nat×Nat)->List Nat->EN->St->Prop
 | [],D,ens,τ=>A9l c.tb ops D ens τ/\Kf (ME ens τ)
 | (A,l) :: a,D,ens,τ=>A9l c.tb ops (A++qs a D) ens τ/\∃o,ops[l]?=some o/\mC c o (ME (ens.take A.length) τ) (ens.drop A.length) (λb=>Mix c ops Kf a D (ens.drop A.length) b)
def Oh (Q:List Nat) (ens:EN) (i:Nat):En :=
 match lk i (Q.zip ens) with
 | some (_,v,obs)=>⟨true,v,obs⟩
 | none=>⟨true,.top,[]⟩
section
variable {ops:List Oper} {en:Nat->En} {τ:St}
theorem SH:∀(l:List Nat),(Ar ops en τ l).env=(Ar ops en ⟨[],[]⟩ l).env++τ.env
 | []=>rfl
 | i :: r=>by
  simp only[Ar];cases Aj ops i with
  | none=>simp only[St.add];exact SH r
  | some d=>simp only[St.add,ADQ];rw[SH r]
theorem mD (l:List Nat):(Ar ops en τ l).objs=(Ar ops en ⟨[],[]⟩ l).objs++τ.objs:=by
 rw[Fk,Fk];simp
theorem A2h (l:List Nat):Rv τ (Ar ops en τ l) (Ar ops en ⟨[],[]⟩ l) :=
 ⟨λs=>by rw[SH,BB],λn=>by rw[mD,BB]⟩
structure Own (ops:List Oper) (en:Nat->En) (τ:St) (Q:List Nat):Prop where
 slot:∀i∈Q,∀j∈Q,∀s,Aj ops i=some s->Aj ops j=some s->i=j
 new:∀i∈Q,∀n o,lk n (en i).obs=some o->lk n τ.objs=none
 name:∀i∈Q,∀j∈Q,∀n o o',lk n (en i).obs=some o->lk n (en j).obs=some o'->i=j
theorem lkE {Q l:List Nat} (h:Own ops en τ Q) (c:∀i∈l,i∈Q) (s:Nat) (v:AV):lk s (Ar ops en τ l).env=some v↔(∃i∈l,Aj ops i=some s/\(en i).v=v)\/((∀i∈l,Aj ops i≠some s)/\lk s τ.env=some v):=by
 rw[Fl];cases hf:l.find? (λj=>Aj ops j==some s) with
 | none =>
  have hn:∀i∈l,Aj ops i≠some s:=λi hi=>by simpa using AFi.1 hf i hi
  constructor
  ·grind
  ·grind
 | some j =>
  have b:=AEI hf;have a:Aj ops j=some s:=by simpa using AFz hf
  constructor
  ·grind
  ·rintro (⟨i,hi,d,rfl⟩|⟨hn,_⟩)
   ·rw[h.slot i (c i hi) j (c j b) s d a]
   ·exact absurd a (hn j b)
theorem lkO {Q l:List Nat} (h:Own ops en τ Q) (d:∀i∈l,i∈Q) (n:Nat) (o:Obj):lk n (Ar ops en τ l).objs=some o↔(∃i∈l,lk n (en i).obs=some o)\/((∀i∈l,lk n (en i).obs=none)/\lk n τ.objs=some o):=by
 rw[Fk,BB];cases hf:lk n (l.flatMap λj=>(en j).obs) with
 | some e =>
  obtain⟨j,c,a⟩:=qA hf;simp only[AFl];constructor
  ·grind
  ·rintro (⟨i,hi,b⟩|⟨hn,_⟩)
   ·have:=h.name i (d i hi) j (d j c) n o e b a;subst this;rw[<-a,b]
   ·rw[hn j c]at a;cases a
 | none =>
  have hn:=Kq hf;simp only[Option.none_or];constructor
  ·grind
  ·grind
theorem zP {Q l A:List Nat} (h:Own ops en τ Q) (k:∀i∈l,i∈Q) (m:∀i∈A,i∈l):Rv (Ar ops en τ A) (Ar ops en τ l) (Ar ops en ⟨[],[]⟩ (l.filter λi=>!Ac i A)):=by
 have h0:Own ops en ⟨[],[]⟩ Q:=⟨h.slot,λ_ _ _ _ _=>rfl,h.name⟩;have hf:∀i∈l.filter (λi=>!Ac i A),i∈Q:=λi hi=>k i (ADj.1 hi).1;have p:∀i∈A,i∈Q:=λi hi=>k i (m i hi);have g:∀i,i∈l.filter (λi=>!Ac i A)↔i∈l/\i∉A:=λi=>by grind [Al,Ac]
 refine⟨λs=>AFn λv=>?_,λn=>AFn λo=>?_⟩
 ·rw[lkE h k,Option.or_eq_some_iff,lkE h0 hf,lkE h p];constructor
  ·rintro (⟨i,hi,d,a⟩|⟨hn,a⟩)
   ·by_cases c:i∈A
    ·refine .inr ⟨?_,.inl ⟨i,c,d,a⟩⟩;cases b:lk s (Ar ops en ⟨[],[]⟩ (l.filter λi=>!Ac i A)).env with
     | none=>rfl
     | some u =>
      rcases (lkE h0 hf s u).1 b with ⟨j,e,f,_⟩|⟨_,b⟩
      ·have:=h.slot i (k i hi) j (hf j e) s d f;subst this;exact absurd c ((g i).1 e).2
      ·cases b
    ·exact .inl (.inl ⟨i,(g i).2 ⟨hi,c⟩,d,a⟩)
   ·refine .inr ⟨?_,.inr ⟨λi hi=>hn i (m i hi),a⟩⟩;cases b:lk s (Ar ops en ⟨[],[]⟩ (l.filter λi=>!Ac i A)).env with
    | none=>rfl
    | some u =>
     rcases (lkE h0 hf s u).1 b with ⟨j,e,f,_⟩|⟨_,b⟩
     ·exact absurd f (hn j ((g j).1 e).1)
     ·cases b
  ·rintro ((⟨i,hi,d,a⟩|⟨_,a⟩)|⟨b,⟨i,hi,d,a⟩|⟨hn,a⟩⟩)
   ·grind
   ·cases a
   ·grind
   ·refine .inr ⟨λi hi d=>?_,a⟩;by_cases c:i∈A
    ·exact hn i c d
    ·have:=(lkE h0 hf s (en i).v).2 (.inl ⟨i,(g i).2 ⟨hi,c⟩,d,rfl⟩);rw[b]at this;cases this
 ·rw[lkO h k,Option.or_eq_some_iff,lkO h0 hf,lkO h p];constructor
  ·rintro (⟨i,hi,a⟩|⟨hn,a⟩)
   ·by_cases c:i∈A
    ·refine .inr ⟨?_,.inl ⟨i,c,a⟩⟩;cases b:lk n (Ar ops en ⟨[],[]⟩ (l.filter λi=>!Ac i A)).objs with
     | none=>rfl
     | some u =>
      rcases (lkO h0 hf n u).1 b with ⟨j,e,f⟩|⟨_,b⟩
      ·have:=h.name i (k i hi) j (hf j e) n _ _ a f;subst this;exact absurd c ((g i).1 e).2
      ·cases b
    ·exact .inl (.inl ⟨i,(g i).2 ⟨hi,c⟩,a⟩)
   ·refine .inr ⟨?_,.inr ⟨λi hi=>hn i (m i hi),a⟩⟩;cases b:lk n (Ar ops en ⟨[],[]⟩ (l.filter λi=>!Ac i A)).objs with
    | none=>rfl
    | some u =>
     rcases (lkO h0 hf n u).1 b with ⟨j,e,f⟩|⟨_,b⟩
     ·rw[hn j ((g j).1 e).1]at f;cases f
     ·cases b
  ·rintro ((⟨i,hi,a⟩|⟨_,a⟩)|⟨b,⟨i,hi,a⟩|⟨hn,a⟩⟩)
   ·grind
   ·cases a
   ·grind
   ·refine .inr ⟨λi hi=>?_,a⟩;by_cases c:i∈A
    ·exact hn i c
    ·cases d:lk n (en i).obs with
     | none=>rfl
     | some u =>
      have:=(lkO h0 hf n u).2 (.inl ⟨i,(g i).2 ⟨hi,c⟩,d⟩);rw[b]at this;cases this
end
def A2k (tb:Tb) (ops:List Oper) (τ:St) (en:Nat->En) (pre:List Nat) (i:Nat) (o:Oper):Prop :=
 ∃vc:Prop,aq tb ⟨(Ar ops en τ pre).env,B4 false (HI o.op) τ.objs (ES ops en pre)⟩ (o.dst.getD 0) o.op=some (vc,(en i).v,(en i).obs)/\vc
theorem gD {ts:List Nat} {base:List (Nat×Obj)} {d:Nat} {obs:List (Nat×Obj)} {E:List (Nat×List (Nat×Obj))}:B4 false ts base (Ju d obs E)=B4 false ts base ((d,obs) :: E):=by
 cases obs with
 | nil=>simp only[Ju,B4,AE7];split<;>rfl
 | cons x r=>rfl
theorem A2l {o:Op} {base:List (Nat×Obj)} {E:List (Nat×List (Nat×Obj))}:L8 false o base E=B4 false (HI o) base E:=by
 cases E<;>rfl
theorem Y0 {tb:Tb} {ops:List Oper} {τ:St} {en:Nat->En}:∀ {Q:List Nat} {ens:EN} {pre:List Nat} {E:List (Nat×List (Nat×Obj))} {vc:Prop},mB tb ops τ.objs Q E (Ar ops en τ pre).env=some (vc,ens)->vc ->
  (∀ts,B4 false ts τ.objs E=B4 false ts τ.objs (ES ops en pre))->(∀(j i:Nat) (e:Nat×AV×List (Nat×Obj)),Q[j]?=some i->ens[j]?=some e->en i=⟨true,e.2.1,e.2.2⟩) ->
  ens.length=Q.length/\∀(j i:Nat),Q[j]?=some i->∃(o:Oper) (e:Nat×AV×List (Nat×Obj)),ops[i]?=some o/\ens[j]?=some e/\Aj ops i=some e.1/\A2k tb ops τ en ((Q.take j).reverse++pre) i o
 | [],ens,pre,E,vc,h,q,g,m=>by grind [mB]
 | i :: Q,ens,pre,E,vc,h,q,g,m=>by
  simp only[mB]at h;cases b:ops[i]? with
  | none=>rw[b]at h;simp[gB]at h
  | some o =>
   rw[b]at h;simp only[gB]at h;cases a:o.dst with
   | none=>rw[a]at h;simp[bU]at h
   | some d =>
    cases c:aq tb ⟨(Ar ops en τ pre).env,L8 false o.op τ.objs E⟩ (o.dst.getD 0) o.op with
    | none=>rw[c,a]at h;simp[bU]at h
    | some r =>
     obtain⟨y,v,obs⟩:=r;rw[c,a]at h;simp only[bU]at h;cases n:mB tb ops τ.objs Q (Ju d obs E) ((d,v) :: (Ar ops en τ pre).env) with
     | none=>rw[n]at h;simp[gC]at h
     | some p =>
      obtain⟨A,z⟩:=p;rw[n]at h;simp only[gC]at h;cases h;have hi:=m 0 i (d,v,obs) rfl rfl;have l:Aj ops i=some d:=by simp[Aj,b,a]
      have w:(Ar ops en τ (i :: pre)).env=(d,v) :: (Ar ops en τ pre).env:=by simp[Ar,l,St.add,hi]
      have s:=Y0 (pre:=i :: pre) (by rw[w];exact n) q.2 (λts=>by
       rw[gD];simp only[ES,Rp,l,AF2,hi,B4];rw[g ts];rfl) (λj k e h1 f=>m (j+1) k e (by simpa using h1) (by simpa using f))
      refine⟨by simp[s.1],λj k hk=>?_⟩;cases j with
      | zero =>
       simp only[AEy,ADx]at hk;subst hk;refine⟨o,(d,v,obs),b,rfl,l,y,?_,q.1⟩;rw[A2l,g]at c;simp only[ADy,List.reverse_nil,AE7];rw[hi];exact c
      | succ j =>
       obtain⟨x,e,h1,f,t,u⟩:=s.2 j k (by simpa using hk);refine⟨x,e,h1,by simpa using f,t,?_⟩;simpa[AA4] using u
theorem SI:∀ {ens:EN} {objs:List (Nat×Obj)},SG ens objs=true->∀(j:Nat) (e:Nat×AV×List (Nat×Obj)),ens[j]?=some e->∀n o,lk n e.2.2=some o->lk n objs=none/\∀(b:Nat) (a:Nat×AV×List (Nat×Obj)) (c:Obj),ens[b]?=some a->lk n a.2.2=some c->j=b
 | [],objs,_,j,e,h=>by simp at h
 | (d,v,obs) :: r,objs,h,j,e,f=>by
  simp only[SG,AT,If,tO]at h;have h0:∀n o,lk n obs=some o->lk n objs=none:=λn o hn=>h.1 _ (F5 hn);have g:=SI h.2;grind [lk,BB]
end
section
open Go Go.RowKit
structure Y2 (ops:Array Oper) (anc:List (List Nat)):Prop where
 lt:∀i o,ops[i]?=some o->∀e∈EE o,e<i
 cl:∀i o,ops[i]?=some o->∀j∈anc.getD i [],j∈EE o\/∃e∈EE o,j∈anc.getD e []
theorem AAC {ops:Array Oper} {anc:List (List Nat)} (h:A9m ops.toList anc=true):Y2 ops anc:=by
 simp only[A9m,If,Ri]at h;have hi:∀i o,ops[i]?=some o->((EE o).all λe=>decide (e<i))=true/\((anc.getD i []).all λj=>Ac j (EE o)||(EE o).any λe=>Ac j (anc.getD e []))=true:=by grind
 refine⟨λi o a e b=>?_,λi o a j c=>?_⟩
 ·grind
 ·grind [Al]
section
variable {ops:Array Oper} {k:Nat} {anc:List (List Nat)} {Q:Exit->Act->World->Prop}
theorem Tk (a:Y2 ops anc) {listed:Array Bool} (g:∀i o,ops[i]?=some o->listed.getD i true=true->∀e∈EE o,listed.getD e false=true) :
  ∀i o,ops[i]?=some o->(∀e∈EE o,listed.getD e false=true)->∀j∈anc.getD i [],listed.getD j false=true:=by
 intro i;induction i using Nat.strongRecOn with
 | _ i l =>
  intro o b c j f;rcases a.cl i o b j f with h1|⟨e,d,h⟩
  ·exact c j h1
  ·have k:=a.lt i o b e d;grind
theorem SJ {F:Fence} {P:Program} (g:Y2 ops anc) (q:∀i o,ops[i]?=some o->k<=i->∀j,j<i->j∈anc.getD i []):∀ {rest:List Oper} {p:Nat} {listed:Array Bool} {a:Act} {w:World},ops.toList.drop p=rest->k<=p->p<=ops.size->listed.size=ops.size ->
  (∀i,i<ops.size->(listed.getD i true=true↔i<p))->wpListIn F 0 P ops Q rest a w->wpAnyIn F 0 P .any ops Q rest.length listed a w
 | [],p,listed,a,w,l,C,D,m,f,c=>by
  have hp:p=ops.size:=by
   have:=ADB List.length l;simp at this;omega
  refine⟨?_,c⟩;apply AEZ.2;grind [Dl]
 | o :: r,p,listed,a,w,l,C,D,m,f,c=>by
  obtain⟨d,v⟩:=Yv l;have d:ops[p]?=some o:=by simpa using d
  have E:p<ops.size:=(S9.1 d).1;have x:∀e b,e<ops.size->listed.getD e b=listed.getD e true:=λe b h=>by grind
  have L:∀i o,ops[i]?=some o->listed.getD i true=true->∀e∈EE o,listed.getD e false=true:=by
   intro i o u h1 e h;have H:i<ops.size:=(S9.1 u).1;have J:=(f i H).1 h1;have K:=g.lt i o u e h;grind
  have G:∀i,i∈Region.ready .any ops listed->i=p:=by grind [Dl,Tk]
  refine⟨λM=>?_,λi hi=>?_⟩
  ·exfalso;have:p∈Region.ready .any ops listed:=by
    rw[Dl];refine⟨?_,o,d,λe h=>?_⟩
    ·cases hh:listed.getD p true with
     | false=>rfl
     | true=>have:=(f p E).1 hh;omega
    ·have:=g.lt p o d e h;rw[x e false (by omega)];exact(f e (by omega)).2 this
   grind
  ·have z:=G i hi;subst z;have t:∀(j:Nat),j<ops.size->((listed.setIfInBounds i true).getD j true=true↔j<i+1):=by
    intro j A;have B:j<listed.size:=by omega
    by_cases s:j=i
    ·subst s;simp[Array.getD,B]
    ·have h1:(listed.setIfInBounds i true).getD j true=listed.getD j true:=getD_set_ne true (λe=>s e.symm);rw[h1,f j A];omega
   unfold wpOpIn;rw[d];simp only;unfold wpListIn at c;split
   ·rename_i n;rw[BY n]at c;exact Oper.wpIn_mono (λI w' y=>SJ g q v.symm (by omega) (by omega) (by simpa using m) t y) c
   ·rename_i n;rw[An n]at c;exact⟨c.1,SJ g q v.symm (by omega) (by omega) (by simpa using m) t c.2⟩
end
structure QOk (ops:List Oper) (anc:List (List Nat)) (L Q:List Nat):Prop where
 nodup:Q.Nodup
 pos:∀(j i:Nat),Q[j]?=some i->i∉L/\∃o,ops[i]?=some o/\o.guard=none/\(∀e∈EE o,e∈L\/e∈Q.take j)/\(∀t∈HI o.op,∀k∈Q,Aj ops k=some t->k∈anc.getD i []/\k∈Q.take j)
 slot:∀i∈Q,∀j∈Q,∀s,Aj ops i=some s->Aj ops j=some s->i=j
theorem gE {ops:List Oper} {anc:List (List Nat)} {L Q:List Nat}:∀ {r pre:List Nat},qB1 ops anc L Q r pre=true ->
  (∀(j i:Nat),r[j]?=some i->i∉L/\i∉pre/\i∉r.take j/\∃o,ops[i]?=some o/\o.guard=none/\(∀e∈EE o,e∈L\/e∈pre\/e∈r.take j)/\(∀t∈HI o.op,∀k∈Q,Aj ops k=some t->k∈anc.getD i []/\(k∈pre\/k∈r.take j)) /\
   ∀k,k∈pre\/k∈r.take j->Aj ops k≠Aj ops i)
 | [],pre,h,j,i,a=>by simp at a
 | x :: r,pre,h,j,i,a=>by
  simp only[qB1,AT]at h;obtain⟨h1,s⟩:=h;cases j with
  | zero =>
   simp only[AEy,ADx]at a;subst a;cases f:ops[x]? with
   | none=>rw[f]at h1;cases h1
   | some o =>
    rw[f]at h1;simp only[AT,If,S8,Al,AEN,RZ,tO]at h1;obtain⟨⟨⟨⟨⟨⟨A,q⟩,B⟩,C⟩,D⟩,c⟩,d⟩:=h1;refine⟨λh=>(by rw[(Al _ _).2 h]at c;cases c),λh=>(by rw[(Al _ _).2 h]at d;cases d),by simp,o,rfl,q,λe v=>?_,λt w k hk u=>?_,λk hk=>?_⟩
    ·grind
    ·grind
    ·grind [Aj]
  | succ j =>
   obtain⟨g,b,l,o,m,n,y,z,p⟩:=gE s j i (by simpa using a);simp only[DO,not_or]at b;refine⟨g,b.2,by simp[AA4,b.1,l],o,m,n,λe v=>?_,λt w k hk u=>?_,λk hk=>p k ?_⟩
   ·grind
   ·grind
   ·grind
theorem gF {α:Type} {l:List α} {i j:Nat} {x:α} (h:l[i]?=some x) (a:i<j):x∈l.take j:=by
 rw[To];exact⟨i,by rw[Rs,BY a];exact h⟩
theorem qOk {ops:List Oper} {anc:List (List Nat)} {L Q:List Nat} (h:qB1 ops anc L Q Q []=true):QOk ops anc L Q:=by
 have hs:=gE h;have m:∀ {i j x y:Nat},Q[i]?=some x->Q[j]?=some y->i<j->x≠y/\Aj ops x≠Aj ops y:=by grind [gF]
 refine⟨?_,λj i c=>?_,λi hi j c s h1 q=>?_⟩
 ·rw[List.nodup_iff_pairwise_ne,Rh];intro i j hi c l e;exact(m (At hi) (At c) l).1 e
 ·obtain⟨d,_,_,o,f,g,n,p,_⟩:=hs j i c;refine⟨d,o,f,g,λe v=>?_,λt w k hk u=>?_⟩
  ·grind
  ·grind
 ·obtain⟨a,ha⟩:=To.1 hi;obtain⟨b,r⟩:=To.1 c;grind
theorem mE:∀ {Q:List Nat} {ens:EN},Q.Nodup->∀(j i:Nat) (e:Nat×AV×List (Nat×Obj)),Q[j]?=some i->ens[j]?=some e->Oh Q ens i=⟨true,e.2.1,e.2.2⟩
 | [],ens,_,j,i,e,h,_=>by simp at h
 | x :: Q,[],_,j,i,e,_,h=>by simp at h
 | x :: Q,f :: ens,hn,j,i,e,h1,a=>by
  cases j with
  | zero =>
   simp only[AEy,ADx]at h1 a;subst h1;subst a;simp[Oh,AFd,lk]
  | succ j =>
   have h1:Q[j]?=some i:=by simpa using h1
   have b:i≠x:=λe=>by grind
   have:=mE (TO.1 hn).2 j i e h1 (by simpa using a);simp only[Oh,AFd,lk,An b]at this ⊢;exact this
structure Fr (tb:Tb) (ops:List Oper) (anc:List (List Nat)) (L Q:List Nat) (ens:EN) (τ:St):Prop where
 q:QOk ops anc L Q
 len:ens.length=Q.length
 own:Own ops (Oh Q ens) τ Q
 at_:∀(j i:Nat),Q[j]?=some i->∃(o:Oper) (e:Nat×AV×List (Nat×Obj)),ops[i]?=some o/\ens[j]?=some e/\Aj ops i=some e.1/\Oh Q ens i=⟨true,e.2.1,e.2.2⟩/\A2k tb ops τ (Oh Q ens) (Q.take j).reverse i o
theorem A2m {tb:Tb} {ops:List Oper} {anc:List (List Nat)} {L Q:List Nat} {ens:EN} {τ:St} (d:QOk ops anc L Q) (h:A9l tb ops Q ens τ):Fr tb ops anc L Q ens τ:=by
 obtain⟨vc,h1,p,q⟩:=h;have u:=λ(j i:Nat) (e:Nat×AV×List (Nat×Obj))=>mE (ens:=ens) d.nodup j i e;obtain⟨t,hf⟩:=Y0 (en:=Oh Q ens) (pre:=[]) h1 p (λts=>rfl) u;have k:∀i∈Q,∃(j:Nat) (e:Nat×AV×List (Nat×Obj)),Q[j]?=some i/\ens[j]?=some e/\Oh Q ens i=⟨true,e.2.1,e.2.2⟩:=by
  intro i hi;obtain⟨j,c⟩:=To.1 hi;grind
 refine⟨d,t,⟨d.slot,λi hi n o hn=>?_,λi hi j c n o x f g=>?_⟩,λj i c=>?_⟩
 ·grind [SI]
 ·obtain⟨a,e,ha,r,v⟩:=k i hi;obtain⟨b,m,l,s,w⟩:=k j c;rw[v]at f;rw[w]at g;have:=(SI q a e r n o f).2 b m x s g;subst this;rw[ha]at l;injection l
 ·grind
theorem zQ {ops:List Oper} {en:Nat->En} {τ:St} {Q:List Nat} (h:Own ops en τ Q) {ts pre ex:List Nat} (hp:∀j∈pre,j∈Q) (e:∀j∈ex,j∈Q) (d:∀j∈pre,Ac ((Aj ops j).getD 0) ts=true->j∈ex) {n:Nat} {o:Obj} :
  lk n (B4 false ts τ.objs (ES ops en pre))=some o->lk n (Ar ops en τ ex).objs=some o:=by
 rw[lkO h e];induction pre with
 | nil =>
  simp only[ES,AEY,B4];intro hn;refine .inr ⟨λj b=>?_,hn⟩;cases a:lk n (en j).obs with
  | none=>rfl
  | some f=>have:=h.new j (e j b) n f a;rw[this]at hn;cases hn
 | cons i r c =>
  simp only[ES,Rp,B4];have c:=c (λj b=>hp j (by simp[b])) (λj b=>d j (by simp[b]));split
  ·rename_i g;intro hn;rw[BB]at hn;cases a:lk n (en i).obs with
   | some f =>
    rw[a]at hn;simp only[AFl]at hn;cases hn;exact .inl ⟨i,d i (by simp) (by simpa using g),a⟩
   | none =>
    rw[a]at hn;exact c (by simpa[ES] using hn)
  ·exact c
theorem NG {p:Nat×Obj}:∀ {l:List (Nat×Obj)},p∈l->∃b,lk p.1 l=some b
 | (c,d) :: r,h=>by
  simp only[lk];by_cases a:p.1=c
  ·simp_all
  ·rw[An a];rcases DO.1 h with rfl|h
   ·exact absurd rfl a
   ·exact NG h
theorem mF {c:Cx} (y:c.Ok) {ops:List Oper} {anc:List (List Nat)} {L Q:List Nat} {ens:EN} {τ:St} (hF:Fr c.tb ops anc L Q ens τ) {ex:List Nat} (h:∀i∈ex,i∈Q) {j i:Nat} {o:Oper} (m:Q[j]?=some i) (s:ops[i]?=some o) (ai:i∉ex)
  (ab:∀k∈anc.getD i [],k∈Q->k∈ex) (I:∀d,o.dst=some d->d<c.nt) {a:Act} {w:World} {next:Act->World->Prop} {Qe:Exit->Act->World->Prop} (hs:c.sat (Ar ops (Oh Q ens) τ ex) a w)
  (hn:∀A w',c.sat (Ar ops (Oh Q ens) τ (i :: ex)) A w'->next A w'):o.wpIn (FR c.r) 0 c.P a w next Qe:=by
 obtain⟨l,e,D,ae,aa,am,vc,T,W⟩:=hF.at_ j i m;rw[s]at D;cases D;obtain⟨_,an,E,_,_,al⟩:=hF.q.pos j i m;rw[s]at E;cases E;have z:∀k∈(Q.take j).reverse,k∈Q:=λk hk=>gO (by simpa using hk);have S:Ops ⟨(Ar ops (Oh Q ens) τ (Q.take j).reverse).env,B4 false (HI o.op) τ.objs (ES ops (Oh Q ens) (Q.take j).reverse)⟩ (Ar ops (Oh Q ens) τ ex) o.op.operands.toList:=by
  intro x X v b;cases x with
  | tmp t =>
   simp only[Am]at b ⊢;have ak:t∈HI o.op:=AFh.2 ⟨_,X,rfl⟩;rw[lkE hF.own z]at b;rw[lkE hF.own h];rcases b with ⟨k,hk,af,ag⟩|⟨aj,b⟩
   ·grind
   ·grind
  | const ao=>exact b
  | global g=>exact b
  | func f=>exact b
 have R:eL ⟨(Ar ops (Oh Q ens) τ (Q.take j).reverse).env,B4 false (HI o.op) τ.objs (ES ops (Oh Q ens) (Q.take j).reverse)⟩ (Ar ops (Oh Q ens) τ ex):=by
  intro n l hn;refine zQ hF.own z h (λk hk ah=>?_) hn;obtain⟨Y,J⟩:=To.1 (z k hk);obtain⟨_,Z,_,_,ad,_⟩:=hF.at_ Y k J;grind [Al]
 have U:=Un R S T;have C:=iF m;have B:Bi (Oh Q ens i).obs (Ar ops (Oh Q ens) τ ex)=true:=by
  simp only[Bi,If,tO];intro p hp;obtain⟨l,F⟩:=NG hp;cases N:lk p.1 (Ar ops (Oh Q ens) τ ex).objs with
  | none=>rfl
  | some u =>
   rcases (lkO hF.own h p.1 u).1 N with ⟨k,hk,M⟩|⟨_,hu⟩
   ·have:=hF.own.name i C k (h k hk) p.1 l u F M;grind
   ·rw[hF.own.new i C p.1 l F]at hu;cases hu
 obtain⟨ρ,G⟩:=hs;refine pW (A5w y G) U W B λu ρ' w' V=>hn _ _ ?_;have H:Aj ops i=o.dst:=by simp[Aj,s]
 simp only[Ar,H];exact⟨ρ',G.add y.K y.O I B V⟩
end
section
open Go Go.RowKit
theorem MF:∀ {l l':List Nat},l.Nodup->(∀x∈l,x∈l')->l.length<=l'.length
 | [],_,_,_=>by simp
 | x :: l,l',hn,h=>by
  have b:=h x (by simp);have:=MF (l:=l) (l':=l'.erase x) (TO.1 hn).2 (λy a=>by
   have:y≠x:=λe=>(TO.1 hn).1 (e▸a);exact(AF6 this).2 (h y (by simp[a])))
  grind
theorem I8 (A:List Nat) (l:Nat) (a:List (List Nat×Nat)) (D:List Nat):qs ((A,l) :: a) D=A++qs a D:=by simp[qs]
structure AAD (ops:List Oper) (anc:List (List Nat)) (p0:Nat) (L:List Nat) (ps:List (List Nat×Nat)) (D:List Nat):Prop where
 all:∀i,i<p0->i∈L\/i∈qs ps D\/i∈ps.map (·.2)
 back:∀i,p0<=i->i<ops.length->∀j,j<i->j∈anc.getD i []
 L:∀i∈L,i<p0
 Q:∀i∈qs ps D,i<p0
 lo:∀p∈ps,p.2<p0
 p0:p0<=ops.length
theorem Vz {ops:List Oper} {anc:List (List Nat)} {p0:Nat} {L D:List Nat} (h:UX ops anc p0 L [] D=true):QOk ops anc L D/\(∀i,i<p0->i∈L\/i∈D)/\L.length+D.length=p0/\p0<=ops.length/\(∀i∈L,i<p0)/\(∀i∈D,i<p0)/\(∀i,p0<=i->i<ops.length->∀j,j<i->j∈anc.getD i []):=by
 simp only[UX,AT,If,Ri,S8,Ff,Al]at h;grind [qOk]
theorem J0 {ops:List Oper} {anc:List (List Nat)} {p0:Nat} {L D A:List Nat} {l:Nat} {b:List (List Nat×Nat)} (h:UX ops anc p0 L ((A,l) :: b) D=true):QOk ops anc L (A++qs b D)/\(∃o,ops[l]?=some o/\o.guard=none/\(∀e∈EE o,e∈L\/e∈A))/\(∀j∈A,j∈anc.getD l [])/\l∉L/\l∉A++qs b D/\(∀p∈b,l∈anc.getD p.2 [])/\UX ops anc p0 (l :: (A++L)) b D=true:=by
 simp only[UX,AT,If,Al]at h;obtain⟨⟨⟨h1,a⟩,m⟩,n⟩:=h;cases f:ops[l]? with
 | none=>rw[f]at a;cases a
 | some o =>
  rw[f]at a;simp only[AT,If,S8,Al,RZ,tO]at a;obtain⟨⟨⟨⟨g,i⟩,k⟩,c⟩,d⟩:=a;exact⟨qOk h1,⟨o,rfl,g,i⟩,k,λh=>(by rw[(Al _ _).2 h]at c;cases c),λh=>(by rw[(Al _ _).2 h]at d;cases d),m,n⟩
theorem V0 {ops:List Oper} {anc:List (List Nat)} {p0:Nat}:∀ {b:List (List Nat×Nat)} {L D:List Nat},UX ops anc p0 L b D=true->AAD ops anc p0 L b D
 | [],L,D,h=>by
  obtain⟨_,h1,g,c,d,e,f⟩:=Vz h;refine⟨λi hi=>?_,f,d,by simpa[qs] using e,by simp,c⟩;grind [qs]
 | (A,l) :: b,L,D,h=>by
  obtain⟨_,_,_,_,_,_,h1⟩:=J0 h;have a:=V0 h1;refine⟨λi hi=>?_,a.back,λi hi=>a.L i (by simp[hi]),λi hi=>?_,λp hp=>?_,a.p0⟩
  ·rcases a.all i hi with h|h|h
   ·grind [I8]
   ·grind [I8]
   ·grind
  ·rw[I8,No]at hi;rcases hi with hi|hi
   ·exact a.L i (by simp[hi])
   ·exact a.Q i hi
  ·rcases DO.1 hp with rfl|hp
   ·exact a.L l (by simp)
   ·exact a.lo p hp
theorem bV {ops:List Oper} {en:Nat->En} {τ:St}:∀ {Q:List Nat} {ens:EN} {pre:List Nat},ens.length=Q.length->(∀(j i:Nat) (e:Nat×AV×List (Nat×Obj)),Q[j]?=some i->ens[j]?=some e->Aj ops i=some e.1/\en i=⟨true,e.2.1,e.2.2⟩) ->
  ME ens (Ar ops en τ pre)=Ar ops en τ (Q.reverse++pre)
 | [],[],pre,_,_=>rfl
 | [],_ :: _,_,h,_=>by simp at h
 | _ :: _,[],_,h,_=>by simp at h
 | i :: Q,(d,v,obs) :: ens,pre,f,h=>by
  obtain⟨h1,a⟩:=h 0 i (d,v,obs) rfl rfl;have:(⟨(d,v) :: (Ar ops en τ pre).env,obs++(Ar ops en τ pre).objs⟩:St)=Ar ops en τ (i :: pre):=by simp[Ar,h1,a,St.add]
  simp only[ME];rw[this,bV (by simpa using f) (λj k e b c=>h (j+1) k e (by simpa using b) (by simpa using c))];simp
section
variable {c:Cx} {ops:Array Oper} {anc:List (List Nat)} {p0:Nat} {Kf:St->Prop} {Qe:Exit->Act->World->Prop}
theorem A2n {a:List (List Nat×Nat)} {L D:List Nat} {ens:EN} {τ:St} (b:UX ops.toList anc p0 L a D=true) (d:Mix c ops.toList Kf a D ens τ):Fr c.tb ops.toList anc L (qs a D) ens τ:=by
 cases a with
 | nil =>
  have:qs [] D=D:=rfl;rw[this];exact A2m (Vz b).1 d.1
 | cons p a =>
  obtain⟨A,l⟩:=p;rw[I8];exact A2m (J0 b).1 d.1
theorem Y3 (x:Y2 ops anc) {a:List (List Nat×Nat)} {L D:List Nat} {ex:List Nat} {listed:Array Bool} (w:UX ops.toList anc p0 L a D=true) (v:QOk ops.toList anc L (qs a D)) (u:∀i∈ex,i∈qs a D) (I:listed.size=ops.size)
  (H:∀i,i<ops.size->(listed.getD i true=true↔i∈L\/i∈ex)) (hf:¬(a=[]/\∀i∈qs a D,i∈ex)):∃i,i∈Region.ready .any ops listed:=by
 have C:∀e b,e<ops.size->listed.getD e b=listed.getD e true:=λe b c=>by grind
 have mk:∀i o,ops[i]?=some o->i∉L->i∉ex->(∀e∈EE o,e∈L\/e∈ex)->i∈Region.ready .any ops listed:=by
  intro i o f h1 k E;have J:i<ops.size:=(S9.1 f).1;rw[Dl];refine⟨?_,o,f,λe c=>?_⟩
  ·grind
  ·have F:=x.lt i o f e c;grind
 by_cases t:∀i∈qs a D,i∈ex
 ·cases a with
  | nil=>exact absurd ⟨rfl,t⟩ hf
  | cons p a =>
   obtain⟨A,l⟩:=p;rw[I8]at t u;obtain⟨_,⟨o,f,_,y⟩,_,h1,k,_,_⟩:=J0 w;refine⟨l,mk l o (by simpa using f) h1 (λh=>k (u l h)) λe c=>?_⟩;rcases y e c with h|h
   ·exact .inl h
   ·grind
 ·have key:∀(n j:Nat),j<=n->(∃i,(qs a D)[j]?=some i/\i∉ex)->∃i,i∈Region.ready .any ops listed:=by
   intro n;induction n with
   | zero =>
    rintro j s ⟨i,hi,d⟩;have:j=0:=by omega
    subst this;obtain⟨m,o,q,_,r,_⟩:=v.pos 0 i hi;refine⟨i,mk i o (by simpa using q) m d λe c=>?_⟩;rcases r e c with h|h
    ·exact .inl h
    ·simp at h
   | succ n B =>
    rintro j s ⟨i,hi,d⟩;by_cases z:∃g,g<j/\∃i',(qs a D)[g]?=some i'/\i'∉ex
    ·obtain⟨g,h1,k⟩:=z;exact B g (by omega) k
    ·obtain⟨m,o,q,_,r,_⟩:=v.pos j i hi;refine⟨i,mk i o (by simpa using q) m d λe c=>?_⟩;rcases r e c with h|h
     ·exact .inl h
     ·right;obtain⟨g,G⟩:=To.1 h;grind
  have:∃i,i∈qs a D/\i∉ex:=by grind
  obtain⟨i,hi,d⟩:=this;obtain⟨j,s⟩:=To.1 hi;exact key j j (NO _) ⟨i,s,d⟩
theorem Y4 (G:Y2 ops anc) (hT:∀τ,Kf τ->∀a w,c.sat τ a w->wpListIn (FR c.r) 0 c.P ops Qe (ops.toList.drop p0) a w) {m:Nat} {L D:List Nat} {ens:EN} {τ:St} {ex:List Nat} {listed:Array Bool} {a:Act} {w:World}
  (C:UX ops.toList anc p0 L [] D=true) (g:Mix c ops.toList Kf [] D ens τ) (M:(L++ex).Nodup) (b:∀i∈ex,i∈D) (W:m+L.length+ex.length=ops.size) (J:listed.size=ops.size) (I:∀i,i<ops.size->(listed.getD i true=true↔i∈L\/i∈ex))
  (hs:c.sat (Ar ops.toList (Oh D ens) τ ex) a w) (d:∀i∈D,i∈ex):wpAnyIn (FR c.r) 0 c.P .any ops Qe m listed a w:=by
 obtain⟨q,h1,S,y,T,U,z⟩:=Vz C;have hF:=A2m q g.1;have V:ex.length=D.length:=AEi (MF (ADF.1 M).2.1 b) (MF q.nodup d);have K:m=(ops.toList.drop p0).length:=by grind
 have E:ME ens τ=Ar ops.toList (Oh D ens) τ D.reverse:=by
  have:=bV (ops:=ops.toList) (en:=Oh D ens) (τ:=τ) (pre:=[]) hF.len (λj i e A B=>by
   obtain⟨o,R,_,f,u,x,_⟩:=hF.at_ j i A;rw[B]at f;cases f;exact⟨u,x⟩)
  simpa[Ar] using this
 have O:c.sat (ME ens τ) a w:=by
  rw[E];have t:∀i∈D.reverse,i∈D:=λi hi=>by simpa using hi
  have l:∀i,i∈ex↔i∈D.reverse:=λi=>⟨λh=>by simpa using b i h,λh=>d i (by simpa using h)⟩;refine Vr (λs=>AFn λv=>?_) (λn=>AFn λo=>?_) hs
  ·rw[lkE hF.own t,lkE hF.own b];simp only[l]
  ·rw[lkO hF.own t,lkO hF.own b];simp only[l]
 have:=SJ (Q:=Qe) (F:=FR c.r) (P:=c.P) G (k:=p0) (λi o N hi j H=>z i hi (by have:=(S9.1 N).1;simpa using this) j H) (rest:=ops.toList.drop p0) (p:=p0) (listed:=listed) (a:=a) (w:=w) rfl (NO _) (by simpa using y) J
  (λi hi=>by
   rw[I i hi];constructor
   ·grind
   ·intro h;rcases h1 i h with h|h
    ·exact .inl h
    ·exact .inr (d i h)) (hT _ g.2 a w O)
 rw[K];exact this
theorem A5E (ch:c.Ok) (bx:∀o∈ops.toList,Jr c.nt o=true) (ab:Y2 ops anc) (hT:∀τ,Kf τ->∀a w,c.sat τ a w->wpListIn (FR c.r) 0 c.P ops Qe (ops.toList.drop p0) a w) :
  ∀(m:Nat) (f:List (List Nat×Nat)) (L D:List Nat) (ens:EN) (τ:St) (ex:List Nat) (listed:Array Bool) (a:Act) (w:World),UX ops.toList anc p0 L f D=true->Mix c ops.toList Kf f D ens τ->(L++ex).Nodup->(∀i∈ex,i∈qs f D) ->
   m+L.length+ex.length=ops.size->listed.size=ops.size->(∀i,i<ops.size->(listed.getD i true=true↔i∈L\/i∈ex))->(∀i o,ops[i]?=some o->(i∈L\/i∈ex)->∀e∈EE o,e∈L\/e∈ex) ->
   c.sat (Ar ops.toList (Oh (qs f D) ens) τ ex) a w->wpAnyIn (FR c.r) 0 c.P .any ops Qe m listed a w:=by
 intro m;induction m with
 | zero =>
  intro f L D ens τ ex listed a w C T H B ax U O ae hs;have hF:=A2n C T;by_cases hf:f=[]/\∀i∈qs f D,i∈ex
  ·obtain⟨rfl,aq⟩:=hf;exact Y4 ab hT C T H B ax U O hs aq
  ·exfalso;obtain⟨i,hi⟩:=Y3 ab C hF.q B U O hf;rw[Dl]at hi;obtain⟨h1,o,E,_⟩:=hi;have X:i<ops.size:=(S9.1 E).1;have I:i∉L++ex:=λh=>by grind
   have N:=V0 C;have:=EJ ops.size (i :: (L++ex)) (TO.2 ⟨I,H⟩) (λj d=>by
    have hp:=N.p0;simp only[AF9]at hp;rcases DO.1 d with rfl|d
    ·exact X
    ·rcases No.1 d with d|d
     ·have:=N.L j d;omega
     ·have:=N.Q j (B j d);omega)
   grind
 | succ m bj =>
  intro f L D ens τ ex listed a w C T H B ax U O ae hs;have hF:=A2n C T;have N:=V0 C;have bn:∀e b,e<ops.size->listed.getD e b=listed.getD e true:=λe b F=>by grind
  by_cases hf:f=[]/\∀i∈qs f D,i∈ex
  ·obtain⟨rfl,aq⟩:=hf;exact Y4 ab hT C T H B ax U O hs aq
  ·refine⟨λcv=>?_,λi hi=>?_⟩
   ·obtain⟨i,hi⟩:=Y3 ab C hF.q B U O hf;grind
   ·rw[Dl]at hi;obtain⟨h1,o,E,cq⟩:=hi;have X:i<ops.size:=(S9.1 E).1;have I:¬(i∈L\/i∈ex):=λh=>by rw[(O i X).2 h]at h1;cases h1
    have az:∀e∈EE o,e∈L\/e∈ex:=λe F=>by grind
    have ad:∀j∈anc.getD i [],j∈L\/j∈ex:=by
     have ct:∀i o,ops[i]?=some o->listed.getD i true=true->∀e∈EE o,listed.getD e false=true:=by
      intro i o E h1 e F;have X:i<ops.size:=(S9.1 E).1;have Y:=ab.lt i o E e F;rw[bn e false (by omega)];exact(O e (by omega)).2 (ae i o E ((O i X).1 h1) e F)
     grind [Tk]
    have ag:ops.toList[i]?=some o:=by simpa using E
    have cf:o∈ops.toList:=iF ag;have bw:=CL (bx o cf);have bd:∀(S:List Nat),(∀j,j∈S↔j=i\/j∈L\/j∈ex)->∀j,j<ops.size->((listed.setIfInBounds i true).getD j true=true↔j∈S):=by
     intro S bu j d;have cd:j<listed.size:=by omega
     rw[bu];by_cases aw:j=i
     ·subst aw;simp[Array.getD,cd]
     ·have Y:(listed.setIfInBounds i true).getD j true=listed.getD j true:=getD_set_ne true (λe=>aw e.symm);rw[Y,O j d];simp[aw]
    have bi:∀ {g:Option (Nat×Bool)},g=none->o.guard=g->Region.wanted o (yielded ops a.tmps)=true:=by
     intro g au e;simp[Region.wanted,e,au]
    by_cases af:i∈qs f D
    ·obtain⟨j,d⟩:=To.1 af;obtain⟨_,cy,be,au,_,_⟩:=hF.q.pos j i d;rw[ag]at be;cases be;unfold wpOpIn;rw[E];simp only;rw[BY (bi rfl au)];refine mF ch hF B d ag (λh=>I (.inr h)) (λk hk ce=>?_) bw hs λak w' ci=>?_
     ·rcases ad k hk with h|h
      ·obtain⟨u,R⟩:=To.1 ce;exact absurd h (hF.q.pos u k R).1
      ·exact h
     ·refine bj f L D ens τ (i :: ex) _ ak w' C T ?_ (λk hk=>?_) (by simp only[OS];omega) (by simpa using U) (λk hk=>?_) (λi' W G av e F=>?_) ci
      ·rw[ADF]at H ⊢;refine⟨H.1,TO.2 ⟨λh=>I (.inr h),H.2.1⟩,λx t y V=>?_⟩;rcases DO.1 V with rfl|V
       ·exact λe=>I (.inl (e▸t))
       ·exact H.2.2 x t y V
      ·rcases DO.1 hk with rfl|hk
       ·exact af
       ·exact B k hk
      ·rw[bd (i :: (L++ex)) (λj=>by simp) k hk];simp only[DO,No];constructor
       ·rintro (h|h|h)
        ·exact .inr (.inl h)
        ·exact .inl h
        ·exact .inr (.inr h)
       ·rintro (h|h|h)
        ·exact .inr (.inl h)
        ·exact .inl h
        ·exact .inr (.inr h)
      ·have:e∈L\/e∈ex:=by
        rcases av with h|h
        ·exact ae i' W G (.inl h) e F
        ·rcases DO.1 h with rfl|h
         ·rw[E]at G;cases G;exact az e F
         ·exact ae i' W G (.inr h) e F
       rcases this with h|h
       ·exact .inl h
       ·exact .inr (by simp[h])
    · -- no operation of the front
     have cw:¬p0<=i:=by
      intro ca;have ay:=N.back i ca (by simpa using X);cases f with
      | nil =>
       refine hf ⟨rfl,λj d=>?_⟩;have Y:=N.Q j d;rcases ad j (ay j (by omega)) with h|h
       ·obtain⟨u,R⟩:=To.1 d;exact absurd h (hF.q.pos u j R).1
       ·exact h
      | cons p f =>
       obtain⟨A,l⟩:=p;obtain⟨_,_,_,am,an,_,_⟩:=J0 C;have Y:=N.lo (A,l) (by simp);simp only at Y;rcases ad l (ay l (by omega)) with h|h
       ·exact am h
       ·exact an (by rw[<-I8 A l];exact B l h)
     cases f with
     | nil =>
      rcases N.all i (by omega) with h|h|h
      ·exact absurd (.inl h) I
      ·exact absurd h af
      ·cases h
     | cons p f =>
      obtain⟨A,l⟩:=p;obtain⟨_,⟨ol,bf,cb,cu⟩,bq,am,an,bo,br⟩:=J0 C;have cc:i=l:=by
       rcases N.all i (by omega) with h|h|h
       ·exact absurd (.inl h) I
       ·exact absurd h af
       ·simp only[Rp,DO,GO]at h;rcases h with h|⟨p,hp,rfl⟩
        ·exact h
        ·rcases ad l (bo p hp) with h|h
         ·exact absurd h am
         ·exact absurd (B l h) (by rw[I8];exact an)
      subst cc;rw[ag]at bf;cases bf;rw[I8]at hF B hs af;obtain⟨cs,W,G,bs⟩:=T;rw[ag]at G;cases G;have Z:∀j∈A,j∈ex:=λj d=>by
       rcases ad j (bq j d) with h|h
       ·obtain⟨u,R⟩:=To.1 (show j∈A++qs f D by simp[d]);exact absurd h (hF.q.pos u j R).1
       ·exact h
      have ao:A.Nodup/\(qs f D).Nodup/\∀x∈A,∀y∈qs f D,x≠y:=ADF.1 hF.q.nodup;have bv:ME (ens.take A.length) τ=Ar ops.toList (Oh (A++qs f D) ens) τ A.reverse:=by
       have:=bV (ops:=ops.toList) (en:=Oh (A++qs f D) ens) (τ:=τ) (pre:=[]) (Q:=A) (ens:=ens.take A.length) (by have:=hF.len;simp only[IF]at this;simp only[OR];omega) (λj i e M z=>by
        have bc:j<A.length:=(Ra.1 M).1;obtain⟨o,cp,_,J,K,al,_⟩:=hF.at_ j i (by rw[Rn bc];exact M);rw[Rs,BY bc,J]at z;cases z;exact⟨K,al⟩)
       simpa[Ar] using this
      have bh:=zP (A:=A.reverse) hF.own B (λj d=>Z j (by simpa using d));rw[<-bv]at bh;have aj:∀j,j∈ex.filter (λj=>!Ac j A.reverse)↔j∈ex/\j∉A:=λj=>by
       rw[ADj];have:=Al j A.reverse;constructor
       ·rintro⟨M,z⟩;exact⟨M,λJ=>by rw[this.2 (by simpa using J)]at z;cases z⟩
       ·rintro⟨M,z⟩;refine⟨M,?_⟩;cases cg:Ac j A.reverse with
        | false=>rfl
        | true=>exact absurd (by simpa using this.1 cg) z
      have aa:∀j∈ex.filter (λj=>!Ac j A.reverse),j∈qs f D:=λj d=>by
       have:=B j ((aj j).1 d).1;rcases No.1 this with h|h
       ·exact absurd h ((aj j).1 d).2
       ·exact h
      have ar:∀j∈qs f D,∃(u:Nat) (e:Nat×AV×List (Nat×Obj)),(qs f D)[u]?=some j/\(ens.drop A.length)[u]?=some e/\Aj ops.toList j=some e.1/\Oh (A++qs f D) ens j=⟨true,e.2.1,e.2.2⟩:=by
       intro j d;obtain⟨u,R⟩:=To.1 d;obtain⟨o,e,_,J,K,al,_⟩:=hF.at_ (A.length+u) j (by rw[Rr (by omega),AEO];exact R);exact⟨u,e,R,by rw[AAj];exact J,K,al⟩
      have bg:Own ops.toList (Oh (A++qs f D) ens) ⟨[],[]⟩ (A++qs f D):=⟨hF.own.slot,λ_ _ _ _ _=>rfl,hF.own.name⟩;have ba:∀j∈ex.filter (λj=>!Ac j A.reverse),j∈A++qs f D:=λj d=>by simp[aa j d]
      unfold wpOpIn;rw[E];simp only;rw[BY (bi rfl cb)];refine bs _ _ bh ⟨λs v ah=>?_,λn W hn=>?_⟩ a w _ _ hs λbm bt ak w' cz bb cj=>?_
      ·rcases (lkE bg ba s v).1 ah with ⟨j,d,ai,rfl⟩|⟨_,ah⟩
       ·obtain⟨u,e,_,z,J,K⟩:=ar j (aa j d);rw[ai]at J;cases J;rw[K];exact⟨e.2.2,iF z⟩
       ·cases ah
      ·rcases (lkO bg ba n W).1 hn with ⟨j,d,ai⟩|⟨_,ah⟩
       ·obtain⟨u,e,_,z,J,K⟩:=ar j (aa j d);rw[K]at ai;exact⟨e,iF z,F5 ai⟩
       ·cases ah
      ·have cr:ex.length=A.length+(ex.filter (λj=>!Ac j A.reverse)).length:=by
        have ck:∀l:List Nat,l.length=(l.filter (λj=>Ac j A.reverse)).length+(l.filter (λj=>!Ac j A.reverse)).length:=by
         intro l;induction l with
         | nil=>rfl
         | cons x r cx =>
          simp only[f5,OS];cases Ac x A.reverse<;>simp<;>omega
        rw[ck ex];have bz:=(ADF.1 H).2.1;have M:(ex.filter (λj=>Ac j A.reverse)).length<=A.length:=MF (bz.filter _) λx t=>by
         have:=(Al _ _).1 (ADj.1 t).2;simpa using this
        have z:A.length<=(ex.filter (λj=>Ac j A.reverse)).length:=MF ao.1 λx t=>ADj.2 ⟨Z x t,(Al _ _).2 (by simpa using t)⟩;omega
       have ap:∀x,(x∈i :: (A++L)\/x∈ex.filter (λj=>!Ac j A.reverse))↔x=i\/x∈L\/x∈ex:=by
        intro x;rw[aj];simp only[DO,No];constructor
        ·rintro ((h|h|h)|h)
         ·exact .inl h
         ·exact .inr (.inr (Z x h))
         ·exact .inr (.inl h)
         ·exact .inr (.inr h.1)
        ·rintro (h|h|h)
         ·exact .inl (.inl h)
         ·exact .inl (.inr (.inr h))
         ·by_cases t:x∈A
          ·exact .inl (.inr (.inl t))
          ·exact .inr ⟨h,t⟩
       refine bj f (i :: (A++L)) D (ens.drop A.length) bm (ex.filter λj=>!Ac j A.reverse) _ ak w' br bt ?_ aa (by simp only[OS,IF];omega) (by simpa using U) (λk hk=>?_) (λi' W G av e F=>?_) ?_
       ·obtain⟨n1,cn,bk⟩:=ADF.1 H;have bp:∀x∈A,x∉L:=λx t cl=>bk x cl x (Z x t) rfl;rw[ADF];refine⟨TO.2 ⟨λh=>?_,ADF.2 ⟨ao.1,n1,λx t y V e=>bp x t (e▸V)⟩⟩,cn.filter _,λx t y V e=>?_⟩
        ·rcases No.1 h with h|h
         ·exact I (.inr (Z i h))
         ·exact I (.inl h)
        ·subst e;obtain⟨bl,co⟩:=(aj x).1 V;rcases DO.1 t with rfl|t
         ·exact I (.inr bl)
         ·rcases No.1 t with t|t
          ·exact co t
          ·exact bk x t x bl rfl
       ·rw[ap k,bd (i :: (L++ex)) (λj=>by simp) k hk];simp
       ·rw[ap];have:e∈L\/e∈ex:=by
         rcases (ap i').1 av with rfl|h
         ·rw[E]at G;cases G;exact az e F
         ·exact ae i' W G h e F
        exact .inr this
       ·have cm:∀j∈ex.filter (λj=>!Ac j A.reverse),Oh (qs f D) (ens.drop A.length) j=Oh (A++qs f D) ens j:=λj d=>by
         obtain⟨u,e,M,z,_,K⟩:=ar j (aa j d);rw[K];exact mE ao.2.1 u j e M z
        have t:=A2h (ops:=ops.toList) (en:=Oh (qs f D) (ens.drop A.length)) (τ:=bm) (ex.filter λj=>!Ac j A.reverse);rw[Kp (en:=Oh (A++qs f D) ens) (σ0:=⟨[],[]⟩) cm]at t;exact Vr (λs=>by rw[t.env,bb.env]) (λn=>by rw[t.objs,bb.objs]) cj
end
section
variable {c:Cx} {R:Exit->Act->World->Prop} {k:List DW} {σ:St}
theorem Cf (j:c.P.follows .mixedOrders=true) (g:c.Ok) {id:Nat} {l:List Oper} (p0:Nat) (d:List (List Nat×Nat)) (D:List Nat) (b:(A9m l (A25 l)&&UX l (A25 l) p0 [] d D)=true) {ens:EN}
  (h:Mix c l (fun τ=>Jx c R k l.toArray (l.drop p0) τ) d D ens σ):Ev c R (.run (.region id l.toArray true)) k σ:=by
 intro h1 e a w hs;simp only[Ht,Bt,If]at h1;simp only[AT]at b;refine wpIn_region_any j ?_;have hk:∀τ,Jx c R k l.toArray (l.drop p0) τ->∀a w,c.sat τ a w->wpListIn (FR c.r) 0 c.P l.toArray (Vj c R k) (l.toArray.toList.drop p0) a w:=fun τ f a w hs=>f (λo m=>h1 o (by simpa using AEb m)) e a w hs;exact A5E (ops:=l.toArray) (anc:=A25 l) g (by simpa using h1) (AAC (by simpa using b.1)) hk l.toArray.size d [] D ens σ [] (Array.replicate l.toArray.size false) a { w with drawn:=w.drawn+1 } (by simpa using b.2) (by simpa using h) (by simp) (by simp) (by simp) (by simp) (λi hi=>by simp at hi;simp[Array.getD,hi]) (λi o _ hi=>by simp at hi) (f2 hs)
end
end
section
open Go Go.RowKit
section
variable {n:Nat} {ns:List Nat}
theorem GX {m:Nat} (hn:n∈ns) (h:¬Ac m ns=true):¬m=n:=λe=>h ((Al _ _).2 (e▸hn))
mutual
theorem WA (hn:n∈ns) {e:Ty} {xs:List e.den}:∀(x:AV),x.fgt ns=x->x.frz n e xs=x
 | .sr m e' lo hi,h=>by grind [AV.fgt,AV.frz,GX]
 | .ep m e' i path off,h=>by grind [AV.fgt,AV.frz,GX]
 | .nin m e' i len,h=>by grind [AV.fgt,AV.frz,GX]
 | .ag l,h=>by
  simp only[AV.fgt,AV.ag.injEq]at h
  simp only[AV.frz,frzs_of_fgt hn l h]
 | .tup l,h=>by
  simp only[AV.fgt,AV.tup.injEq]at h
  simp only[AV.frz,frzs_of_fgt hn l h]
 | .p _ _,_=>rfl
 | .pc _ _,_=>rfl
 | .raw _,_=>rfl
 | .ip _ _,_=>rfl
 | .bp _ _ _,_=>rfl
 | .fn _,_=>rfl
 | .clo _ _,_=>rfl
 | .mp _,_=>rfl
 | .yl _,_=>rfl
 | .top,_=>rfl
theorem frzs_of_fgt (hn:n∈ns) {e:Ty} {xs:List e.den}:∀(l:List AV),AV.fgts ns l=l->AV.frzs n e xs l=l
 | [],_=>rfl
 | x :: r,h=>by
  simp only[AV.fgts,AEv]at h
  simp only[AV.frzs,WA hn x h.1,frzs_of_fgt hn r h.2]
end
mutual
theorem WB (hn:n∈ns):∀(x:AV),x.fgt ns=x->x.drp n=x
 | .sr m e' lo hi,h=>by grind [AV.fgt,AV.drp,GX]
 | .ep m e' i path off,h=>by grind [AV.fgt,AV.drp,GX]
 | .nin m e' i len,h=>by grind [AV.fgt,AV.drp,GX]
 | .ag l,h=>by
  simp only[AV.fgt,AV.ag.injEq]at h
  simp only[AV.drp,drps_of_fgt hn l h]
 | .tup l,h=>by
  simp only[AV.fgt,AV.tup.injEq]at h
  simp only[AV.drp,drps_of_fgt hn l h]
 | .p _ _,_=>rfl
 | .pc _ _,_=>rfl
 | .raw _,_=>rfl
 | .ip _ _,_=>rfl
 | .bp _ _ _,_=>rfl
 | .fn _,_=>rfl
 | .clo _ _,_=>rfl
 | .mp _,_=>rfl
 | .yl _,_=>rfl
 | .top,_=>rfl
theorem drps_of_fgt (hn:n∈ns):∀(l:List AV),AV.fgts ns l=l->AV.drps n l=l
 | [],_=>rfl
 | x :: r,h=>by
  simp only[AV.fgts,AEv]at h
  simp only[AV.drps,WB hn x h.1,drps_of_fgt hn r h.2]
end
end
section
variable {n:Nat} {ns tl:List Nat}
theorem EF (a:∀n,n∈tl->n∈ns) {m:Nat} (h:¬Ac m ns=true):¬Ac m tl=true:=λh1=>h ((Al _ _).2 (a _ ((Al _ _).1 h1)))
theorem qH (a:∀n,n∈tl->n∈ns) {l:List Nat} (h:¬(l.any λm=>Ac m ns)=true):¬(l.any λm=>Ac m tl)=true:=λh1=>by grind [Al]
mutual
theorem WC (htl:∀n,n∈tl->n∈ns):∀(x:AV),x.fgt ns=x->x.fgt tl=x
 | .sr m e' lo hi,h=>by grind [AV.fgt,EF]
 | .ep m e' i path off,h=>by grind [AV.fgt,EF]
 | .nin m e' i len,h=>by grind [AV.fgt,EF]
 | .bp m path off,h=>by grind [AV.fgt,EF]
 | .mp m,h=>by grind [AV.fgt,EF]
 | .yl m,h=>by grind [AV.fgt,EF]
 | .clo f cs,h=>by
  simp only[AV.fgt]at h
  split at h
  ·cases h
  ·rename_i hm;simp only[AV.fgt,An (qH htl hm)]
 | .ag l,h=>by
  simp only[AV.fgt,AV.ag.injEq]at h
  simp only[AV.fgt,fgts_of_fgt htl l h]
 | .tup l,h=>by
  simp only[AV.fgt,AV.tup.injEq]at h
  simp only[AV.fgt,fgts_of_fgt htl l h]
 | .p _ _,_=>rfl
 | .pc _ _,_=>rfl
 | .raw _,_=>rfl
 | .ip _ _,_=>rfl
 | .fn _,_=>rfl
 | .top,_=>rfl
theorem fgts_of_fgt (htl:∀n,n∈tl->n∈ns):∀(l:List AV),AV.fgts ns l=l->AV.fgts tl l=l
 | [],_=>rfl
 | x :: r,h=>by
  simp only[AV.fgts,AEv]at h
  simp only[AV.fgts,WC htl x h.1,fgts_of_fgt htl r h.2]
end
mutual
theorem WD (hn:n∈ns) (htl:∀n,n∈tl->n∈ns):∀(x:AV),x.fgt ns=x->x.trn n tl=x
 | .sr m e' lo hi,h=>by grind [AV.fgt,AV.trn,EF]
 | .ep m e' i path off,h=>by grind [AV.fgt,AV.trn,EF]
 | .nin m e' i len,h=>by grind [AV.fgt,AV.trn,GX,EF]
 | .bp m path off,h=>by grind [AV.fgt,AV.trn,EF]
 | .mp m,h=>by grind [AV.fgt,AV.trn,EF]
 | .yl m,h=>by grind [AV.fgt,AV.trn,EF]
 | .clo f cs,h=>by
  simp only[AV.fgt]at h
  split at h
  ·cases h
  ·rename_i hm;simp only[AV.trn,An (qH htl hm)]
 | .ag l,h=>by
  simp only[AV.fgt,AV.ag.injEq]at h
  simp only[AV.trn,trns_of_fgt hn htl l h]
 | .tup l,h=>by
  simp only[AV.fgt,AV.tup.injEq]at h
  simp only[AV.trn,trns_of_fgt hn htl l h]
 | .p _ _,_=>rfl
 | .pc _ _,_=>rfl
 | .raw _,_=>rfl
 | .ip _ _,_=>rfl
 | .fn _,_=>rfl
 | .top,_=>rfl
theorem trns_of_fgt (hn:n∈ns) (htl:∀n,n∈tl->n∈ns):∀(l:List AV),AV.fgts ns l=l->AV.trns n tl l=l
 | [],_=>rfl
 | x :: r,h=>by
  simp only[AV.fgts,AEv]at h
  simp only[AV.trns,WD hn htl x h.1,trns_of_fgt hn htl r h.2]
end
end
def Ks:AV->Bool
 | .raw _=>true
 | .p _ _=>true
 | _=>false
def MG:Obj->Bool
 | .arr _ _ _=>true
 | .box _ _ fs=>fs.all Ks
 | _=>false
theorem WE {n:Nat} {e:Ty} {xs:List e.den}:∀fs:List AV,fs.all Ks=true->AV.frzs n e xs fs=fs
 | [],_=>rfl
 | x :: r,h=>by
  rw[AE5,AT]at h;simp only[AV.frzs,WE r h.2];cases x<;>first|rfl|(have:=h.1;simp[Ks]at this)
theorem WF {n:Nat}:∀fs:List AV,fs.all Ks=true->AV.drps n fs=fs
 | [],_=>rfl
 | x :: r,h=>by
  rw[AE5,AT]at h;simp only[AV.drps,WF r h.2];cases x<;>first|rfl|(have:=h.1;simp[Ks]at this)
theorem zR {n:Nat} {e:Ty} {xs:List e.den} {o:Obj} (h:MG o=true):Obj.frz n e xs o=o:=by
 cases o with
 | box et st fs=>simp only[Obj.frz,WE fs h]
 | arr et a ys=>rfl
 | _=>cases h
theorem zS {n:Nat} {o:Obj} (h:MG o=true):Obj.drp n o=o:=by
 cases o with
 | box et st fs=>simp only[Obj.drp,WF fs h]
 | arr et a ys=>rfl
 | _=>cases h
theorem WG {hs:List Nat}:∀fs:List AV,fs.all Ks=true->AV.fgts hs fs=fs
 | [],_=>rfl
 | x :: r,h=>by
  rw[AE5,AT]at h;simp only[AV.fgts,WG r h.2];cases x<;>first|rfl|(have:=h.1;simp[Ks]at this)
theorem Y5 {hs:List Nat} {o:Obj} (h:MG o=true):Obj.fgt hs o=o:=by
 cases o with
 | box et st fs=>simp only[Obj.fgt,WG fs h]
 | arr et a ys=>rfl
 | _=>cases h
theorem WH {n:Nat} {hs:List Nat}:∀fs:List AV,fs.all Ks=true->AV.trns n hs fs=fs
 | [],_=>rfl
 | x :: r,h=>by
  rw[AE5,AT]at h;simp only[AV.trns,WH r h.2];cases x<;>first|rfl|(have:=h.1;simp[Ks]at this)
theorem zT {n:Nat} {hs:List Nat} {o:Obj} (h:MG o=true):Obj.trn n hs o=o:=by
 cases o with
 | box et st fs=>simp only[Obj.trn,WH fs h]
 | arr et a ys=>rfl
 | _=>cases h
structure H9 (X σ:St) (ns:List Nat):Prop where
 env:∀s v,lk s X.env=some v->v.fgt ns=v
 arr:∀n o,lk n X.objs=some o->MG o=true
 new:∀n o,lk n X.objs=some o->lk n σ.objs=none
 nm:∀n o,lk n X.objs=some o->n∉ns
section
variable {σ σ' X:St} {ns:List Nat}
theorem Rv.lkn (b:Rv σ σ' X) (ha:H9 X σ ns) {n:Nat} (hn:n∈ns):lk n σ'.objs=lk n σ.objs:=by
 rw[b.objs];cases a:lk n X.objs with
 | none=>rfl
 | some o=>exact absurd hn (ha.nm n o a)
theorem Rv.obs (b:Rv σ σ' X) (ha:H9 X σ ns):eL σ σ':=by
 intro n o hn;rw[b.objs];cases a:lk n X.objs with
 | none=>exact hn
 | some c=>rw[ha.new n c a]at hn;cases hn
theorem A5F {n:Nat} (c:Rv σ σ' X) (ha:H9 X σ ns) (hn:n∈ns):Rv (frz n σ) (frz n σ') X/\H9 X (frz n σ) ns:=by
 unfold frz;split
 ·exact⟨c,ha⟩
 have core:∀(e:Ty) (xs:List e.den),Rv ⟨DT n e xs σ.env,BA n e xs (del n σ.objs)⟩ ⟨DT n e xs σ'.env,BA n e xs (del n σ'.objs)⟩ X/\H9 X ⟨DT n e xs σ.env,BA n e xs (del n σ.objs)⟩ ns:=by
  intro e xs;refine⟨⟨λs=>?_,λm=>?_⟩,ha.env,ha.arr,λm o b=>?_,ha.nm⟩
  ·simp only[M5,c.env];cases a:lk s X.env with
   | none=>rfl
   | some v=>simp[WA hn v (ha.env s v a)]
  ·simp only[Ce,R3];by_cases b:m=n
   ·subst b;cases a:lk m X.objs with
    | none=>simp
    | some o=>exact absurd hn (ha.nm m o a)
   ·simp only[An b,c.objs];cases a:lk m X.objs with
    | none=>rfl
    | some o=>exact ADB some (zR (ha.arr m o a))
  ·simp only[Ce,R3];split
   ·rfl
   ·rw[ha.new m o b];rfl
 rw[c.lkn ha hn];unfold lE;grind
theorem WI:∀ {l:List Nat} {σ σ':St},Rv σ σ' X->H9 X σ ns->(∀n∈l,n∈ns)->Rv (DC l σ) (DC l σ') X/\H9 X (DC l σ) ns
 | [],_,_,a,ha,_=>⟨a,ha⟩
 | n :: l,σ,σ',a,ha,h=>by
  obtain⟨h1,b⟩:=A5F a ha (h n (by simp));have:=WI (l:=l) h1 b λm c=>h m (by simp[c]);exact this
def zU (σ σ':St) (xs:List Operand):Prop:=∀x∈xs,Am σ' x=Am σ x
theorem bW (b:Rv σ σ' X) {xs:List Operand} (h:∀t∈xs.filterMap QA,lk t X.env=none):zU σ σ' xs:=by
 intro x a;cases x with
 | tmp t =>
  simp only[Am,b.env];rw[h t (AFh.2 ⟨_,a,rfl⟩)];rfl
 | const v=>rfl
 | global g=>rfl
 | func f=>rfl
theorem MH:∀ {l:List (Nat×Operand)},zU σ σ' (l.map (·.2))->DU σ' l=DU σ l
 | [],_=>rfl
 | (i,x) :: r,h=>by
  simp only[DU];rw[h x (by simp),MH (λy a=>h y (by simp only[Rp,DO];exact .inr a))]
theorem QJ:∀ {l:List (Nat×Operand)},zU σ σ' (l.map (·.2))->FL σ' l=FL σ l
 | [],_=>rfl
 | (i,x) :: r,h=>by
  simp only[FL];rw[h x (by simp),QJ (λy a=>h y (by simp only[Rp,DO];exact .inr a))]
theorem mG (b:Rv σ σ' X) (ha:H9 X σ ns) (n:Nat):Cq (lk n σ'.objs)=Cq (lk n σ.objs):=by
 rw[b.objs];cases a:lk n X.objs with
 | none=>rfl
 | some o =>
  rw[ha.new n o a];have:=ha.arr n o a;cases o<;>first|rfl|cases this
theorem gG (a:Rv σ σ' X) (ha:H9 X σ ns) {op:Op} (h:zU σ σ' op.operands.toList):DK σ' op=DK σ op:=by
 cases op<;>simp only[DK];case buildSlice t n parts =>
  exact MH (λx a=>h x (by simpa[Op.operands] using a))
 case build t parts =>
  exact QJ (λx a=>h x (by simpa[Op.operands] using a))
 case store t x y =>
  rw[h x (by simp[Op.operands]),h y (by simp[Op.operands])];unfold Cc;split
  ·rw[mG a ha]
  ·rfl
 case mapUpdate t m x y =>
  rw[h m (by simp[Op.operands]),h x (by simp[Op.operands]),h y (by simp[Op.operands])]
def J4 (σ:St):Option AV->Option AV->List Nat
 | some (.sr n _ _ _),some (.sr m _ _ _)=>if Cq (lk n σ.objs)=true then [n,m] else [n]
 | some (.sr n _ _ _),_=>[n]
 | some (.nin n _ _ _),_=>[n]
 | some (.raw _),some (.sr m _ _ _)=>if Cq (lk m σ.objs)=true then [m] else []
 | _,_=>[]
def gH (σ:St):Option AV->Option AV->List Nat
 | some (.ep n _ _ _ _),some (.sr m _ _ _)=>if Cq (lk n σ.objs)=true then [n,m] else []
 | _,_=>[]
def bX (σ:St):Op->List Nat
 | .call c=>match c.callee,c.args.toList with
  | .builtin .append,[x,y]=>J4 σ (Am σ x) (Am σ y)
  | _,_=>[]
 | .store _ x y=>gH σ (Am σ x) (Am σ y)
 | _=>[]
theorem A2o {n:Nat} {e:Ty} {lo hi:Nat} {v:AV}:n∈J4 σ (some (.sr n e lo hi)) (some v):=by
 cases v<;>first|(simp[J4];done)|(simp only[J4];split<;>simp)
theorem qI (f:Rv σ σ' X) (ha:H9 X σ ns) {tl:List Nat} (e:∀n,n∈tl->n∈ns) {d b:Nat} {v:AV} {g:Obj} (i:lk d X.env=none) (j:lk b X.objs=none) :
  Rv ⟨(d,v) :: CS tl σ.env,(b,g) :: Az tl tl σ.objs⟩ ⟨(d,v) :: CS tl σ'.env,(b,g) :: Az tl tl σ'.objs⟩ X:=by
 refine⟨λs=>?_,λm=>?_⟩
 ·simp only[lk];by_cases hs:s=d
  ·grind
  ·rw[An hs,An hs,Ez,Ez,f.env];cases a:lk s X.env with
   | none=>rfl
   | some w=>simp[WC e w (ha.env s w a)]
 ·simp only[lk];by_cases c:m=b
  ·grind
  ·rw[An c,An c,CA,CA,f.objs];cases a:lk m X.objs with
   | none=>rfl
   | some w =>
    rw[An λh=>ha.nm m w a (e _ ((Al _ _).1 h))];exact ADB some (Y5 (ha.arr m w a))
theorem qJ (c:Rv σ σ' X) (ha:H9 X σ ns) {n:Nat} {tl:List Nat} (hn:n∈ns) (b:∀n,n∈tl->n∈ns) {en:List (Nat×AV)} {new:List (Nat×Obj)} (d:∀s v,lk s en=some v->lk s X.env=none) (f:∀m o,lk m new=some o->lk m X.objs=none) :
  Rv ⟨en++FB n tl σ.env,new++DJ n tl σ.objs⟩ ⟨en++FB n tl σ'.env,new++DJ n tl σ'.objs⟩ X:=by
 refine⟨λs=>?_,λm=>?_⟩
 ·simp only[BB];cases hs:lk s en with
  | some v=>rw[d s v hs];rfl
  | none =>
   rw[Hg,Hg,c.env];cases a:lk s X.env with
   | none=>rfl
   | some w=>simp[WD hn b w (ha.env s w a)]
 ·simp only[BB];cases e:lk m new with
  | some o=>rw[f m o e];rfl
  | none =>
   rw[Eo,Eo,c.objs];cases a:lk m X.objs with
   | none=>rfl
   | some w =>
    rw[An λh=>ha.nm m w a (by
     rcases DO.1 ((Al _ _).1 h) with rfl|h
     ·exact hn
     ·exact b _ h)]
    exact ADB some (zT (ha.arr m w a))
theorem bZ {n:Nat} {o d:Obj} (c:Rv σ σ' X) (ha:H9 X σ ns) (hn:lk n σ.objs=some o) {env b:List (Nat×AV)} (f:∀s,lk s b=(lk s X.env).or (lk s env)):Rv ⟨env,upd n d σ.objs⟩ ⟨b,upd n d σ'.objs⟩ X:=by
 refine⟨f,λm=>?_⟩;simp only[GT];have e:lk n X.objs=none:=by
  cases h:lk n X.objs with
  | none=>rfl
  | some u=>rw[ha.new n u h]at hn;cases hn
 by_cases a:m=n
 ·subst a;rw[BY rfl,BY rfl,c.objs,e];rfl
 ·rw[An a,An a,c.objs]
theorem Rv.some_lk (a:Rv σ σ' X) (ha:H9 X σ ns) {n:Nat} {o:Obj} (h:lk n σ.objs=some o):lk n σ'.objs=some o:=a.obs ha n o h
theorem zV {tb:Tb} {op:Op} {d:Option Nat} {vc:Prop} {τ:St} (a:Rv σ σ' X) (ha:H9 X σ ns) (K:zU σ σ' op.operands.toList) (A:∀n∈bX σ op,n∈ns) (U:∀t,d=some t->lk t X.env=none) (T:∀n,(∃u,lk n τ.objs=some u)->lk n X.objs=none) (h:HR tb σ d op=some (vc,τ)) :
  (∃ak,HR tb σ' d op=some (vc,ak)/\Rv τ ak X)/\∀k,aq tb σ' k op=none:=by
 have R:=a.obs ha;cases op<;>simp only[HR]at h<;>try(cases h;done)
 case store t x y =>
  refine⟨?_,λ_=>rfl⟩;simp only[HR];have A:∀n∈gH σ (Am σ x) (Am σ y),n∈ns:=A;rw[K x (by simp[Op.operands]),K y (by simp[Op.operands])];cases d with
  | some d=>simp[Dx]at h
  | none =>
   simp only[Dx]at h ⊢;generalize Am σ x=al at h A ⊢;generalize Am σ y=am at h A ⊢;unfold Hq at h ⊢;split at h
   ·rename_i ti n aw off v Z;try simp only
    unfold Dg at h ⊢;split at h
    ·rename_i et st fs f;rw[a.some_lk ha f];try simp only
     unfold FJ at h ⊢;split at h
     ·rename_i u az h1 G;try rw[h1,G]
      try simp only
      split at h
      ·rename_i B;rw[BY B];cases h;exact⟨_,rfl,bZ a ha f a.env⟩
      ·cases h
     ·cases h
    ·cases h
   ·rename_i ti n e i aw off v Z;try simp only
    unfold Dh at h ⊢;split at h
    ·rename_i et ae xs f;rw[a.some_lk ha f];try simp only
     cases aa:LN false σ ti.ty v with
     | none=>rw[aa]at h;unfold Ej at h;split at h<;>first|(cases h;done)|(rename_i G;cases G)
     | some w =>
      rw[FP R aa];rw[aa]at h;unfold Ej at h ⊢;split at h
      ·rename_i ys w' h1 G;cases G;try rw[h1]
       try simp only
       unfold F3 at h ⊢;split at h
       ·rename_i z P;try rw[P]
        try simp only
        split at h
        ·rename_i B;rw[BY B];cases h;exact⟨_,rfl,bZ a ha f a.env⟩
        ·cases h
       ·cases h
      ·cases h
    ·rename_i et ad k F xs j f;rw[a.some_lk ha f];try simp only
     split at h
     ·rename_i m E hi;try simp only
      split at h
      ·rename_i B;rw[BY B];unfold Lw at h ⊢;split at h
       ·rename_i J;rw[BY J];unfold Lu at h ⊢;split at h
        ·rename_i bb af ys D;rw[a.some_lk ha D];try simp only
         split at h
         ·rename_i ap;rw[BY ap];unfold Ka at h ⊢;split at h
          ·rename_i aj ab;try rw[ab]
           try simp only
           cases h;have ai:∀q,q∈[n,m]->q∈ns:=λq c=>A q (by simp only[gH,f,Cq,AAv];exact c);refine⟨_,rfl,qJ (en:=[]) (new:=[(n,_)]) a ha (ai n (by simp)) (λq c=>ai q (by simp at c;simp[c])) (λs v h=>by cases h) (λq o c=>T q ⟨o,?_⟩)⟩;simp only[lk]at c ⊢;split at c
           ·rename_i F;cases c;rw[BY F]
           ·cases c
          ·cases h
         ·cases h
        ·cases h
       ·cases h
      ·cases h
     ·cases h
    ·cases h
   ·cases h
 case mapUpdate t m x y =>
  refine⟨?_,λ_=>rfl⟩;simp only[HR];rw[K m (by simp[Op.operands]),K x (by simp[Op.operands]),K y (by simp[Op.operands])];cases d with
  | some d=>simp[Dx]at h
  | none =>
   simp only[Dx]at h ⊢;generalize Am σ m=ax at h ⊢;generalize Am σ x=al at h ⊢;generalize Am σ y=am at h ⊢;unfold Kd at h ⊢;split at h
   ·try simp only
    unfold F4 at h ⊢;split at h
    ·rename_i bf bh l f;rw[a.some_lk ha f];try simp only
     split at h
     ·rename_i B;rw[BY B];unfold Gi at h ⊢;split at h
      ·rename_i bd v1 h1 G;rw[FP R h1,FP R G];try simp only
       split at h
       ·rename_i J;rw[BY J];cases h;exact⟨_,rfl,bZ a ha f a.env⟩
       ·cases h
      ·cases h
     ·cases h
    ·cases h
   ·cases h
 case call cl =>
  obtain⟨callee,⟨args⟩,⟨argTypes⟩⟩:=cl;cases callee with
  | value g=>simp[Dw]at h
  | invoke r m=>simp[Dw]at h
  | builtin b =>
   simp only[Dw]at h;unfold El at h;split at h
   ·rename_i x y t u;have O:Am σ' x=Am σ x:=K x (by simp[Op.operands,Call.operands]);have S:Am σ' y=Am σ y:=K y (by simp[Op.operands,Call.operands]);have A:∀n∈J4 σ (Am σ x) (Am σ y),n∈ns:=λn hn=>A n (by simpa[bX] using hn);unfold EY at h;split at h
    ·rename_i n e hi v C I;rw[C,I]at A;refine⟨?_,λk=>by simp[aq,Dv,Ei,Df,O,C]⟩;simp only[HR,Dw,El,EY,O,C,S,I];split at h
     ·rename_i p ;have L:=U p rfl;have M:n∈ns:=A n A2o;try simp only
      split at h
      ·rename_i N;rw[BY N];unfold Ek at h ⊢;split at h
       ·rename_i af av el b2 Y;try rw[Y]
        try simp only
        split at h
        ·rename_i W;rw[BY W];unfold Cg at h ⊢;split at h
         ·rename_i ti et ae xs h1 f;try rw[h1]
          try rw[a.some_lk ha f]
          try simp only
          split at h
          ·rename_i ar;rw[BY ar];unfold FK at h ⊢;split at h
           ·rename_i aj ys G P;try rw[G]
            rw[P0 R P];try simp only
            cases h;refine⟨_,rfl,⟨λs=>?_,λm=>?_⟩⟩
            ·simp only[lk];by_cases hs:s=p
             ·subst hs;rw[BY rfl,BY rfl,L];rfl
             ·rw[An hs,An hs,Jq,Jq,a.env];cases H:lk s X.env with
              | none=>rfl
              | some w=>simp[WB M w (ha.env s w H)]
            ·simp only[GT,Br];have ao:lk n X.objs=none:=by
              cases H:lk n X.objs with
              | none=>rfl
              | some w=>exact absurd M (ha.nm n w H)
             by_cases D:m=n
             ·subst D;rw[BY rfl,BY rfl,a.objs,ao];rfl
             ·rw[An D,An D,a.objs];cases H:lk m X.objs with
              | none=>rfl
              | some w=>exact ADB some (zS (ha.arr m w H))
           ·cases h
          ·cases h
         ·rename_i ti et ad k ae xs h1 f;try rw[h1]
          try rw[a.some_lk ha f]
          try simp only
          split at h
          ·rename_i B;rw[BY B];unfold TN at h ⊢;split at h
           ·rename_i m E au;try simp only
            unfold Lv at h ⊢;split at h
            ·rename_i an ba be ay ys D;rw[a.some_lk ha D];try simp only
             split at h
             ·rename_i J;rw[BY J];unfold Kb at h ⊢;split at h
              ·rename_i aj ab;try rw[ab]
               try simp only
               cases h;refine⟨_,rfl,qI a ha (λq c=>A q (by simp only[J4,f,Cq,AAv];exact c)) L ?_⟩;cases H:lk n X.objs with
               | none=>rfl
               | some w=>exact absurd M (ha.nm n w H)
              ·cases h
             ·cases h
            ·cases h
           ·cases h
          ·cases h
         ·cases h
        ·cases h
       ·cases h
      ·cases h
     ·cases h
    ·rename_i n e i len v C I;rw[C,I]at A;refine⟨?_,λk=>by simp[aq,Dv,Ei,Df,O,C]⟩;simp only[HR,Dw,El,EY,O,C,S,I];split at h
     ·rename_i p ;have L:=U p rfl;have M:n∈ns:=A n (by simp[J4]);try simp only
      split at h
      ·rename_i N;rw[BY N];unfold Ph at h ⊢;split at h
       ·rename_i af av el b2 Y;try rw[Y]
        try simp only
        split at h
        ·rename_i W;rw[BY W];unfold TM at h ⊢;split at h
         ·rename_i ti et ad k F xs h1 f;try rw[h1]
          try rw[a.some_lk ha f]
          try simp only
          split at h
          ·rename_i B;rw[BY B];unfold Nq at h ⊢;split at h
           ·rename_i ys P;rw[P0 R P];try simp only
            split at h
            ·rename_i ag;have Q:lk p X.objs=none:=by
              refine T p ?_;cases h;exact⟨_,by simp only[lk,AAv];rfl⟩
             have V:(lk p σ'.objs).isNone=true/\ys.isEmpty=false:=⟨by rw[a.objs,Q];exact ag.1,ag.2⟩;rw[BY V];cases h;refine⟨_,rfl,qJ (en:=[(p,_)]) (new:=[(p,_),(n,_)]) a ha M (λq c=>by cases c) (λs v h=>?_) (λq o c=>?_)⟩
             ·simp only[lk]at h;split at h
              ·rename_i F;rw[F];exact L
              ·cases h
             ·simp only[lk]at c;split at c
              ·rename_i F;rw[F];exact Q
              ·split at c
               ·rename_i F;rw[F];cases H:lk n X.objs with
                | none=>rfl
                | some w=>exact absurd M (ha.nm n w H)
               ·cases c
            ·cases h
           ·cases h
          ·cases h
         ·cases h
        ·cases h
       ·cases h
      ·cases h
     ·cases h
    ·rename_i v C I;rw[C,I]at A;split at h
     ·rename_i p ;have L:=U p rfl;split at h
      ·rename_i N;unfold aV at h;split at h
       ·rename_i m E au bg offs el b Z;unfold Pj at h;split at h
        ·rename_i ti an ad k e ys h1 D;split at h
         ·rename_i B;unfold Pi at h;split at h
          ·rename_i J;have Q:lk p X.objs=none:=by
            refine T p ?_;cases h;exact⟨_,by simp only[lk,AAv];rfl⟩
           have V:(lk p σ'.objs).isNone=true:=by rw[a.objs,Q];exact J.1
           have ah:=a.some_lk ha D;refine⟨?_,λbc=>by simp[aq,Dv,Ei,Df,O,C,S,I,N,Eh,Pb,ah,Cq];split<;>simp[FI]⟩;cases h;simp only[HR,Dw,El,EY,O,C,S,I,aV,Pj,Pi];rw[BY N,Z];simp only;rw[ah,h1];simp only;rw[BY B,BY ⟨V,J.2⟩];exact⟨_,rfl,qI a ha (λq c=>A q (by simp only[J4,D,Cq,AAv];exact c)) L Q⟩
          ·cases h
         ·cases h
        ·cases h
       ·cases h
      ·cases h
     ·cases h
    ·cases h
   ·cases h
end
end
section
open Go Go.RowKit
def A2p (o:Obj):Bool:=MG o
def Oi (o:Oper):EN->Bool
 | []=>true
 | (d,_,_) :: r=>!Ac d (HI o.op)&&!Ac d o.dst.toList&&Oi o r
def Us (ns:List Nat) (σ:List (Nat×Obj)):List (Nat×Obj)->Bool
 | []=>true
 | (n,o) :: r=>(lk n σ).isNone&&!Ac n ns&&A2p o&&Us ns σ r
def MJ (ns:List Nat) (σ:List (Nat×Obj)):EN->Bool
 | []=>true
 | (_,_,obs) :: r=>Us ns σ obs&&MJ ns σ r
def b4 (τ:List (Nat×Obj)):List (Nat×Obj)->Bool
 | []=>true
 | (n,_) :: r=>(lk n τ).isNone&&b4 τ r
def WJ (τ:List (Nat×Obj)):EN->Bool
 | []=>true
 | (_,_,obs) :: r=>b4 τ obs&&WJ τ r
def J5 (ns:List Nat):EN->EN
 | []=>[]
 | (d,v,obs) :: r=>(d,v.fgt ns,obs) :: J5 ns r
def tn (σ:St) (o:Op):List Nat:=DK σ o++bX (DC (DK σ o) σ) o
theorem Gv {o:Oper}:∀ {ens:EN},Oi o ens=true->∀e∈ens,e.1∉HI o.op/\o.dst≠some e.1
 | [],_,e,a=>by cases a
 | (d,v,obs) :: r,h,e,a=>by
  simp only[Oi,AT,RZ]at h;rcases DO.1 a with rfl|a
  ·grind [Al,Ac]
  ·exact Gv h.2 e a
theorem QK {ns:List Nat} {σ:List (Nat×Obj)}:∀ {l:List (Nat×Obj)},Us ns σ l=true->∀p∈l,lk p.1 σ=none/\p.1∉ns/\A2p p.2=true
 | [],_,e,a=>by cases a
 | (n,o) :: r,h,p,hp=>by
  simp only[Us,AT,RZ,tO]at h;rcases DO.1 hp with rfl|hp
  ·grind [Al]
  ·exact QK h.2 p hp
theorem Gw {ns:List Nat} {σ:List (Nat×Obj)}:∀ {ens:EN},MJ ns σ ens=true->∀e∈ens,∀p∈e.2.2,lk p.1 σ=none/\p.1∉ns/\A2p p.2=true
 | [],_,e,a=>by cases a
 | (d,v,obs) :: r,h,e,a=>by
  simp only[MJ,AT]at h;rcases DO.1 a with rfl|a
  ·exact QK h.1
  ·exact Gw h.2 e a
theorem Tl {τ:List (Nat×Obj)}:∀ {l:List (Nat×Obj)},b4 τ l=true->∀p∈l,lk p.1 τ=none
 | [],_,e,a=>by cases a
 | (n,o) :: r,h,p,hp=>by
  simp only[b4,AT,tO]at h;rcases DO.1 hp with rfl|hp
  ·exact h.1
  ·exact Tl h.2 p hp
theorem Oj {τ:List (Nat×Obj)}:∀ {ens:EN},WJ τ ens=true->∀e∈ens,∀p∈e.2.2,lk p.1 τ=none
 | [],_,e,a=>by cases a
 | (d,v,obs) :: r,h,e,a=>by
  simp only[WJ,AT]at h;rcases DO.1 a with rfl|a
  ·exact Tl h.1
  ·exact Oj h.2 e a
theorem Ol {ns:List Nat}:∀ {ens:EN},J5 ns ens=ens->∀e∈ens,e.2.1.fgt ns=e.2.1
 | [],_,e,a=>by cases a
 | (d,v,obs) :: r,h,e,a=>by
  simp only[J5,AEv,AFo,and_true,true_and]at h;rcases DO.1 a with rfl|a
  ·exact h.1
  ·exact Ol h.2 e a
section
variable {c:Cx} {o:Oper} {σ:St} {ens:EN} {N:St->Prop}
theorem A2q {X:St} {ns:List Nat} (b:XIn ens X) (hn:MJ ns σ.objs ens=true) (hf:J5 ns ens=ens):H9 X σ ns:=by
 refine⟨λs v hs=>?_,λn o a=>?_,λn o a=>?_,λn o a=>?_⟩
 ·obtain⟨obs,d⟩:=b.env s v hs;exact Ol hf _ d
 all_goals
  obtain⟨e,c,hp⟩:=b.objs n o a;have:=Gw hn e c _ hp
 ·exact this.2.2
 ·exact this.1
 ·exact this.2.1
theorem zW (ab:c.Ok) {τ:St} {vc:Prop} (ns:List Nat) (h:Ir c.tb o σ=some (vc,τ)) (U:tn σ o.op=ns) (L:Oi o ens=true) (hn:MJ ns σ.objs ens=true) (S:WJ τ.objs ens=true) (hf:J5 ns ens=ens) (ad:Jr c.nt o=true) (ae:vc) (aa:N τ):mC c o σ ens N:=by
 subst U;intro X σ' j k a w next Q hs hk
 have ha:=A2q k hn hf;have F:∀t∈HI o.op,lk t X.env=none:=λt A=>by
  cases g:lk t X.env with
  | none=>rfl
  | some v=>obtain⟨obs,f⟩:=k.env t v g;exact absurd A (Gv L _ f).1
 have D:∀t,o.dst=some t->lk t X.env=none:=λt A=>by
  cases g:lk t X.env with
  | none=>rfl
  | some v=>obtain⟨obs,f⟩:=k.env t v g;exact absurd A (Gv L _ f).2
 have G:∀n,(∃u,lk n τ.objs=some u)->lk n X.objs=none:=λn hu=>by
  cases g:lk n X.objs with
  | none=>rfl
  | some v =>
   obtain⟨e,R,hp⟩:=k.objs n v g;obtain⟨u,hu⟩:=hu;rw[Oj S e R _ hp]at hu;cases hu
 have Y:=gG j ha (op:=o.op) (bW j F);obtain⟨b,y⟩:=WI (l:=DK σ o.op) j ha (λm f=>by simp[tn,f]);have key:∃q,Ir c.tb o σ'=some (vc,q)/\Rv τ q X:=by
  have H:∀n∈bX (DC (DK σ o.op) σ) o.op,n∈tn σ o.op:=λm f=>by simp[tn,f]
  unfold Ir TP at h ⊢;rw[Y];generalize DC (DK σ o.op) σ=B at h b y H;generalize DC (DK σ o.op) σ'=C at b;have K:=bW b F;cases z:aq c.tb B (o.dst.getD 0) o.op with
  | some r =>
   obtain⟨af,v,obs⟩:=r;rw[z]at h;have W:=Un (b.obs y) (λx j v Z=>by rw[K x j];exact Z) z;rw[W];simp only[Nr]at h ⊢;split at h
   ·rename_i I;cases h;have J:∀n,lk n (B.add v obs o.dst).objs=(lk n obs).or (lk n B.objs):=λn=>by cases o.dst<;>simp only[St.add,BB]
    have V:∀n,lk n (C.add v obs o.dst).objs=(lk n obs).or (lk n C.objs):=λn=>by cases o.dst<;>simp only[St.add,BB]
    have E:∀n u,lk n obs=some u->lk n X.objs=none:=λn u hu=>G n ⟨u,by rw[J,hu];rfl⟩;have T:Bi obs C=true:=by
     simp only[Bi,If,tO]at I ⊢;intro p hp;obtain⟨u,hu⟩:=NG hp;rw[b.objs,E _ u hu,I p hp];rfl
    rw[BY T];refine⟨_,rfl,λs=>?_,λn=>?_⟩
    ·cases P:o.dst with
     | none=>simp only[St.add];exact b.env s
     | some d =>
      simp only[St.add,lk];by_cases i:s=d
      ·rw[BY i,BY i,i,D d P];rfl
      ·rw[An i,An i];exact b.env s
    ·rw[J,V,b.objs];cases hu:lk n obs with
     | none=>rfl
     | some u=>rw[E n u hu];rfl
   ·cases h
  | none =>
   rw[z]at h;simp only[Nr]at h;obtain⟨⟨q,h1,M⟩,O⟩:=zV b y K H D G h;rw[O];simp only[Nr];exact⟨q,h1,M⟩
 grind [Vi,CL]
theorem gI {σ σ':St}:∀ {xs:List Operand},zU σ σ' xs->Ig σ' xs=Ig σ xs
 | [],_=>rfl
 | x :: r,h=>by
  simp only[Ig];rw[h x (by simp),gI (λy a=>h y (by simp[a]))]
theorem b5 {σ σ':St} (h:eL σ σ') {ren:List (Nat×B1)} {x y:AV} (a:Gu σ ren x y):Gu σ' ren x y:=by
 cases y<;>first|exact a|exact FP h a
theorem Nw {σ σ':St} (h:eL σ σ') {ren:List (Nat×B1)}:∀ {l r:List AV},BS σ ren l r->BS σ' ren l r
 | [],[],_=>trivial
 | [],_ :: _,a=>a.elim
 | _ :: _,[],a=>a.elim
 | _ :: _,_ :: _,a=>⟨b5 h a.1,Nw h a.2⟩
theorem Nx {l l':List (Nat×Obj)} (h:∀n o,lk n l=some o->lk n l'=some o) {ren:List (Nat×B1)}:∀ {r:List (Nat×Obj)},Af l ren r->Af l' ren r
 | [],_=>trivial
 | (m,o) :: r,a=>by
  refine⟨?_,Nx h a.2⟩;have h1:=a.1;cases hf:lk m ren with
  | none=>rw[hf]at h1;exact h1.elim
  | some f =>
   rw[hf]at h1;cases f with
   | nil=>exact h1
   | nm n =>
    simp only[GW]at h1 ⊢;cases hn:lk n l with
    | none=>rw[hn]at h1;simp only[Hy]at h1
    | some x=>rw[h n x hn,<-hn];exact h1
theorem zX (af:c.Ok) {dst:Option Nat} {g:Operand} {xs:List Operand} {ts:Array TypeId} {ty:TypeId} {pos:String} {after:Array Edge}
  {f:FuncId} {D:List Nat} (aj:DM (Am σ g)=some (f,D)) {as:List AV} (ae:Ig σ xs=some as)
  {A:List AV} {objs:List (Nat×Obj)} {stay:List Nat} {post:AV->List (Nat×Obj)->Prop} (aa:BJ c.P f A objs stay post)
  (ren:List (Nat×B1)) (hs:List Nat) (h1:CB ren=true) (V:CT objs ren=true) (am:(c.ds.pin.all λp=>!Ac p.1 hs)=true)
  (I:Oi ⟨dst,.call ⟨.value g,xs.toArray,ts⟩,ty,pos,after,none⟩ ens=true) (hn:MJ (Ai ren) σ.objs ens=true) (hf:J5 hs ens=ens) (ag:Jr c.nt ⟨dst,.call ⟨.value g,xs.toArray,ts⟩,ty,pos,after,none⟩=true)
  (Z:BS σ ren (as++D.map λn=>AV.bp n [] 0) A) (ab:Af σ.objs ren objs)
  (hk:∀res r,post res r->∃(l:List (Nat×B1)) (x:AV) (i:List (Nat×Obj)),CB l=true/\CT i l=true/\Af r l i/\Bp l res x /\
   I0 ren l stay hs=true/\FX (Ai ren) i σ.objs=true/\WJ i ens=true/\N (CU σ (Ai ren) hs dst x i)) :
  mC c ⟨dst,.call ⟨.value g,xs.toArray,ts⟩,ty,pos,after,none⟩ σ ens N:=by
 intro X σ' q k a w next Q ao al
 have ah:∀s v,lk s X.env=some v->v.fgt hs=v:=λs v hs=>by
  obtain⟨obs,m⟩:=k.env s v hs;exact Ol hf _ m
 have G:eL σ σ':=by
  intro n o z;rw[q.objs];cases b:lk n X.objs with
  | none=>exact z
  | some aq =>
   obtain⟨e,j,hp⟩:=k.objs n aq b;rw[(Gw hn e j _ hp).1]at z;cases z
 have ak:∀n o,lk n X.objs=some o->n∉Ai ren:=λn o B=>by
  obtain⟨e,j,hp⟩:=k.objs n o B;exact(Gw hn e j _ hp).2.1
 have ad:∀t∈(g :: xs).filterMap QA,lk t X.env=none:=λt C=>by
  cases b:lk t X.env with
  | none=>rfl
  | some v =>
   obtain⟨obs,m⟩:=k.env t v b;refine absurd ?_ (Gv I _ m).1;simpa[HI,Op.operands,Call.operands] using C
 have ar:∀t,dst=some t->lk t X.env=none:=λt C=>by
  cases b:lk t X.env with
  | none=>rfl
  | some v=>obtain⟨obs,m⟩:=k.env t v b;exact absurd C (Gv I _ m).2
 have H:=bW q ad;refine bS af (xs:=xs) (ts:=ts) rfl rfl (by rw[H g (by simp)];exact aj) (by rw[gI (λy ap=>H y (by simp[ap]))];exact ae) aa ren h1 V (Nw G Z) (Nx G ab) hs am ao (CL ag) λres r hp=>?_;obtain⟨l,x,i,L,M,O,R,S,E,T,U⟩:=hk res r hp;have F:∀n o,lk n X.objs=some o->lk n i=none:=λn o B=>by
  obtain⟨e,j,hp⟩:=k.objs n o B;exact Oj T e j _ hp
 refine⟨l,x,i,L,M,O,R,S,?_,λK w' an=>al _ U K w' _ ⟨λs=>?_,λn=>?_⟩ an⟩
 ·simp only[FX,If,S8,tO]at E ⊢;intro p hp;rcases E p hp with h|h
  ·exact .inl h
  ·right;rw[q.objs,h];cases b:lk p.1 X.objs with
   | none=>rfl
   | some u =>
    obtain⟨av,J⟩:=NG hp;rw[F _ u b]at J;cases J
 ·have ai:lk s (CS hs σ'.env)=(lk s X.env).or (lk s (CS hs σ.env)):=by
   rw[Ez,Ez,q.env];cases b:lk s X.env with
   | none=>rfl
   | some v=>simp[ah s v b]
  simp only[CU];cases dst with
  | none=>exact ai
  | some d =>
   simp only[Kr,lk];by_cases au:s=d
   ·grind
   ·grind
 ·simp only[CU,BB,CA,q.objs];cases b:lk n X.objs with
  | none=>simp
  | some u =>
   have Y:MG u=true:=by
    obtain⟨e,j,hp⟩:=k.objs n u b;exact(Gw hn e j _ hp).2.2
   have W:¬Ac n (Ai ren)=true:=λh=>ak n _ b ((Al _ _).1 h);rw[F n _ b,An W];exact ADB some (Y5 Y)
end
section
variable {c:Cx} {ops:List Oper} {Kf:St->Prop} {τ:St} {ens:EN} {vc:Prop}
theorem A2r {D:List Nat} (h:mB c.tb ops τ.objs D [] τ.env=some (vc,ens)) (b:vc) (a:SG ens τ.objs=true) (hk:Kf (ME ens τ)):Mix c ops Kf [] D ens τ:=⟨⟨vc,h,b,a⟩,hk⟩
theorem A2s {A D:List Nat} {l:Nat} {b:List (List Nat×Nat)} {o:Oper} {d:St} {a:EN} (h:mB c.tb ops τ.objs (A++qs b D) [] τ.env=some (vc,ens)) (j:vc) (g:SG ens τ.objs=true) (i:ops[l]?=some o) (k:ME (ens.take A.length) τ=d) (f:ens.drop A.length=a)
  (e:mC c o d a (λm=>Mix c ops Kf b D a m)):Mix c ops Kf ((A,l) :: b) D ens τ:=by
 subst k f;exact⟨⟨vc,h,j,g⟩,o,i,e⟩
end
end
section
open Go
attribute [local go_sem] fV AM List.toList_toArray Bu evG evK YM Ey Ke Gt F7 Ir TP Nr DK DU Mv Cc DC frz lE Gl DT BA Fz Bg AV.frz AV.frzs AV.drp AV.drps AV.names AV.namess aq Gn LO KT US JQ Bh Bn Jm Ee Ij Ef Il Ik Im VS Pd HH KV F1 EX VT Ry qUn Jn Io Lr FW Du JT KW Eg UT Df Eh FI Rz Ip Np Fh Nn Pe R0 Ls JU KX Ei Dv HR Dx Hq Dg FJ Dh Ej F3 Cc Cq Pb Rx OO Gh JS JR KU Ph TM Nq Lw Lu Ka TN Lv Kb aV Pj Pi AV.trn AV.trns FB DJ Obj.trn J4 gH Dw El EY Ek Cg FK Am lk HV Gm Hm bin lD YQ lG TK yZ y3 pfs AV.cells CK Jk Pc KZ Pg CZ Nl Ty.cell1 Ii FC Dt GK LN FA KS Lq Ru Fg HG Ng UQ VR Lp KQ aR eU TJ Nm DB Jl RV.flat Ty.flat Ty.size St.add upd del Bi Value.oneCell' Lj Ty.dflt Ih Pz Hz QH List.take_succ_cons List.take_zero List.length_cons f6 f7 QG Jy MB Hh Jz A23 F8 M9 NA NB NC SA SB ND Ix Vl Option.map_some Option.map_none Option.bind_some Option.getD_some Option.getD_none Option.isNone_none Option.isNone_some Bool.and_true Bool.true_and Bool.and_false Bool.false_and Bool.not_true Bool.not_false if_true if_false List.length_cons List.length_nil and_true true_and and_self List.all_cons List.all_nil List.append_nil List.nil_append List.cons_append List.getElem?_cons_zero List.getElem?_cons_succ List.getElem?_nil List.map_cons List.map_nil List.set_cons_zero List.set_cons_succ List.isEmpty_nil List.isEmpty_cons decide_true decide_false beq_self_eq_true bne_self_eq_false Nat.zero_add Nat.add_zero Nat.sub_zero Int.toNat_natCast Int.toNat_zero Int.toNat_one List.take_length List.length_append List.length_singleton true_or or_true or_self false_or or_false Ty.agg.injEq Ty.slice.injEq Ty.prod.injEq Ty.int.injEq Option.some.injEq beq_iff_eq Lk evMG evMQ opM H5 L8 B4 Jw HI QA Ju H0 Iy Kn LU Oc Nv Od UW L9 QB QC Jv Ac Aj Op.operands Call.operands List.filterMap_cons List.filterMap_nil List.append_eq Bool.cond_false_right Bool.cond_true_left cond_true cond_false implies_true decide_eq_true_eq beq_true beq_false Bool.or_true Bool.or_false Bool.true_or Bool.false_or Option.isSome_some Array.empty_append List.append_toArray F0 Mw FL Hn aU Pf F2 GS GR Iq Ho KY Lt YR lF Hl inB Kd F4 Gi Jo Ao f8 List.drop_zero Dm H6 bT CU Kr CS AV.fgt AV.fgts Obj.fgt Az Ai Ac DM Ig BS Gu List.any_cons List.any_nil mB gB bU gC ME SG qs List.flatMap_cons List.flatMap_nil List.cons_append tn bX J5 List.take_succ_cons List.drop_succ_cons CB CT Af FO Km Bp FN Dz Hx Iw GW Hy
end
end Go.Proofs.YtapkhdkbkodbjaaGreat.Fw
