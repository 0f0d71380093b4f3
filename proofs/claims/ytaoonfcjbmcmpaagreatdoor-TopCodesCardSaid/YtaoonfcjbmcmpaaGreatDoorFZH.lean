/- Regions in which operations on memory float among quiet ones. -/
import Derived.Test.YtaoonfcjbmcmpaaGreatDoorFZG
set_option linter.unusedVariables false
set_option linter.unusedSimpArgs false
namespace Go.Proofs.YtaoonfcjbmcmpaaGreatDoor.Fw
section
open Go Go.RowKit
abbrev EN:=List (Nat×AV×List (Nat×Obj))
def Wq (x:Option Oper) (f:Oper->Option (Prop×EN)):Option (Prop×EN) :=
 match x with
 | some o=>f o
 | none=>none
def U1 (d:Option Nat) (r:BU) (f:Nat->Prop->AV->List (Nat×Obj)->Option (Prop×EN)):Option (Prop×EN) :=
 match d,r with
 | some d,some (vc,v,obs)=>f d vc v obs
 | _,_=>none
def Wr (d:Nat) (vc:Prop) (v:AV) (obs:List (Nat×Obj)) (r:Option (Prop×EN)):Option (Prop×EN) :=
 match r with
 | some (a,l)=>some (vc/\a,(d,v,obs) :: l)
 | none=>none
def Y6 (tb:Tb) (ops:List Oper) (base:List (Nat×Obj)):List Nat->List (Nat×List (Nat×Obj))->List (Nat×AV)->Option (Prop×EN)
 | [],_,_=>some (True,[])
 | i :: Q,E,env=>Wq (ops[i]?) λo=>U1 o.dst (aq tb ⟨env,KN false o.op base E⟩ (o.dst.getD 0) o.op) λd vc v obs=>Wr d vc v obs (Y6 tb ops base Q (Ia d obs E) ((d,v) :: env))
def KU:EN->St->St
 | [],σ=>σ
 | (d,v,obs) :: r,σ=>KU r ⟨(d,v) :: σ.env,obs++σ.objs⟩
def N6:EN->List (Nat×Obj)->Bool
 | [],_=>true
 | (_,_,obs) :: r,objs=>(obs.all λp=>(lk p.1 objs).isNone)&&N6 r (obs++objs)
def yF (tb:Tb) (ops:List Oper) (Q:List Nat) (ens:EN) (τ:St):Prop:=∃vc:Prop,Y6 tb ops τ.objs Q [] τ.env=some (vc,ens)/\vc/\N6 ens τ.objs=true
def qs (a:List (List Nat×Nat)) (D:List Nat):List Nat:=(a.flatMap (·.1))++D
def zV (ops:List Oper) (anc:List (List Nat)) (L Q:List Nat):List Nat->List Nat->Bool
 | [],_=>true
 | i :: r,pre=>(match ops[i]? with
   | some o=>o.dst.isSome&&o.guard.isNone&&((Dh o).all λe=>Ac e L||Ac e pre)&&((GQ o.op).all λt=>Q.all λj=>Am ops j != some t||(Ac j (anc.getD i [])&&Ac j pre))&&(pre.all λj=>Am ops j != o.dst)&&!Ac i L&&!Ac i pre
   | none=>false)&&zV ops anc L Q r (i :: pre)
def Pk (ops:List Oper) (anc:List (List Nat)) (p0:Nat):List Nat->List (List Nat×Nat)->List Nat->Bool
 | L,[],D=>zV ops anc L D D []&&((List.range p0).all λi=>Ac i L||Ac i D)&&decide (L.length+D.length=p0)&&decide (p0<=ops.length)&&(L.all λi=>decide (i<p0))&&(D.all λi=>decide (i<p0))&&((List.range ops.length).all λi=>decide (i<p0)||(List.range i).all λj=>Ac j (anc.getD i []))
 | L,(A,l) :: a,D=>zV ops anc L (A++qs a D) (A++qs a D) []&&(match ops[l]? with
   | some o=>o.guard.isNone&&((Dh o).all λe=>Ac e L||Ac e A)&&(A.all λj=>Ac j (anc.getD l []))&&!Ac l L&&!Ac l (A++qs a D)
   | none=>false)&&(a.all λp=>Ac l (anc.getD p.2 []))&&Pk ops anc p0 (l :: (A++L)) a D
def yG (ops:List Oper) (anc:List (List Nat)):Bool :=
 (List.range ops.length).all λi=>match ops[i]? with|some o=>((Dh o).all λe=>decide (e<i))&&((anc.getD i []).all λj=>Ac j (Dh o)||(Dh o).any λe=>Ac j (anc.getD e []))|none=>false
structure Nn (σ σ' X:St):Prop where
 env:∀s,lk s σ'.env=(lk s X.env).or (lk s σ.env)
 objs:∀n,lk n σ'.objs=(lk n X.objs).or (lk n σ.objs)
structure XIn (ens:EN) (X:St):Prop where
 env:∀s v,lk s X.env=some v->∃obs,(s,v,obs)∈ens
 objs:∀n o,lk n X.objs=some o->∃e∈ens,(n,o)∈e.2.2
def Y7 (c:Cx) (o:Oper) (σ:St) (ens:EN) (N:St->Prop):Prop :=
 ∀(X σ':St),Nn σ σ' X->XIn ens X->∀(a:Act) (w:World) (next:Act->World->Prop) (Q:Exit->Act->World->Prop),c.sat σ' a w ->
  (∀τ,N τ->∀(b:Act) (w':World) (d:St),Nn τ d X->c.sat d b w'->next b w')->o.wpIn (FR c.r) 0 c.P a w next Q
def lG (c:Cx) (ops:List Oper) (Kf:St->Prop):List (List Nat×Nat)->List Nat->EN->St->Prop
 | [],D,ens,τ=>yF c.tb ops D ens τ/\Kf (KU ens τ)
 | (A,l) :: a,D,ens,τ=>yF c.tb ops (A++qs a D) ens τ/\∃o,ops[l]?=some o/\Y7 c o (KU (ens.take A.length) τ) (ens.drop A.length) (λb=>lG c ops Kf a D (ens.drop A.length) b)
def MD (Q:List Nat) (ens:EN) (i:Nat):En :=
 match lk i (Q.zip ens) with
 | some (_,v,obs)=>⟨true,v,obs⟩
 | none=>⟨true,.top,[]⟩
section
variable {ops:List Oper} {en:Nat->En} {τ:St}
theorem N7:∀(l:List Nat),(Ar ops en τ l).env=(Ar ops en ⟨[],[]⟩ l).env++τ.env
 | []=>rfl
 | i :: r=>by
  simp only[Ar];cases Am ops i with
  | none=>simp only[St.add];exact N7 r
  | some d=>simp only[St.add,ABe];rw[N7 r]
theorem Y8 (l:List Nat):(Ar ops en τ l).objs=(Ar ops en ⟨[],[]⟩ l).objs++τ.objs:=by
 rw[E6,E6];simp
theorem lH (l:List Nat):Nn τ (Ar ops en τ l) (Ar ops en ⟨[],[]⟩ l) :=
 ⟨λs=>by rw[N7,BI],λn=>by rw[Y8,BI]⟩
structure yH (ops:List Oper) (en:Nat->En) (τ:St) (Q:List Nat):Prop where
 slot:∀i∈Q,∀j∈Q,∀s,Am ops i=some s->Am ops j=some s->i=j
 new:∀i∈Q,∀n o,lk n (en i).obs=some o->lk n τ.objs=none
 name:∀i∈Q,∀j∈Q,∀n o o',lk n (en i).obs=some o->lk n (en j).obs=some o'->i=j
theorem lI {Q l:List Nat} (h:yH ops en τ Q) (d:∀i∈l,i∈Q) (s:Nat) (v:AV):lk s (Ar ops en τ l).env=some v↔(∃i∈l,Am ops i=some s/\(en i).v=v)\/((∀i∈l,Am ops i≠some s)/\lk s τ.env=some v):=by
 rw[E7];cases a:l.find? (λj=>Am ops j==some s) with
 | none =>
  have e:∀i∈l,Am ops i≠some s:=λi hi=>by simpa using ACr.1 a i hi
  constructor
  .grind
  grind
 | some j =>
  have c:=ABG a;have b:Am ops j=some s:=by simpa using ACL a
  constructor
  .grind
  rintro (⟨i,hi,f,rfl⟩|⟨e,_⟩)
  .rw[h.slot i (d i hi) j (d j c) s f b]
  exact absurd b (e j c)
theorem lJ {Q l:List Nat} (h:yH ops en τ Q) (e:∀i∈l,i∈Q) (n:Nat) (o:Obj):lk n (Ar ops en τ l).objs=some o↔(∃i∈l,lk n (en i).obs=some o)\/((∀i∈l,lk n (en i).obs=none)/\lk n τ.objs=some o):=by
 rw[E6,BI];cases b:lk n (l.flatMap λj=>(en j).obs) with
 | some g =>
  obtain⟨j,d,a⟩:=aV b;simp only[ACv];constructor
  .grind
  rintro (⟨i,hi,c⟩|⟨f,_⟩)
  .have:=h.name i (e i hi) j (e j d) n o g c a;subst this;rw[<-a,c]
  rw[f j d]at a;cases a
 | none =>
  have f:=JJ b;simp only[Option.none_or];constructor
  .grind
  grind
theorem fD {Q l A:List Nat} (h:yH ops en τ Q) (q:∀i∈l,i∈Q) (r:∀i∈A,i∈l):Nn (Ar ops en τ A) (Ar ops en τ l) (Ar ops en ⟨[],[]⟩ (l.filter λi=>!Ac i A)):=by
 have k:yH ops en ⟨[],[]⟩ Q:=⟨h.slot,λ_ _ _ _ _=>rfl,h.name⟩;have e:∀i∈l.filter (λi=>!Ac i A),i∈Q:=λi hi=>q i (tO.1 hi).1;have t:∀i∈A,i∈Q:=λi hi=>q i (r i hi);have p:∀i,i∈l.filter (λi=>!Ac i A)↔i∈l/\i∉A:=λi=>by grind [Ah,Ac]
 refine⟨λs=>ACy λv=>?_,λn=>ACy λo=>?_⟩
 .rw[lI h q,Option.or_eq_some_iff,lI k e,lI h t];constructor
  .rintro (⟨i,hi,d,a⟩|⟨g,a⟩)
   .by_cases c:i∈A
    .refine .inr ⟨?_,.inl ⟨i,c,d,a⟩⟩;cases b:lk s (Ar ops en ⟨[],[]⟩ (l.filter λi=>!Ac i A)).env with
     | none=>rfl
     | some u =>
      rcases (lI k e s u).1 b with ⟨j,f,m,_⟩|⟨_,b⟩
      .have:=h.slot i (q i hi) j (e j f) s d m;subst this;exact absurd c ((p i).1 f).2
      cases b
    exact .inl (.inl ⟨i,(p i).2 ⟨hi,c⟩,d,a⟩)
   refine .inr ⟨?_,.inr ⟨λi hi=>g i (r i hi),a⟩⟩;cases b:lk s (Ar ops en ⟨[],[]⟩ (l.filter λi=>!Ac i A)).env with
   | none=>rfl
   | some u =>
    rcases (lI k e s u).1 b with ⟨j,f,m,_⟩|⟨_,b⟩
    .exact absurd m (g j ((p j).1 f).1)
    cases b
  rintro ((⟨i,hi,d,a⟩|⟨_,a⟩)|⟨b,⟨i,hi,d,a⟩|⟨g,a⟩⟩)
  .grind
  .cases a
  .grind
  refine .inr ⟨λi hi d=>?_,a⟩;by_cases c:i∈A
  .exact g i c d
  have:=(lI k e s (en i).v).2 (.inl ⟨i,(p i).2 ⟨hi,c⟩,d,rfl⟩);rw[b]at this;cases this
 rw[lJ h q,Option.or_eq_some_iff,lJ k e,lJ h t];constructor
 .rintro (⟨i,hi,a⟩|⟨g,a⟩)
  .by_cases c:i∈A
   .refine .inr ⟨?_,.inl ⟨i,c,a⟩⟩;cases b:lk n (Ar ops en ⟨[],[]⟩ (l.filter λi=>!Ac i A)).objs with
    | none=>rfl
    | some u =>
     rcases (lJ k e n u).1 b with ⟨j,f,m⟩|⟨_,b⟩
     .have:=h.name i (q i hi) j (e j f) n _ _ a m;subst this;exact absurd c ((p i).1 f).2
     cases b
   exact .inl (.inl ⟨i,(p i).2 ⟨hi,c⟩,a⟩)
  refine .inr ⟨?_,.inr ⟨λi hi=>g i (r i hi),a⟩⟩;cases b:lk n (Ar ops en ⟨[],[]⟩ (l.filter λi=>!Ac i A)).objs with
  | none=>rfl
  | some u =>
   rcases (lJ k e n u).1 b with ⟨j,f,m⟩|⟨_,b⟩
   .rw[g j ((p j).1 f).1]at m;cases m
   cases b
 rintro ((⟨i,hi,a⟩|⟨_,a⟩)|⟨b,⟨i,hi,a⟩|⟨g,a⟩⟩)
 .grind
 .cases a
 .grind
 refine .inr ⟨λi hi=>?_,a⟩;by_cases c:i∈A
 .exact g i c
 cases d:lk n (en i).obs with
 | none=>rfl
 | some u =>
  have:=(lJ k e n u).2 (.inl ⟨i,(p i).2 ⟨hi,c⟩,d⟩);rw[b]at this;cases this
end
def lK (tb:Tb) (ops:List Oper) (τ:St) (en:Nat->En) (pre:List Nat) (i:Nat) (o:Oper):Prop :=
 ∃vc:Prop,aq tb ⟨(Ar ops en τ pre).env,B1 false (GQ o.op) τ.objs (ES ops en pre)⟩ (o.dst.getD 0) o.op=some (vc,(en i).v,(en i).obs)/\vc
theorem Ws {ts:List Nat} {base:List (Nat×Obj)} {d:Nat} {obs:List (Nat×Obj)} {E:List (Nat×List (Nat×Obj))}:B1 false ts base (Ia d obs E)=B1 false ts base ((d,obs) :: E):=by
 cases obs with
 | nil=>simp only[Ia,B1,AAK];split<;>rfl
 | cons x r=>rfl
theorem lL {o:Op} {base:List (Nat×Obj)} {E:List (Nat×List (Nat×Obj))}:KN false o base E=B1 false (GQ o) base E:=by
 cases E<;>rfl
theorem TG {tb:Tb} {ops:List Oper} {τ:St} {en:Nat->En}:∀ {Q:List Nat} {ens:EN} {pre:List Nat} {E:List (Nat×List (Nat×Obj))} {vc:Prop},Y6 tb ops τ.objs Q E (Ar ops en τ pre).env=some (vc,ens)->vc ->
  (∀ts,B1 false ts τ.objs E=B1 false ts τ.objs (ES ops en pre))->(∀(j i:Nat) (e:Nat×AV×List (Nat×Obj)),Q[j]?=some i->ens[j]?=some e->en i=⟨true,e.2.1,e.2.2⟩) ->
  ens.length=Q.length/\∀(j i:Nat),Q[j]?=some i->∃(o:Oper) (e:Nat×AV×List (Nat×Obj)),ops[i]?=some o/\ens[j]?=some e/\Am ops i=some e.1/\lK tb ops τ en ((Q.take j).reverse++pre) i o
 | [],ens,pre,E,vc,h,t,l,n=>by grind [Y6]
 | i :: Q,ens,pre,E,vc,h,t,l,n=>by
  simp only[Y6]at h;cases b:ops[i]? with
  | none=>rw[b]at h;simp[Wq]at h
  | some o =>
   rw[b]at h;simp only[Wq]at h;cases a:o.dst with
   | none=>rw[a]at h;simp[U1]at h
   | some d =>
    cases c:aq tb ⟨(Ar ops en τ pre).env,KN false o.op τ.objs E⟩ (o.dst.getD 0) o.op with
    | none=>rw[c,a]at h;simp[U1]at h
    | some r =>
     obtain⟨A,v,obs⟩:=r;rw[c,a]at h;simp only[U1]at h;cases s:Y6 tb ops τ.objs Q (Ia d obs E) ((d,v) :: (Ar ops en τ pre).env) with
     | none=>rw[s]at h;simp[Wr]at h
     | some p =>
      obtain⟨C,B⟩:=p;rw[s]at h;simp only[Wr]at h;cases h;have hi:=n 0 i (d,v,obs) rfl rfl;have m:Am ops i=some d:=by simp[Am,b,a]
      have y:(Ar ops en τ (i :: pre)).env=(d,v) :: (Ar ops en τ pre).env:=by simp[Ar,m,St.add,hi]
      have u:=TG (pre:=i :: pre) (by rw[y];exact s) t.2 (λts=>by
       rw[Ws];simp only[ES,oR,m,ABJ,hi,B1];rw[l ts];rfl) (λj k e f g=>n (j+1) k e (by simpa using f) (by simpa using g))
      refine⟨by simp[u.1],λj k q=>?_⟩;cases j with
      | zero =>
       simp only[ABt,AAU]at q;subst q;refine⟨o,(d,v,obs),b,rfl,m,A,?_,t.1⟩;rw[lL,l]at c;simp only[AB6,List.reverse_nil,AAK];rw[hi];exact c
      | succ j =>
       obtain⟨z,e,f,g,w,x⟩:=u.2 j k (by simpa using q);refine⟨z,e,f,by simpa using g,w,?_⟩;simpa[AAJ] using x
theorem N8:∀ {ens:EN} {objs:List (Nat×Obj)},N6 ens objs=true->∀(j:Nat) (e:Nat×AV×List (Nat×Obj)),ens[j]?=some e->∀n o,lk n e.2.2=some o->lk n objs=none/\∀(b:Nat) (a:Nat×AV×List (Nat×Obj)) (f:Obj),ens[b]?=some a->lk n a.2.2=some f->j=b
 | [],objs,_,j,e,h=>by simp at h
 | (d,v,obs) :: r,objs,h,j,e,i=>by
  simp only[N6,AT,IS,AAu]at h;have g:∀n o,lk n obs=some o->lk n objs=none:=λn o c=>h.1 _ (FM c);have k:=N8 h.2;grind [lk,BI]
end
section
open Go Go.RowKit
structure TH (ops:Array Oper) (anc:List (List Nat)):Prop where
 lt:∀i o,ops[i]?=some o->∀e∈Dh o,e<i
 cl:∀i o,ops[i]?=some o->∀j∈anc.getD i [],j∈Dh o\/∃e∈Dh o,j∈anc.getD e []
theorem A0j {ops:Array Oper} {anc:List (List Nat)} (h:yG ops.toList anc=true):TH ops anc:=by
 simp only[yG,IS,gO]at h;have hi:∀i o,ops[i]?=some o->((Dh o).all λe=>decide (e<i))=true/\((anc.getD i []).all λj=>Ac j (Dh o)||(Dh o).any λe=>Ac j (anc.getD e []))=true:=by grind
 refine⟨λi o a e b=>?_,λi o a j c=>?_⟩
 .grind
 grind [Ah]
section
variable {ops:Array Oper} {k:Nat} {anc:List (List Nat)} {Q:Exit->Act->World->Prop}
theorem PD (a:TH ops anc) {listed:Array Bool} (h:∀i o,ops[i]?=some o->listed.getD i true=true->∀e∈Dh o,listed.getD e false=true) :
  ∀i o,ops[i]?=some o->(∀e∈Dh o,listed.getD e false=true)->∀j∈anc.getD i [],listed.getD j false=true:=by
 intro i;induction i using Nat.strongRecOn with
 | _ i m =>
  intro o b d j g;rcases a.cl i o b j g with c|⟨e,f,k⟩
  .exact d j c
  have l:=a.lt i o b e f;grind
theorem N9 {F:Fence} {P:Program} (g:TH ops anc) (s:∀i o,ops[i]?=some o->k<=i->∀j,j<i->j∈anc.getD i []):∀ {rest:List Oper} {p:Nat} {listed:Array Bool} {a:Act} {w:World},ops.toList.drop p=rest->k<=p->p<=ops.size->listed.size=ops.size ->
  (∀i,i<ops.size->(listed.getD i true=true↔i<p))->wpListIn F 0 P ops Q rest a w->wpAnyIn F 0 P .any ops Q rest.length listed a w
 | [],p,listed,a,w,m,E,G,n,f,c=>by
  have hp:p=ops.size:=by
   have:=p7 List.length m;simp at this;omega
  refine⟨?_,c⟩;apply AC5.2;grind [DL]
 | o :: r,p,listed,a,w,m,E,G,n,f,c=>by
  obtain⟨d,x⟩:=TB m;have d:ops[p]?=some o:=by simpa using d
  have H:p<ops.size:=(oS.1 d).1;have y:∀e b,e<ops.size->listed.getD e b=listed.getD e true:=λe b h=>by grind
  have N:∀i o,ops[i]?=some o->listed.getD i true=true->∀e∈Dh o,listed.getD e false=true:=by
   intro i o v l e h;have J:i<ops.size:=(oS.1 v).1;have L:=(f i J).1 l;have M:=g.lt i o v e h;grind
  have I:∀i,i∈Region.ready .any ops listed->i=p:=by grind [DL,PD]
  refine⟨λO=>?_,λi hi=>?_⟩
  .exfalso;have:p∈Region.ready .any ops listed:=by
    rw[DL];refine⟨?_,o,d,λe h=>?_⟩
    .cases A:listed.getD p true with
     | false=>rfl
     | true=>have:=(f p H).1 A;omega
    have:=g.lt p o d e h;rw[y e false oa];exact(f e oa).2 this
   grind
  have B:=I i hi;subst B;have u:∀(j:Nat),j<ops.size->((listed.setIfInBounds i true).getD j true=true↔j<i+1):=by
   intro j C;have D:j<listed.size:=by omega
   by_cases t:j=i
   .subst t;simp[Array.getD,D]
   have l:(listed.setIfInBounds i true).getD j true=listed.getD j true:=getD_set_ne true (λe=>t e.symm);rw[l,f j C];omega
  unfold wpOpIn;rw[d];simp only;unfold wpListIn at c;split
  .rename_i q;rw[At q]at c;exact Oper.wpIn_mono (λK w' z=>N9 g s x.symm oa oa (by simpa using n) u z) c
  rename_i q;rw[As q]at c;exact⟨c.1,N9 g s x.symm oa oa (by simpa using n) u c.2⟩
end
structure zW (ops:List Oper) (anc:List (List Nat)) (L Q:List Nat):Prop where
 nodup:Q.Nodup
 pos:∀(j i:Nat),Q[j]?=some i->i∉L/\∃o,ops[i]?=some o/\o.guard=none/\(∀e∈Dh o,e∈L\/e∈Q.take j)/\(∀t∈GQ o.op,∀k∈Q,Am ops k=some t->k∈anc.getD i []/\k∈Q.take j)
 slot:∀i∈Q,∀j∈Q,∀s,Am ops i=some s->Am ops j=some s->i=j
theorem Wt {ops:List Oper} {anc:List (List Nat)} {L Q:List Nat}:∀ {r pre:List Nat},zV ops anc L Q r pre=true ->
  (∀(j i:Nat),r[j]?=some i->i∉L/\i∉pre/\i∉r.take j/\∃o,ops[i]?=some o/\o.guard=none/\(∀e∈Dh o,e∈L\/e∈pre\/e∈r.take j)/\(∀t∈GQ o.op,∀k∈Q,Am ops k=some t->k∈anc.getD i []/\(k∈pre\/k∈r.take j)) /\
   ∀k,k∈pre\/k∈r.take j->Am ops k≠Am ops i)
 | [],pre,h,j,i,b=>by simp at b
 | x :: r,pre,h,j,i,b=>by
  simp only[zV,AT]at h;obtain⟨a,q⟩:=h;cases j with
  | zero =>
   simp only[ABt,AAU]at b;subst b;cases l:ops[x]? with
   | none=>rw[l]at a;cases a
   | some o =>
    rw[l]at a;simp only[AT,IS,bY,Ah,ABW,OF,AAu]at a;obtain⟨⟨⟨⟨⟨⟨g1,p⟩,z⟩,A⟩,B⟩,f⟩,g⟩:=a;refine⟨λh=>(by rw[(Ah _ _).2 h]at f;cases f),λh=>(by rw[(Ah _ _).2 h]at g;cases g),by simp,o,rfl,p,λe u=>?_,λt v k d s=>?_,λk d=>?_⟩
    .grind
    .grind
    grind [Am]
  | succ j =>
   obtain⟨m,c,a3,o,a4,a5,w,y,n⟩:=Wt q j i (by simpa using b);simp only[Is,not_or]at c;refine⟨m,c.2,by simp[AAJ,c.1,a3],o,a4,a5,λe u=>?_,λt v k d s=>?_,λk d=>n k ?_⟩
   .grind
   .grind
   grind
theorem Wu {α:Type} {l:List α} {i j:Nat} {x:α} (h:l[i]?=some x) (a:i<j):x∈l.take j:=by
 rw[AAd];exact⟨i,by rw[AA3,At a];exact h⟩
theorem qOk {ops:List Oper} {anc:List (List Nat)} {L Q:List Nat} (h:zV ops anc L Q Q []=true):zW ops anc L Q:=by
 have hs:=Wt h;have g:∀ {i j x y:Nat},Q[i]?=some x->Q[j]?=some y->i<j->x≠y/\Am ops x≠Am ops y:=by grind [Wu]
 refine⟨?_,λj i c=>?_,λi hi j c s n p=>?_⟩
 .rw[List.nodup_iff_pairwise_ne,iN];intro i j hi c f e;exact(g (DO hi) (DO c) f).1 e
 .obtain⟨d,_,_,o,a4,a5,l,m,_⟩:=hs j i c;refine⟨d,o,a4,a5,λe v=>?_,λt z k w u=>?_⟩
  .grind
  grind
 obtain⟨a,q⟩:=AAd.1 hi;obtain⟨b,r⟩:=AAd.1 c;grind
theorem Y9:∀ {Q:List Nat} {ens:EN},Q.Nodup->∀(j i:Nat) (e:Nat×AV×List (Nat×Obj)),Q[j]?=some i->ens[j]?=some e->MD Q ens i=⟨true,e.2.1,e.2.2⟩
 | [],ens,_,j,i,e,h,_=>by simp at h
 | x :: Q,[],_,j,i,e,_,h=>by simp at h
 | x :: Q,f :: ens,c,j,i,e,a,b=>by
  cases j with
  | zero =>
   simp only[ABt,AAU]at a b;subst a;subst b;simp[MD,List.zip_cons_cons,lk]
  | succ j =>
   have a:Q[j]?=some i:=by simpa using a
   have d:i≠x:=λe=>by grind
   have:=Y9 (AAn.1 c).2 j i e a (by simpa using b);simp only[MD,List.zip_cons_cons,lk,As d]at this ⊢;exact this
structure Fr (tb:Tb) (ops:List Oper) (anc:List (List Nat)) (L Q:List Nat) (ens:EN) (τ:St):Prop where
 q:zW ops anc L Q
 len:ens.length=Q.length
 own:yH ops (MD Q ens) τ Q
 at_:∀(j i:Nat),Q[j]?=some i->∃(o:Oper) (e:Nat×AV×List (Nat×Obj)),ops[i]?=some o/\ens[j]?=some e/\Am ops i=some e.1/\MD Q ens i=⟨true,e.2.1,e.2.2⟩/\lK tb ops τ (MD Q ens) (Q.take j).reverse i o
theorem lM {tb:Tb} {ops:List Oper} {anc:List (List Nat)} {L Q:List Nat} {ens:EN} {τ:St} (d:zW ops anc L Q) (h:yF tb ops Q ens τ):Fr tb ops anc L Q ens τ:=by
 obtain⟨vc,p,q,r⟩:=h;have w:=λ(j i:Nat) (e:Nat×AV×List (Nat×Obj))=>Y9 (ens:=ens) d.nodup j i e;obtain⟨v,A⟩:=TG (en:=MD Q ens) (pre:=[]) p q (λts=>rfl) w;have k:∀i∈Q,∃(j:Nat) (e:Nat×AV×List (Nat×Obj)),Q[j]?=some i/\ens[j]?=some e/\MD Q ens i=⟨true,e.2.1,e.2.2⟩:=by
  intro i hi;obtain⟨j,c⟩:=AAd.1 hi;grind
 refine⟨d,v,⟨d.slot,λi hi n o B=>?_,λi hi j c n o z f g=>?_⟩,λj i c=>?_⟩
 .grind [N8]
 .obtain⟨a,e,s,t,x⟩:=k i hi;obtain⟨b,m,l,u,y⟩:=k j c;rw[x]at f;rw[y]at g;have:=(N8 r a e t n o f).2 b m z u g;subst this;rw[s]at l;injection l
 grind
theorem fE {ops:List Oper} {en:Nat->En} {τ:St} {Q:List Nat} (h:yH ops en τ Q) {ts pre e:List Nat} (hp:∀j∈pre,j∈Q) (g:∀j∈e,j∈Q) (f:∀j∈pre,Ac ((Am ops j).getD 0) ts=true->j∈e) {n:Nat} {o:Obj} :
  lk n (B1 false ts τ.objs (ES ops en pre))=some o->lk n (Ar ops en τ e).objs=some o:=by
 rw[lJ h g];induction pre with
 | nil =>
  simp only[ES,ACK,B1];intro a;refine .inr ⟨λj c=>?_,a⟩;cases b:lk n (en j).obs with
  | none=>rfl
  | some k=>have:=h.new j (g j c) n k b;rw[this]at a;cases a
 | cons i r d =>
  simp only[ES,oR,B1];have d:=d (λj c=>hp j (by simp[c])) (λj c=>f j (by simp[c]));split
  .rename_i l;intro a;rw[BI]at a;cases b:lk n (en i).obs with
   | some k =>
    rw[b]at a;simp only[ACv]at a;cases a;exact .inl ⟨i,f i sa (by simpa using l),b⟩
   | none =>
    rw[b]at a;exact d (by simpa[ES] using a)
  exact d
theorem LJ {p:Nat×Obj}:∀ {l:List (Nat×Obj)},p∈l->∃b,lk p.1 l=some b
 | (c,d) :: r,h=>by
  simp only[lk];by_cases a:p.1=c
  .simp_all
  rw[As a];rcases Is.1 h with rfl|h
  .exact absurd rfl a
  exact LJ h
theorem ZA {c:Cx} (B:c.Ok) {ops:List Oper} {anc:List (List Nat)} {L Q:List Nat} {ens:EN} {τ:St} (hF:Fr c.tb ops anc L Q ens τ) {b:List Nat} (m:∀i∈b,i∈Q) {j i:Nat} {o:Oper} (y:Q[j]?=some i) (A:ops[i]?=some o) (am:i∉b)
  (ag:∀k∈anc.getD i [],k∈Q->k∈b) (R:∀d,o.dst=some d->d<c.nt) {a:Act} {w:World} {next:Act->World->Prop} {Qe:Exit->Act->World->Prop} (hs:c.sat (Ar ops (MD Q ens) τ b) a w)
  (z:∀D w',c.sat (Ar ops (MD Q ens) τ (i :: b)) D w'->next D w'):o.wpIn (FR c.r) 0 c.P a w next Qe:=by
 obtain⟨s,e,G,ai,af,aq,vc,X,aa⟩:=hF.at_ j i y;rw[A]at G;cases G;obtain⟨_,ar,H,_,_,ap⟩:=hF.q.pos j i y;rw[A]at H;cases H;have C:∀k∈(Q.take j).reverse,k∈Q:=λk l=>AAv (by simpa using l);have W:x8 ⟨(Ar ops (MD Q ens) τ (Q.take j).reverse).env,B1 false (GQ o.op) τ.objs (ES ops (MD Q ens) (Q.take j).reverse)⟩ (Ar ops (MD Q ens) τ b) o.op.operands.toList:=by
  intro x ab v h;cases x with
  | tmp t =>
   simp only[Ae]at h ⊢;have ao:t∈GQ o.op:=ACp.2 ⟨_,ab,rfl⟩;rw[lI hF.own C]at h;rw[lI hF.own m];rcases h with ⟨k,l,aj,ak⟩|⟨an,h⟩
   .grind
   grind
  | const au=>exact h
  | global g=>exact h
  | func f=>exact h
 have V:V9 ⟨(Ar ops (MD Q ens) τ (Q.take j).reverse).env,B1 false (GQ o.op) τ.objs (ES ops (MD Q ens) (Q.take j).reverse)⟩ (Ar ops (MD Q ens) τ b):=by
  intro n s z;refine fE hF.own C m (λk l al=>?_) z;obtain⟨ad,S⟩:=AAd.1 (C k l);obtain⟨_,ae,_,_,ah,_⟩:=hF.at_ ad k S;grind [Ah]
 have Y:=Pu V W X;have F:=AAj y;have E:BS (MD Q ens i).obs (Ar ops (MD Q ens) τ b)=true:=by
  simp only[BS,IS,AAu];intro p hp;obtain⟨s,I⟩:=LJ hp;cases U:lk p.1 (Ar ops (MD Q ens) τ b).objs with
  | none=>rfl
  | some u =>
   rcases (lJ hF.own m p.1 u).1 U with ⟨k,l,T⟩|⟨_,M⟩
   .have:=hF.own.name i F k (m k l) p.1 s u I T;grind
   rw[hF.own.new i F p.1 s I]at M;cases M
 obtain⟨ρ,J⟩:=hs;refine aM (rK B J) Y aa E λu ρ' w' Z=>z _ _ ?_;have N:Am ops i=o.dst:=by simp[Am,A]
 simp only[Ar,N];exact⟨ρ',J.add B.K B.O R E Z⟩
end
section
open Go Go.RowKit
theorem KV:∀ {l l':List Nat},l.Nodup->(∀x∈l,x∈l')->l.length<=l'.length
 | [],_,_,_=>by simp
 | x :: l,l',a,h=>by
  have c:=h x sa;have:=KV (l:=l) (l':=l'.erase x) (AAn.1 a).2 (λy b=>by
   have:y≠x:=λe=>(AAn.1 a).1 (e▸b);exact(ABE this).2 (h y (by simp[b])))
  grind
theorem Hq (A:List Nat) (l:Nat) (a:List (List Nat×Nat)) (D:List Nat):qs ((A,l) :: a) D=A++qs a D:=by simp[qs]
structure A0k (ops:List Oper) (anc:List (List Nat)) (p0:Nat) (L:List Nat) (ps:List (List Nat×Nat)) (D:List Nat):Prop where
 all:∀i,i<p0->i∈L\/i∈qs ps D\/i∈ps.map (·.2)
 back:∀i,p0<=i->i<ops.length->∀j,j<i->j∈anc.getD i []
 L:∀i∈L,i<p0
 Q:∀i∈qs ps D,i<p0
 lo:∀p∈ps,p.2<p0
 p0:p0<=ops.length
theorem Qq {ops:List Oper} {anc:List (List Nat)} {p0:Nat} {L D:List Nat} (h:Pk ops anc p0 L [] D=true):zW ops anc L D/\(∀i,i<p0->i∈L\/i∈D)/\L.length+D.length=p0/\p0<=ops.length/\(∀i∈L,i<p0)/\(∀i∈D,i<p0)/\(∀i,p0<=i->i<ops.length->∀j,j<i->j∈anc.getD i []):=by
 simp only[Pk,AT,IS,gO,bY,Do,Ah]at h;grind [qOk]
theorem Ig {ops:List Oper} {anc:List (List Nat)} {p0:Nat} {L D A:List Nat} {l:Nat} {b:List (List Nat×Nat)} (h:Pk ops anc p0 L ((A,l) :: b) D=true):zW ops anc L (A++qs b D)/\(∃o,ops[l]?=some o/\o.guard=none/\(∀e∈Dh o,e∈L\/e∈A))/\(∀j∈A,j∈anc.getD l [])/\l∉L/\l∉A++qs b D/\(∀p∈b,l∈anc.getD p.2 [])/\Pk ops anc p0 (l :: (A++L)) b D=true:=by
 simp only[Pk,AT,IS,Ah]at h;obtain⟨⟨⟨k,a⟩,m⟩,n⟩:=h;cases f:ops[l]? with
 | none=>rw[f]at a;cases a
 | some o =>
  rw[f]at a;simp only[AT,IS,bY,Ah,OF,AAu]at a;obtain⟨⟨⟨⟨g1,g⟩,i⟩,c⟩,d⟩:=a;exact⟨qOk k,⟨o,rfl,g1,g⟩,i,λh=>(by rw[(Ah _ _).2 h]at c;cases c),λh=>(by rw[(Ah _ _).2 h]at d;cases d),m,n⟩
theorem Qr {ops:List Oper} {anc:List (List Nat)} {p0:Nat}:∀ {b:List (List Nat×Nat)} {L D:List Nat},Pk ops anc p0 L b D=true->A0k ops anc p0 L b D
 | [],L,D,h=>by
  obtain⟨_,c,j,d,e,f,g⟩:=Qq h;refine⟨λi hi=>?_,g,e,by simpa[qs] using f,by simp,d⟩;grind [qs]
 | (A,l) :: b,L,D,h=>by
  obtain⟨_,_,_,_,_,_,c⟩:=Ig h;have a:=Qr c;refine⟨λi hi=>?_,a.back,λi hi=>a.L i (by simp[hi]),λi hi=>?_,λp hp=>?_,a.p0⟩
  .rcases a.all i hi with h|h|h
   .grind [Hq]
   .grind [Hq]
   grind
  .rw[Hq,aT]at hi;rcases hi with hi|hi
   .exact a.L i (by simp[hi])
   exact a.Q i hi
  rcases Is.1 hp with rfl|hp
  .exact a.L l sa
  exact a.lo p hp
theorem U2 {ops:List Oper} {en:Nat->En} {τ:St}:∀ {Q:List Nat} {ens:EN} {pre:List Nat},ens.length=Q.length->(∀(j i:Nat) (e:Nat×AV×List (Nat×Obj)),Q[j]?=some i->ens[j]?=some e->Am ops i=some e.1/\en i=⟨true,e.2.1,e.2.2⟩) ->
  KU ens (Ar ops en τ pre)=Ar ops en τ (Q.reverse++pre)
 | [],[],pre,_,_=>rfl
 | [],_ :: _,_,h,_=>by simp at h
 | _ :: _,[],_,h,_=>by simp at h
 | i :: Q,(d,v,obs) :: ens,pre,g,h=>by
  obtain⟨a,b⟩:=h 0 i (d,v,obs) rfl rfl;have:(⟨(d,v) :: (Ar ops en τ pre).env,obs++(Ar ops en τ pre).objs⟩:St)=Ar ops en τ (i :: pre):=by simp[Ar,a,b,St.add]
  simp only[KU];rw[this,U2 (by simpa using g) (λj k e c f=>h (j+1) k e (by simpa using c) (by simpa using f))];simp
section
variable {c:Cx} {ops:Array Oper} {anc:List (List Nat)} {p0:Nat} {Kf:St->Prop} {Qe:Exit->Act->World->Prop}
theorem lN {a:List (List Nat×Nat)} {L D:List Nat} {ens:EN} {τ:St} (b:Pk ops.toList anc p0 L a D=true) (d:lG c ops.toList Kf a D ens τ):Fr c.tb ops.toList anc L (qs a D) ens τ:=by
 cases a with
 | nil =>
  have:qs [] D=D:=rfl;rw[this];exact lM (Qq b).1 d.1
 | cons p a =>
  obtain⟨A,l⟩:=p;rw[Hq];exact lM (Ig b).1 d.1
theorem TJ (y:TH ops anc) {a:List (List Nat×Nat)} {L D:List Nat} {c:List Nat} {listed:Array Bool} (x:Pk ops.toList anc p0 L a D=true) (w:zW ops.toList anc L (qs a D)) (v:∀i∈c,i∈qs a D) (K:listed.size=ops.size)
  (J:∀i,i<ops.size->(listed.getD i true=true↔i∈L\/i∈c)) (B:¬(a=[]/\∀i∈qs a D,i∈c)):∃i,i∈Region.ready .any ops listed:=by
 have F:∀e b,e<ops.size->listed.getD e b=listed.getD e true:=λe b d=>by grind
 have mk:∀i o,ops[i]?=some o->i∉L->i∉c->(∀e∈Dh o,e∈L\/e∈c)->i∈Region.ready .any ops listed:=by
  intro i o g s m G;have M:i<ops.size:=(oS.1 g).1;rw[DL];refine⟨?_,o,g,λe d=>?_⟩
  .grind
  have H:=y.lt i o g e d;grind
 by_cases u:∀i∈qs a D,i∈c
 .cases a with
  | nil=>exact absurd ⟨rfl,u⟩ B
  | cons p a =>
   obtain⟨A,l⟩:=p;rw[Hq]at u v;obtain⟨_,⟨o,g,_,z⟩,_,s,m,_,_⟩:=Ig x;refine⟨l,mk l o (by simpa using g) s (λh=>m (v l h)) λe d=>?_⟩;rcases z e d with h|h
   .exact .inl h
   grind
 have key:∀(n j:Nat),j<=n->(∃i,(qs a D)[j]?=some i/\i∉c)->∃i,i∈Region.ready .any ops listed:=by
  intro n;induction n with
  | zero =>
   rintro j t ⟨i,hi,f⟩;have:j=0:=by omega
   subst this;obtain⟨g1,o,q,_,r,_⟩:=w.pos 0 i hi;refine⟨i,mk i o (by simpa using q) g1 f λe d=>?_⟩;rcases r e d with h|h
   .exact .inl h
   simp at h
  | succ n E =>
   rintro j t ⟨i,hi,f⟩;by_cases C:∃k,k<j/\∃i',(qs a D)[k]?=some i'/\i'∉c
   .obtain⟨k,s,m⟩:=C;exact E k oa m
   obtain⟨g1,o,q,_,r,_⟩:=w.pos j i hi;refine⟨i,mk i o (by simpa using q) g1 f λe d=>?_⟩;rcases r e d with h|h
   .exact .inl h
   right;obtain⟨k,I⟩:=AAd.1 h;grind
 have:∃i,i∈qs a D/\i∉c:=by grind
 obtain⟨i,hi,f⟩:=this;obtain⟨j,t⟩:=AAd.1 hi;exact key j j (If _) ⟨i,t,f⟩
theorem TK (I:TH ops anc) (hT:∀τ,Kf τ->∀a w,c.sat τ a w->wpListIn (FR c.r) 0 c.P ops Qe (ops.toList.drop p0) a w) {m:Nat} {L D:List Nat} {ens:EN} {τ:St} {b:List Nat} {listed:Array Bool} {a:Act} {w:World}
  (G:Pk ops.toList anc p0 L [] D=true) (l:lG c ops.toList Kf [] D ens τ) (O:(L++b).Nodup) (d:∀i∈b,i∈D) (Y:m+L.length+b.length=ops.size) (M:listed.size=ops.size) (K:∀i,i<ops.size->(listed.getD i true=true↔i∈L\/i∈b))
  (hs:c.sat (Ar ops.toList (MD D ens) τ b) a w) (f:∀i∈D,i∈b):wpAnyIn (FR c.r) 0 c.P .any ops Qe m listed a w:=by
 obtain⟨t,x,U,A,V,W,B⟩:=Qq G;have hF:=lM t l.1;have X:b.length=D.length:=jM (KV (wS.1 O).2.1 d) (KV t.nodup f);have N:m=(ops.toList.drop p0).length:=by grind
 have H:KU ens τ=Ar ops.toList (MD D ens) τ D.reverse:=by
  have:=U2 (ops:=ops.toList) (en:=MD D ens) (τ:=τ) (pre:=[]) hF.len (λj i e C E=>by
   obtain⟨o,T,_,g,y,z,_⟩:=hF.at_ j i C;rw[E]at g;cases g;exact⟨y,z⟩)
  simpa[Ar] using this
 have S:c.sat (KU ens τ) a w:=by
  rw[H];have u:∀i∈D.reverse,i∈D:=λi hi=>by simpa using hi
  have q:∀i,i∈b↔i∈D.reverse:=λi=>⟨λh=>by simpa using d i h,λh=>f i (by simpa using h)⟩;refine Ql (λs=>ACy λv=>?_) (λn=>ACy λo=>?_) hs
  .rw[lI hF.own u,lI hF.own d];simp only[q]
  rw[lJ hF.own u,lJ hF.own d];simp only[q]
 have:=N9 (Q:=Qe) (F:=FR c.r) (P:=c.P) I (k:=p0) (λi o R hi j J=>B i hi (by have:=(oS.1 R).1;simpa using this) j J) (rest:=ops.toList.drop p0) (p:=p0) (listed:=listed) (a:=a) (w:=w) rfl (If _) (by simpa using A) M
  (λi hi=>by
   rw[K i hi];constructor
   .grind
   intro h;rcases x i h with h|h
   .exact .inl h
   exact .inr (f i h)) (hT _ l.2 a w S)
 rw[N];exact this
theorem r7 (cm:c.Ok) (cc:∀o∈ops.toList,IX c.nt o=true) (ag:TH ops anc) (hT:∀τ,Kf τ->∀a w,c.sat τ a w->wpListIn (FR c.r) 0 c.P ops Qe (ops.toList.drop p0) a w) :
  ∀(m:Nat) (t:List (List Nat×Nat)) (L D:List Nat) (ens:EN) (τ:St) (d:List Nat) (listed:Array Bool) (a:Act) (w:World),Pk ops.toList anc p0 L t D=true->lG c ops.toList Kf t D ens τ->(L++d).Nodup->(∀i∈d,i∈qs t D) ->
   m+L.length+d.length=ops.size->listed.size=ops.size->(∀i,i<ops.size->(listed.getD i true=true↔i∈L\/i∈d))->(∀i o,ops[i]?=some o->(i∈L\/i∈d)->∀e∈Dh o,e∈L\/e∈d) ->
   c.sat (Ar ops.toList (MD (qs t D) ens) τ d) a w->wpAnyIn (FR c.r) 0 c.P .any ops Qe m listed a w:=by
 intro m;induction m with
 | zero =>
  intro t L D ens τ d listed a w E V I C bb W T ai hs;have hF:=lN E V;by_cases Z:t=[]/\∀i∈qs t D,i∈d
  .obtain⟨rfl,aw⟩:=Z;exact TK ag hT E V I C bb W T hs aw
  exfalso;obtain⟨i,hi⟩:=TJ ag E hF.q C W T Z;rw[DL]at hi;obtain⟨ab,o,F,_⟩:=hi;have aa:i<ops.size:=(oS.1 F).1;have J:i∉L++d:=λh=>by grind
  have O:=Qr E;have:=E8 ops.size (i :: (L++d)) (AAn.2 ⟨J,I⟩) (λj f=>by
   have hp:=O.p0;simp only[AAL]at hp;rcases Is.1 f with rfl|f
   .exact aa
   rcases aT.1 f with f|f
   .have:=O.L j f;omega
   have:=O.Q j (C j f);omega)
  grind
 | succ m bn =>
  intro t L D ens τ d listed a w E V I C bb W T ai hs;have hF:=lN E V;have O:=Qr E;have br:∀e b,e<ops.size->listed.getD e b=listed.getD e true:=λe b G=>by grind
  by_cases Z:t=[]/\∀i∈qs t D,i∈d
  .obtain⟨rfl,aw⟩:=Z;exact TK ag hT E V I C bb W T hs aw
  refine⟨λdb=>?_,λi hi=>?_⟩
  .obtain⟨i,hi⟩:=TJ ag E hF.q C W T Z;grind
  rw[DL]at hi;obtain⟨ab,o,F,cw⟩:=hi;have aa:i<ops.size:=(oS.1 F).1;have J:¬(i∈L\/i∈d):=λh=>by rw[(T i aa).2 h]at ab;cases ab
  have bd:∀e∈Dh o,e∈L\/e∈d:=λe G=>by grind
  have ah:∀j∈anc.getD i [],j∈L\/j∈d:=by
   have cz:∀i o,ops[i]?=some o->listed.getD i true=true->∀e∈Dh o,listed.getD e false=true:=by
    intro i o F ab e G;have aa:i<ops.size:=(oS.1 F).1;have ad:=ag.lt i o F e G;rw[br e false oa];exact(T e oa).2 (ai i o F ((T i aa).1 ab) e G)
   grind [PD]
  have ak:ops.toList[i]?=some o:=by simpa using F
  have cj:o∈ops.toList:=AAj ak;have cb:=BB (cc o cj);have bh:∀(S:List Nat),(∀j,j∈S↔j=i\/j∈L\/j∈d)->∀j,j<ops.size->((listed.setIfInBounds i true).getD j true=true↔j∈S):=by
   intro S bz j f;have ch:j<listed.size:=by omega
   rw[bz];by_cases ba:j=i
   .subst ba;simp[Array.getD,ch]
   have ad:(listed.setIfInBounds i true).getD j true=listed.getD j true:=getD_set_ne true (λe=>ba e.symm);rw[ad,T j f];simp[ba]
  have bm:∀ {g:Option (Nat×Bool)},g=none->o.guard=g->Region.wanted o (yielded ops a.tmps)=true:=by
   intro g ay e;simp[Region.wanted,e,ay]
  by_cases aj:i∈qs t D
  .obtain⟨j,f⟩:=AAd.1 aj;obtain⟨_,de,bi,ay,_,_⟩:=hF.q.pos j i f;rw[ak]at bi;cases bi;unfold wpOpIn;rw[F];simp only;rw[At (bm rfl ay)];refine ZA cm hF C f ak (λh=>J (.inr h)) (λk R ci=>?_) cb hs λao w' cn=>?_
   .rcases ah k R with h|h
    .obtain⟨z,U⟩:=AAd.1 ci;exact absurd h (hF.q.pos z k U).1
    exact h
   refine bn t L D ens τ (i :: d) _ ao w' E V ?_ (λk R=>?_) (by simp only[iF];omega) (by simpa using W) (λk R=>?_) (λi' Y H az e G=>?_) cn
   .rw[wS]at I ⊢;refine⟨I.1,AAn.2 ⟨λh=>J (.inr h),I.2.1⟩,λx u y X=>?_⟩;rcases Is.1 X with rfl|X
    .exact λe=>J (.inl (e▸u))
    exact I.2.2 x u y X
   .rcases Is.1 R with rfl|R
    .exact aj
    exact C k R
   .rw[bh (i :: (L++d)) (λj=>by simp) k R];simp only[Is,aT];constructor
    .rintro (h|h|h)
     .exact .inr (.inl h)
     .exact .inl h
     exact .inr (.inr h)
    rintro (h|h|h)
    .exact .inr (.inl h)
    .exact .inl h
    exact .inr (.inr h)
   have:e∈L\/e∈d:=by
    rcases az with h|h
    .exact ai i' Y H (.inl h) e G
    rcases Is.1 h with rfl|h
    .rw[F]at H;cases H;exact bd e G
    exact ai i' Y H (.inr h) e G
   rcases this with h|h
   .exact .inl h
   exact .inr (by simp[h])
  . -- no operation of the front
   have dc:¬p0<=i:=by
    intro ce;have bc:=O.back i ce (by simpa using aa);cases t with
    | nil =>
     refine Z ⟨rfl,λj f=>?_⟩;have ad:=O.Q j f;rcases ah j (bc j oa) with h|h
     .obtain⟨z,U⟩:=AAd.1 f;exact absurd h (hF.q.pos z j U).1
     exact h
    | cons p t =>
     obtain⟨A,l⟩:=p;obtain⟨_,_,_,aq,ar,_,_⟩:=Ig E;have ad:=O.lo (A,l) sa;simp only at ad;rcases ah l (bc l oa) with h|h
     .exact aq h
     exact ar (by rw[<-Hq A l];exact C l h)
   cases t with
   | nil =>
    rcases O.all i oa with h|h|h
    .exact absurd (.inl h) J
    .exact absurd h aj
    cases h
   | cons p t =>
    obtain⟨A,l⟩:=p;obtain⟨_,⟨ol,bj,cf,da⟩,bu,aq,ar,bs,bv⟩:=Ig E;have cg:i=l:=by
     rcases O.all i oa with h|h|h
     .exact absurd (.inl h) J
     .exact absurd h aj
     simp only[oR,Is,To]at h;rcases h with h|⟨p,hp,rfl⟩
     .exact h
     rcases ah l (bs p hp) with h|h
     .exact absurd h aq
     exact absurd (C l h) (by rw[Hq];exact ar)
    subst cg;rw[ak]at bj;cases bj;rw[Hq]at hF C hs aj;obtain⟨cy,Y,H,bw⟩:=V;rw[ak]at H;cases H;have ae:∀j∈A,j∈d:=λj f=>by
     rcases ah j (bu j f) with h|h
     .obtain⟨z,U⟩:=AAd.1 (show j∈A++qs t D by simp[f]);exact absurd h (hF.q.pos z j U).1
     exact h
    have au:A.Nodup/\(qs t D).Nodup/\∀x∈A,∀y∈qs t D,x≠y:=wS.1 hF.q.nodup;have ca:KU (ens.take A.length) τ=Ar ops.toList (MD (A++qs t D) ens) τ A.reverse:=by
     have:=U2 (ops:=ops.toList) (en:=MD (A++qs t D) ens) (τ:=τ) (pre:=[]) (Q:=A) (ens:=ens.take A.length) (by have:=hF.len;simp only[YT]at this;simp only[OS];omega) (λj i e N B=>by
      have bg:j<A.length:=(ON.1 N).1;obtain⟨o,cv,_,K,M,ap,_⟩:=hF.at_ j i (by rw[AA5 bg];exact N);rw[AA3,At bg,K]at B;cases B;exact⟨M,ap⟩)
     simpa[Ar] using this
    have bl:=fD (A:=A.reverse) hF.own C (λj f=>ae j (by simpa using f));rw[<-ca]at bl;have an:∀j,j∈d.filter (λj=>!Ac j A.reverse)↔j∈d/\j∉A:=λj=>by
     rw[tO];have:=Ah j A.reverse;constructor
     .rintro⟨N,B⟩;exact⟨N,λK=>by rw[this.2 (by simpa using K)]at B;cases B⟩
     rintro⟨N,B⟩;refine⟨N,?_⟩;cases ck:Ac j A.reverse with
     | false=>rfl
     | true=>exact absurd (by simpa using this.1 ck) B
    have af:∀j∈d.filter (λj=>!Ac j A.reverse),j∈qs t D:=λj f=>by
     have:=C j ((an j).1 f).1;rcases aT.1 this with h|h
     .exact absurd h ((an j).1 f).2
     exact h
    have ax:∀j∈qs t D,∃(z:Nat) (e:Nat×AV×List (Nat×Obj)),(qs t D)[z]?=some j/\(ens.drop A.length)[z]?=some e/\Am ops.toList j=some e.1/\MD (A++qs t D) ens j=⟨true,e.2.1,e.2.2⟩:=by
     intro j f;obtain⟨z,U⟩:=AAd.1 f;obtain⟨o,e,_,K,M,ap,_⟩:=hF.at_ (A.length+z) j (by rw[AAq oa,Nat.add_sub_cancel_left];exact U);exact⟨z,e,U,by rw[AAy];exact K,M,ap⟩
    have bk:yH ops.toList (MD (A++qs t D) ens) ⟨[],[]⟩ (A++qs t D):=⟨hF.own.slot,λ_ _ _ _ _=>rfl,hF.own.name⟩;have be:∀j∈d.filter (λj=>!Ac j A.reverse),j∈A++qs t D:=λj f=>by simp[af j f]
    unfold wpOpIn;rw[F];simp only;rw[At (bm rfl cf)];refine bw _ _ bl ⟨λs v al=>?_,λn Y cl=>?_⟩ a w _ _ hs λbq bx ao w' df bf co=>?_
    .rcases (lI bk be s v).1 al with ⟨j,f,am,rfl⟩|⟨_,al⟩
     .obtain⟨z,e,_,B,K,M⟩:=ax j (af j f);rw[am]at K;cases K;rw[M];exact⟨e.2.2,AAj B⟩
     cases al
    .rcases (lJ bk be n Y).1 cl with ⟨j,f,am⟩|⟨_,al⟩
     .obtain⟨z,e,_,B,K,M⟩:=ax j (af j f);rw[M]at am;exact⟨e,AAj B,FM am⟩
     cases al
    have cx:d.length=A.length+(d.filter (λj=>!Ac j A.reverse)).length:=by
     have cp:∀l:List Nat,l.length=(l.filter (λj=>Ac j A.reverse)).length+(l.filter (λj=>!Ac j A.reverse)).length:=by
      intro l;induction l with
      | nil=>rfl
      | cons x r dd =>
       simp only[AAa,iF];cases Ac x A.reverse<;>simp<;>omega
     rw[cp d];have cd:=(wS.1 I).2.1;have N:(d.filter (λj=>Ac j A.reverse)).length<=A.length:=KV (cd.filter _) λx u=>by
      have:=(Ah _ _).1 (tO.1 u).2;simpa using this
     have B:A.length<=(d.filter (λj=>Ac j A.reverse)).length:=KV au.1 λx u=>tO.2 ⟨ae x u,(Ah _ _).2 (by simpa using u)⟩;omega
    have av:∀x,(x∈i :: (A++L)\/x∈d.filter (λj=>!Ac j A.reverse))↔x=i\/x∈L\/x∈d:=by
     intro x;rw[an];simp only[Is,aT];constructor
     .rintro ((h|h|h)|h)
      .exact .inl h
      .exact .inr (.inr (ae x h))
      .exact .inr (.inl h)
      exact .inr (.inr h.1)
     rintro (h|h|h)
     .exact .inl (.inl h)
     .exact .inl (.inr (.inr h))
     by_cases u:x∈A
     .exact .inl (.inr (.inl u))
     exact .inr ⟨h,u⟩
    refine bn t (i :: (A++L)) D (ens.drop A.length) bq (d.filter λj=>!Ac j A.reverse) _ ao w' bv bx ?_ af (by simp only[iF,YT];omega) (by simpa using W) (λk R=>?_) (λi' Y H az e G=>?_) ?_
    .obtain⟨cs,ct,bo⟩:=wS.1 I;have bt:∀x∈A,x∉L:=λx u cq=>bo x cq x (ae x u) rfl;rw[wS];refine⟨AAn.2 ⟨λh=>?_,wS.2 ⟨au.1,cs,λx u y X e=>bt x u (e▸X)⟩⟩,ct.filter _,λx u y X e=>?_⟩
     .rcases aT.1 h with h|h
      .exact J (.inr (ae i h))
      exact J (.inl h)
     subst e;obtain⟨bp,cu⟩:=(an x).1 X;rcases Is.1 u with rfl|u
     .exact J (.inr bp)
     rcases aT.1 u with u|u
     .exact cu u
     exact bo x u x bp rfl
    .rw[av k,bh (i :: (L++d)) (λj=>by simp) k R];simp
    .rw[av];have:e∈L\/e∈d:=by
      rcases (av i').1 az with rfl|h
      .rw[F]at H;cases H;exact bd e G
      exact ai i' Y H h e G
     exact .inr this
    have cr:∀j∈d.filter (λj=>!Ac j A.reverse),MD (qs t D) (ens.drop A.length) j=MD (A++qs t D) ens j:=λj f=>by
     obtain⟨z,e,N,B,_,M⟩:=ax j (af j f);rw[M];exact Y9 au.2.1 z j e N B
    have u:=lH (ops:=ops.toList) (en:=MD (qs t D) (ens.drop A.length)) (τ:=bq) (d.filter λj=>!Ac j A.reverse);rw[JI (en:=MD (A++qs t D) ens) (σ0:=⟨[],[]⟩) cr]at u;exact Ql (λs=>by rw[u.env,bf.env]) (λn=>by rw[u.objs,bf.objs]) co
end
section
variable {c:Cx} {R:Exit->Act->World->Prop} {k:List Cl} {σ:St}
theorem Dw (n:c.P.follows .mixedOrders=true) (j:c.Ok) {id:Nat} {l:List Oper} (p0:Nat) (e:List (List Nat×Nat)) (D:List Nat) (d:(yG l (k4 l)&&Pk l (k4 l) p0 [] e D)=true) {ens:EN}
  (h:lG c l (fun τ=>Cu c R k l.toArray (l.drop p0) τ) e D ens σ):Ev c R (.run (.region id l.toArray true)) k σ:=by
 intro b f a w hs;simp only[Jq,CN,IS]at b;simp only[AT]at d;refine wpIn_region_any n ?_;have m:∀τ,Cu c R k l.toArray (l.drop p0) τ->∀a w,c.sat τ a w->wpListIn (FR c.r) 0 c.P l.toArray (aQ c R k) (l.toArray.toList.drop p0) a w:=fun τ g a w hs=>g (λo p=>b o (by simpa using ABf p)) f a w hs;exact r7 (ops:=l.toArray) (anc:=k4 l) j (by simpa using b) (A0j (by simpa using d.1)) m l.toArray.size e [] D ens σ [] (Array.replicate l.toArray.size false) a { w with drawn:=w.drawn+1 } (by simpa using d.2) (by simpa using h) sa sa sa sa (λi hi=>by simp at hi;simp[Array.getD,hi]) (λi o _ hi=>by simp at hi) (Wh hs)
end
end
section
open Go Go.RowKit
section
variable {n:Nat} {ns:List Nat}
theorem Fh {m:Nat} (a:n∈ns) (h:¬Ac m ns=true):¬m=n:=λe=>h ((Ah _ _).2 (e▸a))
mutual
theorem Qs (hn:n∈ns) {e:Ty} {xs:List e.den}:∀(x:AV),x.fgt ns=x->x.frz n e xs=x
 | .sr m e' lo hi,h=>by grind [AV.fgt,AV.frz,Fh]
 | .ep m e' i path off,h=>by grind [AV.fgt,AV.frz,Fh]
 | .nin m e' i len,h=>by grind [AV.fgt,AV.frz,Fh]
 | .ag l,h=>by
  simp only[AV.fgt,AV.ag.injEq]at h
  simp only[AV.frz,frzs_of_fgt hn l h]
 | .tup l,h=>by
  simp only[AV.fgt,AV.tup.injEq]at h
  simp only[AV.frz,frzs_of_fgt hn l h]
 | .p _ _,_=>rfl
 | .pc _ _,_=>rfl
 | .raw _,_=>rfl
 | .ip _ _,_=>rfl
 | .bp _ _ _,_=>rfl
 | .fn _,_=>rfl
 | .clo _ _,_=>rfl
 | .mp _,_=>rfl
 | .yl _,_=>rfl
 | .top,_=>rfl
theorem frzs_of_fgt (hn:n∈ns) {e:Ty} {xs:List e.den}:∀(l:List AV),AV.fgts ns l=l->AV.frzs n e xs l=l
 | [],_=>rfl
 | x :: r,h=>by
  simp only[AV.fgts,AAY]at h
  simp only[AV.frzs,Qs hn x h.1,frzs_of_fgt hn r h.2]
end
mutual
theorem Qt (hn:n∈ns):∀(x:AV),x.fgt ns=x->x.drp n=x
 | .sr m e' lo hi,h=>by grind [AV.fgt,AV.drp,Fh]
 | .ep m e' i path off,h=>by grind [AV.fgt,AV.drp,Fh]
 | .nin m e' i len,h=>by grind [AV.fgt,AV.drp,Fh]
 | .ag l,h=>by
  simp only[AV.fgt,AV.ag.injEq]at h
  simp only[AV.drp,drps_of_fgt hn l h]
 | .tup l,h=>by
  simp only[AV.fgt,AV.tup.injEq]at h
  simp only[AV.drp,drps_of_fgt hn l h]
 | .p _ _,_=>rfl
 | .pc _ _,_=>rfl
 | .raw _,_=>rfl
 | .ip _ _,_=>rfl
 | .bp _ _ _,_=>rfl
 | .fn _,_=>rfl
 | .clo _ _,_=>rfl
 | .mp _,_=>rfl
 | .yl _,_=>rfl
 | .top,_=>rfl
theorem drps_of_fgt (hn:n∈ns):∀(l:List AV),AV.fgts ns l=l->AV.drps n l=l
 | [],_=>rfl
 | x :: r,h=>by
  simp only[AV.fgts,AAY]at h
  simp only[AV.drps,Qt hn x h.1,drps_of_fgt hn r h.2]
end
end
section
variable {n:Nat} {ns tl:List Nat}
theorem Di (b:∀n,n∈tl->n∈ns) {m:Nat} (h:¬Ac m ns=true):¬Ac m tl=true:=λa=>h ((Ah _ _).2 (b _ ((Ah _ _).1 a)))
theorem bF (b:∀n,n∈tl->n∈ns) {l:List Nat} (h:¬(l.any λm=>Ac m ns)=true):¬(l.any λm=>Ac m tl)=true:=λa=>by grind [Ah]
mutual
theorem Qu (htl:∀n,n∈tl->n∈ns):∀(x:AV),x.fgt ns=x->x.fgt tl=x
 | .sr m e' lo hi,h=>by grind [AV.fgt,Di]
 | .ep m e' i path off,h=>by grind [AV.fgt,Di]
 | .nin m e' i len,h=>by grind [AV.fgt,Di]
 | .bp m path off,h=>by grind [AV.fgt,Di]
 | .mp m,h=>by grind [AV.fgt,Di]
 | .yl m,h=>by grind [AV.fgt,Di]
 | .clo f cs,h=>by
  simp only[AV.fgt]at h
  split at h
  .cases h
  rename_i hm;simp only[AV.fgt,As (bF htl hm)]
 | .ag l,h=>by
  simp only[AV.fgt,AV.ag.injEq]at h
  simp only[AV.fgt,fgts_of_fgt htl l h]
 | .tup l,h=>by
  simp only[AV.fgt,AV.tup.injEq]at h
  simp only[AV.fgt,fgts_of_fgt htl l h]
 | .p _ _,_=>rfl
 | .pc _ _,_=>rfl
 | .raw _,_=>rfl
 | .ip _ _,_=>rfl
 | .fn _,_=>rfl
 | .top,_=>rfl
theorem fgts_of_fgt (htl:∀n,n∈tl->n∈ns):∀(l:List AV),AV.fgts ns l=l->AV.fgts tl l=l
 | [],_=>rfl
 | x :: r,h=>by
  simp only[AV.fgts,AAY]at h
  simp only[AV.fgts,Qu htl x h.1,fgts_of_fgt htl r h.2]
end
mutual
theorem Qv (hn:n∈ns) (htl:∀n,n∈tl->n∈ns):∀(x:AV),x.fgt ns=x->x.trn n tl=x
 | .sr m e' lo hi,h=>by grind [AV.fgt,AV.trn,Di]
 | .ep m e' i path off,h=>by grind [AV.fgt,AV.trn,Di]
 | .nin m e' i len,h=>by grind [AV.fgt,AV.trn,Fh,Di]
 | .bp m path off,h=>by grind [AV.fgt,AV.trn,Di]
 | .mp m,h=>by grind [AV.fgt,AV.trn,Di]
 | .yl m,h=>by grind [AV.fgt,AV.trn,Di]
 | .clo f cs,h=>by
  simp only[AV.fgt]at h
  split at h
  .cases h
  rename_i hm;simp only[AV.trn,As (bF htl hm)]
 | .ag l,h=>by
  simp only[AV.fgt,AV.ag.injEq]at h
  simp only[AV.trn,trns_of_fgt hn htl l h]
 | .tup l,h=>by
  simp only[AV.fgt,AV.tup.injEq]at h
  simp only[AV.trn,trns_of_fgt hn htl l h]
 | .p _ _,_=>rfl
 | .pc _ _,_=>rfl
 | .raw _,_=>rfl
 | .ip _ _,_=>rfl
 | .fn _,_=>rfl
 | .top,_=>rfl
theorem trns_of_fgt (hn:n∈ns) (htl:∀n,n∈tl->n∈ns):∀(l:List AV),AV.fgts ns l=l->AV.trns n tl l=l
 | [],_=>rfl
 | x :: r,h=>by
  simp only[AV.fgts,AAY]at h
  simp only[AV.trns,Qv hn htl x h.1,trns_of_fgt hn htl r h.2]
end
end
def JL:AV->Bool
 | .raw _=>true
 | .p _ _=>true
 | _=>false
def KW:Obj->Bool
 | .arr _ _ _=>true
 | .box _ _ fs=>fs.all JL
 | _=>false
theorem Qw {n:Nat} {e:Ty} {xs:List e.den}:∀fs:List AV,fs.all JL=true->AV.frzs n e xs fs=fs
 | [],_=>rfl
 | x :: r,h=>by
  rw[AAZ,AT]at h;simp only[AV.frzs,Qw r h.2];cases x<;>first|rfl|(have:=h.1;simp[JL]at this)
theorem Qx {n:Nat}:∀fs:List AV,fs.all JL=true->AV.drps n fs=fs
 | [],_=>rfl
 | x :: r,h=>by
  rw[AAZ,AT]at h;simp only[AV.drps,Qx r h.2];cases x<;>first|rfl|(have:=h.1;simp[JL]at this)
theorem fF {n:Nat} {e:Ty} {xs:List e.den} {o:Obj} (h:KW o=true):Obj.frz n e xs o=o:=by
 cases o with
 | box et b fs=>simp only[Obj.frz,Qw fs h]
 | arr et a ys=>rfl
 | _=>cases h
theorem fG {n:Nat} {o:Obj} (h:KW o=true):Obj.drp n o=o:=by
 cases o with
 | box et b fs=>simp only[Obj.drp,Qx fs h]
 | arr et a ys=>rfl
 | _=>cases h
theorem Qy {hs:List Nat}:∀fs:List AV,fs.all JL=true->AV.fgts hs fs=fs
 | [],_=>rfl
 | x :: r,h=>by
  rw[AAZ,AT]at h;simp only[AV.fgts,Qy r h.2];cases x<;>first|rfl|(have:=h.1;simp[JL]at this)
theorem TL {hs:List Nat} {o:Obj} (h:KW o=true):Obj.fgt hs o=o:=by
 cases o with
 | box et b fs=>simp only[Obj.fgt,Qy fs h]
 | arr et a ys=>rfl
 | _=>cases h
theorem Qz {n:Nat} {hs:List Nat}:∀fs:List AV,fs.all JL=true->AV.trns n hs fs=fs
 | [],_=>rfl
 | x :: r,h=>by
  rw[AAZ,AT]at h;simp only[AV.trns,Qz r h.2];cases x<;>first|rfl|(have:=h.1;simp[JL]at this)
theorem fH {n:Nat} {hs:List Nat} {o:Obj} (h:KW o=true):Obj.trn n hs o=o:=by
 cases o with
 | box et b fs=>simp only[Obj.trn,Qz fs h]
 | arr et a ys=>rfl
 | _=>cases h
structure HG (X σ:St) (ns:List Nat):Prop where
 env:∀s v,lk s X.env=some v->v.fgt ns=v
 arr:∀n o,lk n X.objs=some o->KW o=true
 new:∀n o,lk n X.objs=some o->lk n σ.objs=none
 nm:∀n o,lk n X.objs=some o->n∉ns
section
variable {σ σ' X:St} {ns:List Nat}
theorem Nn.lkn (d:Nn σ σ' X) (b:HG X σ ns) {n:Nat} (c:n∈ns):lk n σ'.objs=lk n σ.objs:=by
 rw[d.objs];cases a:lk n X.objs with
 | none=>rfl
 | some o=>exact absurd c (b.nm n o a)
theorem Nn.obs (d:Nn σ σ' X) (c:HG X σ ns):V9 σ σ':=by
 intro n o a;rw[d.objs];cases b:lk n X.objs with
 | none=>exact a
 | some e=>rw[c.new n e b]at a;cases a
theorem r8 {n:Nat} (d:Nn σ σ' X) (a:HG X σ ns) (f:n∈ns):Nn (frz n σ) (frz n σ') X/\HG X (frz n σ) ns:=by
 unfold frz;split
 .exact⟨d,a⟩
 have core:∀(e:Ty) (xs:List e.den),Nn ⟨C9 n e xs σ.env,A1 n e xs (SU n σ.objs)⟩ ⟨C9 n e xs σ'.env,A1 n e xs (SU n σ'.objs)⟩ X/\HG X ⟨C9 n e xs σ.env,A1 n e xs (SU n σ.objs)⟩ ns:=by
  intro e xs;refine⟨⟨λs=>?_,λm=>?_⟩,a.env,a.arr,λm o c=>?_,a.nm⟩
  .simp only[K9,d.env];cases b:lk s X.env with
   | none=>rfl
   | some v=>simp[Qs f v (a.env s v b)]
  .simp only[B0,Nu];by_cases c:m=n
   .subst c;cases b:lk m X.objs with
    | none=>simp
    | some o=>exact absurd f (a.nm m o b)
   simp only[As c,d.objs];cases b:lk m X.objs with
   | none=>rfl
   | some o=>exact p7 some (fF (a.arr m o b))
  simp only[B0,Nu];split
  .rfl
  rw[a.new m o c];rfl
 rw[d.lkn a f];unfold YX;grind
theorem Q0:∀ {l:List Nat} {σ σ':St},Nn σ σ' X->HG X σ ns->(∀n∈l,n∈ns)->Nn (DB l σ) (DB l σ') X/\HG X (DB l σ) ns
 | [],_,_,b,a,_=>⟨b,a⟩
 | n :: l,σ,σ',b,a,h=>by
  obtain⟨c,d⟩:=r8 b a (h n sa);have:=Q0 (l:=l) c d λm e=>h m (by simp[e]);exact this
def fJ (σ σ':St) (xs:List Operand):Prop:=∀x∈xs,Ae σ' x=Ae σ x
theorem U3 (b:Nn σ σ' X) {xs:List Operand} (h:∀t∈xs.filterMap Mx,lk t X.env=none):fJ σ σ' xs:=by
 intro x a;cases x with
 | tmp t =>
  simp only[Ae,b.env];rw[h t (ACp.2 ⟨_,a,rfl⟩)];rfl
 | const v=>rfl
 | global g=>rfl
 | func f=>rfl
theorem KX:∀ {l:List (Nat×Operand)},fJ σ σ' (l.map (·.2))->DA σ' l=DA σ l
 | [],_=>rfl
 | (i,x) :: r,h=>by
  simp only[DA];rw[h x sa,KX (λy a=>h y (by simp only[oR,Is];exact .inr a))]
theorem M5:∀ {l:List (Nat×Operand)},fJ σ σ' (l.map (·.2))->Ec σ' l=Ec σ l
 | [],_=>rfl
 | (i,x) :: r,h=>by
  simp only[Ec];rw[h x sa,M5 (λy a=>h y (by simp only[oR,Is];exact .inr a))]
theorem ZB (c:Nn σ σ' X) (b:HG X σ ns) (n:Nat):Ci (lk n σ'.objs)=Ci (lk n σ.objs):=by
 rw[c.objs];cases a:lk n X.objs with
 | none=>rfl
 | some o =>
  rw[b.new n o a];have:=b.arr n o a;cases o<;>first|rfl|cases this
theorem Wv (a:Nn σ σ' X) (b:HG X σ ns) {op:Op} (h:fJ σ σ' op.operands.toList):Cy σ' op=Cy σ op:=by
 cases op<;>simp only[Cy];case buildSlice t n parts =>
  exact KX (λx a=>h x (by simpa[Op.operands] using a))
 case build t parts =>
  exact M5 (λx a=>h x (by simpa[Op.operands] using a))
 case store t x y =>
  rw[h x (by simp[Op.operands]),h y (by simp[Op.operands])];unfold CU;split
  .rw[ZB a b]
  rfl
 case mapUpdate t m x y =>
  rw[h m (by simp[Op.operands]),h x (by simp[Op.operands]),h y (by simp[Op.operands])]
def Ih (σ:St):Option AV->Option AV->List Nat
 | some (.sr n _ _ _),some (.sr m _ _ _)=>if Ci (lk n σ.objs)=true then [n,m] else [n]
 | some (.sr n _ _ _),_=>[n]
 | some (.nin n _ _ _),_=>[n]
 | some (.raw _),some (.sr m _ _ _)=>if Ci (lk m σ.objs)=true then [m] else []
 | _,_=>[]
def Ww (σ:St):Option AV->Option AV->List Nat
 | some (.ep n _ _ _ _),some (.sr m _ _ _)=>if Ci (lk n σ.objs)=true then [n,m] else []
 | _,_=>[]
def U4 (σ:St):Op->List Nat
 | .call c=>match c.callee,c.args.toList with
  | .builtin .append,[x,y]=>Ih σ (Ae σ x) (Ae σ y)
  | _,_=>[]
 | .store _ x y=>Ww σ (Ae σ x) (Ae σ y)
 | _=>[]
theorem lO {n:Nat} {e:Ty} {lo hi:Nat} {v:AV}:n∈Ih σ (some (.sr n e lo hi)) (some v):=by
 cases v<;>first|(simp[Ih];done)|(simp only[Ih];split<;>simp)
theorem bG (g:Nn σ σ' X) (c:HG X σ ns) {tl:List Nat} (f:∀n,n∈tl->n∈ns) {d b:Nat} {v:AV} {i:Obj} (j:lk d X.env=none) (k:lk b X.objs=none) :
  Nn ⟨(d,v) :: CT tl σ.env,(b,i) :: BC tl tl σ.objs⟩ ⟨(d,v) :: CT tl σ'.env,(b,i) :: BC tl tl σ'.objs⟩ X:=by
 refine⟨λs=>?_,λm=>?_⟩
 .simp only[lk];by_cases hs:s=d
  .grind
  rw[As hs,As hs,EJ,EJ,g.env];cases a:lk s X.env with
  | none=>rfl
  | some w=>simp[Qu f w (c.env s w a)]
 simp only[lk];by_cases e:m=b
 .grind
 rw[As e,As e,CM,CM,g.objs];cases a:lk m X.objs with
 | none=>rfl
 | some w =>
  rw[As λh=>c.nm m w a (f _ ((Ah _ _).1 h))];exact p7 some (TL (c.arr m w a))
theorem bH (e:Nn σ σ' X) (b:HG X σ ns) {n:Nat} {tl:List Nat} (c:n∈ns) (d:∀n,n∈tl->n∈ns) {en:List (Nat×AV)} {new:List (Nat×Obj)} (f:∀s v,lk s en=some v->lk s X.env=none) (i:∀m o,lk m new=some o->lk m X.objs=none) :
  Nn ⟨en++Bw n tl σ.env,new++Ba n tl σ.objs⟩ ⟨en++Bw n tl σ'.env,new++Ba n tl σ'.objs⟩ X:=by
 refine⟨λs=>?_,λm=>?_⟩
 .simp only[BI];cases hs:lk s en with
  | some v=>rw[f s v hs];rfl
  | none =>
   rw[E5,E5,e.env];cases a:lk s X.env with
   | none=>rfl
   | some w=>simp[Qv c d w (b.env s w a)]
 simp only[BI];cases g:lk m new with
 | some o=>rw[i m o g];rfl
 | none =>
  rw[CW,CW,e.objs];cases a:lk m X.objs with
  | none=>rfl
  | some w =>
   rw[As λh=>b.nm m w a (by
    rcases Is.1 ((Ah _ _).1 h) with rfl|h
    .exact c
    exact d _ h)]
   exact p7 some (fH (b.arr m w a))
theorem U5 {n:Nat} {o e:Obj} (d:Nn σ σ' X) (g:HG X σ ns) (c:lk n σ.objs=some o) {env b:List (Nat×AV)} (i:∀s,lk s b=(lk s X.env).or (lk s env)):Nn ⟨env,upd n e σ.objs⟩ ⟨b,upd n e σ'.objs⟩ X:=by
 refine⟨i,λm=>?_⟩;simp only[D9];have f:lk n X.objs=none:=by
  cases h:lk n X.objs with
  | none=>rfl
  | some u=>rw[g.new n u h]at c;cases c
 by_cases a:m=n
 .subst a;rw[At rfl,At rfl,d.objs,f];rfl
 rw[As a,As a,d.objs]
theorem Nn.some_lk (b:Nn σ σ' X) (a:HG X σ ns) {n:Nat} {o:Obj} (h:lk n σ.objs=some o):lk n σ'.objs=some o:=b.obs a n o h
theorem fL {tb:Tb} {op:Op} {d:Option Nat} {vc:Prop} {τ:St} (a:Nn σ σ' X) (c:HG X σ ns) (M:fJ σ σ' op.operands.toList) (B:∀n∈U4 σ op,n∈ns) (W:∀t,d=some t->lk t X.env=none) (V:∀n,(∃u,lk n τ.objs=some u)->lk n X.objs=none) (h:GV tb σ d op=some (vc,τ)) :
  (∃am,GV tb σ' d op=some (vc,am)/\Nn τ am X)/\∀k,aq tb σ' k op=none:=by
 have T:=a.obs c;cases op<;>simp only[GV]at h<;>try(cases h;done)
 case store t x y =>
  refine⟨?_,λ_=>rfl⟩;simp only[GV];have B:∀n∈Ww σ (Ae σ x) (Ae σ y),n∈ns:=B;rw[M x (by simp[Op.operands]),M y (by simp[Op.operands])];cases d with
  | some d=>simp[Db]at h
  | none =>
   simp only[Db]at h ⊢;generalize Ae σ x=an at h B ⊢;generalize Ae σ y=ao at h B ⊢;unfold G1 at h ⊢;split at h
   .rename_i ti n ba off v ab;try simp only
    unfold Cp at h ⊢;split at h
    .rename_i et bk fs p;rw[a.some_lk c p];try simp only
     unfold Ea at h ⊢;split at h
     .rename_i u bd C I;try rw[C,I]
      try simp only
      split at h
      .rename_i D;rw[At D];cases h;exact⟨_,rfl,U5 a c p a.env⟩
      cases h
     cases h
    cases h
   .rename_i ti n e i ba off v ab;try simp only
    unfold Cq at h ⊢;split at h
    .rename_i et ag xs p;rw[a.some_lk c p];try simp only
     cases ad:IQ false σ ti.ty v with
     | none=>rw[ad]at h;unfold D6 at h;split at h<;>first|(cases h;done)|(rename_i I;cases I)
     | some w =>
      rw[Ef T ad];rw[ad]at h;unfold D6 at h ⊢;split at h
      .rename_i ys w' C I;cases I;try rw[C]
       try simp only
       unfold FK at h ⊢;split at h
       .rename_i z R;try rw[R]
        try simp only
        split at h
        .rename_i D;rw[At D];cases h;exact⟨_,rfl,U5 a c p a.env⟩
        cases h
       cases h
      cases h
    .rename_i et af k H xs j p;rw[a.some_lk c p];try simp only
     split at h
     .rename_i m E hi;try simp only
      split at h
      .rename_i D;rw[At D];unfold KB at h ⊢;split at h
       .rename_i L;rw[At L];unfold J9 at h ⊢;split at h
        .rename_i bf ah ys G;rw[a.some_lk c G];try simp only
         split at h
         .rename_i av;rw[At av];unfold JA at h ⊢;split at h
          .rename_i al ae;try rw[ae]
           try simp only
           cases h;have ak:∀q,q∈[n,m]->q∈ns:=λq f=>B q (by simp only[Ww,p,Ci,AAH];exact f);refine⟨_,rfl,bH (en:=[]) (new:=[(n,_)]) a c (ak n sa) (λq f=>ak q (by simp at f;simp[f])) (λs v h=>by cases h) (λq o f=>V q ⟨o,?_⟩)⟩;simp only[lk]at f ⊢;split at f
           .rename_i H;cases f;rw[At H]
           cases f
          cases h
         cases h
        cases h
       cases h
      cases h
     cases h
    cases h
   cases h
 case mapUpdate t m x y =>
  refine⟨?_,λ_=>rfl⟩;simp only[GV];rw[M m (by simp[Op.operands]),M x (by simp[Op.operands]),M y (by simp[Op.operands])];cases d with
  | some d=>simp[Db]at h
  | none =>
   simp only[Db]at h ⊢;generalize Ae σ m=bb at h ⊢;generalize Ae σ x=an at h ⊢;generalize Ae σ y=ao at h ⊢;unfold G2 at h ⊢;split at h
   .try simp only
    unfold FL at h ⊢;split at h
    .rename_i bj vt l p;rw[a.some_lk c p];try simp only
     split at h
     .rename_i D;rw[At D];unfold Fy at h ⊢;split at h
      .rename_i bh v1 C I;rw[Ef T C,Ef T I];try simp only
       split at h
       .rename_i L;rw[At L];cases h;exact⟨_,rfl,U5 a c p a.env⟩
       cases h
      cases h
     cases h
    cases h
   cases h
 case call cl =>
  obtain⟨callee,⟨args⟩,⟨argTypes⟩⟩:=cl;cases callee with
  | value g=>simp[Da]at h
  | invoke r m=>simp[Da]at h
  | builtin b =>
   simp only[Da]at h;unfold D8 at h;split at h
   .rename_i x y t u;have Q:Ae σ' x=Ae σ x:=M x (by simp[Op.operands,Call.operands]);have U:Ae σ' y=Ae σ y:=M y (by simp[Op.operands,Call.operands]);have B:∀n∈Ih σ (Ae σ x) (Ae σ y),n∈ns:=λn ay=>B n (by simpa[U4] using ay);unfold Dz at h;split at h
    .rename_i n e hi v F K;rw[F,K]at B;refine⟨?_,λk=>by simp[aq,DZ,D5,DI,Q,F]⟩;simp only[GV,Da,D8,Dz,Q,F,U,K];split at h
     .rename_i A ;have N:=W A rfl;have O:n∈ns:=B n lO;try simp only
      split at h
      .rename_i P;rw[At P];unfold D7 at h ⊢;split at h
       .rename_i ah az el ap aa;try rw[aa]
        try simp only
        split at h
        .rename_i Z;rw[At Z];unfold B7 at h ⊢;split at h
         .rename_i ti et ag xs C p;try rw[C]
          try rw[a.some_lk c p]
          try simp only
          split at h
          .rename_i aw;rw[At aw];unfold Eb at h ⊢;split at h
           .rename_i al ys I R;try rw[I]
            rw[Mv T R];try simp only
            cases h;refine⟨_,rfl,⟨λs=>?_,λm=>?_⟩⟩
            .simp only[lk];by_cases hs:s=A
             .subst hs;rw[At rfl,At rfl,N];rfl
             rw[As hs,As hs,IW,IW,a.env];cases J:lk s X.env with
             | none=>rfl
             | some w=>simp[Qt O w (c.env s w J)]
            simp only[D9,BW];have au:lk n X.objs=none:=by
             cases J:lk n X.objs with
             | none=>rfl
             | some w=>exact absurd O (c.nm n w J)
            by_cases G:m=n
            .subst G;rw[At rfl,At rfl,a.objs,au];rfl
            rw[As G,As G,a.objs];cases J:lk m X.objs with
            | none=>rfl
            | some w=>exact p7 some (fG (c.arr m w J))
           cases h
          cases h
         .rename_i ti et af k ag xs C p;try rw[C]
          try rw[a.some_lk c p]
          try simp only
          split at h
          .rename_i D;rw[At D];unfold Oo at h ⊢;split at h
           .rename_i m E ax;try simp only
            unfold KA at h ⊢;split at h
            .rename_i ar be bi bc ys G;rw[a.some_lk c G];try simp only
             split at h
             .rename_i L;rw[At L];unfold JB at h ⊢;split at h
              .rename_i al ae;try rw[ae]
               try simp only
               cases h;refine⟨_,rfl,bG a c (λq f=>B q (by simp only[Ih,p,Ci,AAH];exact f)) N ?_⟩;cases J:lk n X.objs with
               | none=>rfl
               | some w=>exact absurd O (c.nm n w J)
              cases h
             cases h
            cases h
           cases h
          cases h
         cases h
        cases h
       cases h
      cases h
     cases h
    .rename_i n e i len v F K;rw[F,K]at B;refine⟨?_,λk=>by simp[aq,DZ,D5,DI,Q,F]⟩;simp only[GV,Da,D8,Dz,Q,F,U,K];split at h
     .rename_i A ;have N:=W A rfl;have O:n∈ns:=B n (by simp[Ih]);try simp only
      split at h
      .rename_i P;rw[At P];unfold MZ at h ⊢;split at h
       .rename_i ah az el ap aa;try rw[aa]
        try simp only
        split at h
        .rename_i Z;rw[At Z];unfold Om at h ⊢;split at h
         .rename_i ti et af k H xs C p;try rw[C]
          try rw[a.some_lk c p]
          try simp only
          split at h
          .rename_i D;rw[At D];unfold Lo at h ⊢;split at h
           .rename_i ys R;rw[Mv T R];try simp only
            split at h
            .rename_i ai;have S:lk A X.objs=none:=by
              refine V A ?_;cases h;exact⟨_,by simp only[lk,AAH];rfl⟩
             have Y:(lk A σ'.objs).isNone=true/\ys.isEmpty=false:=⟨by rw[a.objs,S];exact ai.1,ai.2⟩;rw[At Y];cases h;refine⟨_,rfl,bH (en:=[(A,_)]) (new:=[(A,_),(n,_)]) a c O (λq f=>by cases f) (λs v h=>?_) (λq o f=>?_)⟩
             .simp only[lk]at h;split at h
              .rename_i H;rw[H];exact N
              cases h
             simp only[lk]at f;split at f
             .rename_i H;rw[H];exact S
             split at f
             .rename_i H;rw[H];cases J:lk n X.objs with
              | none=>rfl
              | some w=>exact absurd O (c.nm n w J)
             cases f
            cases h
           cases h
          cases h
         cases h
        cases h
       cases h
      cases h
     cases h
    .rename_i v F K;rw[F,K]at B;split at h
     .rename_i A ;have N:=W A rfl;split at h
      .rename_i P;unfold Ub at h;split at h
       .rename_i m E ax bl offs el b ab;unfold Mb at h;split at h
        .rename_i ti ar af k e ys C G;split at h
         .rename_i D;unfold Ma at h;split at h
          .rename_i L;have S:lk A X.objs=none:=by
            refine V A ?_;cases h;exact⟨_,by simp only[lk,AAH];rfl⟩
           have Y:(lk A σ'.objs).isNone=true:=by rw[a.objs,S];exact L.1
           have aj:=a.some_lk c G;refine⟨?_,λbg=>by simp[aq,DZ,D5,DI,Q,F,U,K,P,D4,K5,aj,Ci];split<;>simp[EZ]⟩;cases h;simp only[GV,Da,D8,Dz,Q,F,U,K,Ub,Mb,Ma];rw[At P,ab];simp only;rw[aj,C];simp only;rw[At D,At ⟨Y,L.2⟩];exact⟨_,rfl,bG a c (λq f=>B q (by simp only[Ih,G,Ci,AAH];exact f)) N S⟩
          cases h
         cases h
        cases h
       cases h
      cases h
     cases h
    cases h
   cases h
end
end
section
open Go Go.RowKit
def lP (o:Obj):Bool:=KW o
def ME (o:Oper):EN->Bool
 | []=>true
 | (d,_,_) :: r=>!Ac d (GQ o.op)&&!Ac d o.dst.toList&&ME o r
def Px (ns:List Nat) (σ:List (Nat×Obj)):List (Nat×Obj)->Bool
 | []=>true
 | (n,o) :: r=>(lk n σ).isNone&&!Ac n ns&&lP o&&Px ns σ r
def KY (ns:List Nat) (σ:List (Nat×Obj)):EN->Bool
 | []=>true
 | (_,_,obs) :: r=>Px ns σ obs&&KY ns σ r
def U6 (τ:List (Nat×Obj)):List (Nat×Obj)->Bool
 | []=>true
 | (n,_) :: r=>(lk n τ).isNone&&U6 τ r
def Q1 (τ:List (Nat×Obj)):EN->Bool
 | []=>true
 | (_,_,obs) :: r=>U6 τ obs&&Q1 τ r
def Ii (ns:List Nat):EN->EN
 | []=>[]
 | (d,v,obs) :: r=>(d,v.fgt ns,obs) :: Ii ns r
def tn (σ:St) (o:Op):List Nat:=Cy σ o++U4 (DB (Cy σ o) σ) o
theorem F8 {o:Oper}:∀ {ens:EN},ME o ens=true->∀e∈ens,e.1∉GQ o.op/\o.dst≠some e.1
 | [],_,e,a=>by cases a
 | (d,v,obs) :: r,h,e,a=>by
  simp only[ME,AT,OF]at h;rcases Is.1 a with rfl|a
  .grind [Ah,Ac]
  exact F8 h.2 e a
theorem M6 {ns:List Nat} {σ:List (Nat×Obj)}:∀ {l:List (Nat×Obj)},Px ns σ l=true->∀p∈l,lk p.1 σ=none/\p.1∉ns/\lP p.2=true
 | [],_,e,a=>by cases a
 | (n,o) :: r,h,p,hp=>by
  simp only[Px,AT,OF,AAu]at h;rcases Is.1 hp with rfl|hp
  .grind [Ah]
  exact M6 h.2 p hp
theorem F9 {ns:List Nat} {σ:List (Nat×Obj)}:∀ {ens:EN},KY ns σ ens=true->∀e∈ens,∀p∈e.2.2,lk p.1 σ=none/\p.1∉ns/\lP p.2=true
 | [],_,e,a=>by cases a
 | (d,v,obs) :: r,h,e,a=>by
  simp only[KY,AT]at h;rcases Is.1 a with rfl|a
  .exact M6 h.1
  exact F9 h.2 e a
theorem PE {τ:List (Nat×Obj)}:∀ {l:List (Nat×Obj)},U6 τ l=true->∀p∈l,lk p.1 τ=none
 | [],_,e,a=>by cases a
 | (n,o) :: r,h,p,hp=>by
  simp only[U6,AT,AAu]at h;rcases Is.1 hp with rfl|hp
  .exact h.1
  exact PE h.2 p hp
theorem MF {τ:List (Nat×Obj)}:∀ {ens:EN},Q1 τ ens=true->∀e∈ens,∀p∈e.2.2,lk p.1 τ=none
 | [],_,e,a=>by cases a
 | (d,v,obs) :: r,h,e,a=>by
  simp only[Q1,AT]at h;rcases Is.1 a with rfl|a
  .exact PE h.1
  exact MF h.2 e a
theorem MG {ns:List Nat}:∀ {ens:EN},Ii ns ens=ens->∀e∈ens,e.2.1.fgt ns=e.2.1
 | [],_,e,a=>by cases a
 | (d,v,obs) :: r,h,e,a=>by
  simp only[Ii,AAY,ACD,and_true,true_and]at h;rcases Is.1 a with rfl|a
  .exact h.1
  exact MG h.2 e a
section
variable {c:Cx} {o:Oper} {σ:St} {ens:EN} {N:St->Prop}
theorem lQ {X:St} {ns:List Nat} (b:XIn ens X) (g:KY ns σ.objs ens=true) (d:Ii ns ens=ens):HG X σ ns:=by
 refine⟨λs v hs=>?_,λn o a=>?_,λn o a=>?_,λn o a=>?_⟩
 .obtain⟨obs,f⟩:=b.env s v hs;exact MG d _ f
 all_goals
  obtain⟨e,c,hp⟩:=b.objs n o a;have:=F9 g e c _ hp
 .exact this.2.2
 .exact this.1
 exact this.2.1
theorem fN (ag:c.Ok) {τ:St} {vc:Prop} (ns:List Nat) (h:Hf c.tb o σ=some (vc,τ)) (Z:tn σ o.op=ns) (M:ME o ens=true) (Y:KY ns σ.objs ens=true) (V:Q1 τ.objs ens=true) (U:Ii ns ens=ens) (ah:IX c.nt o=true) (aj:vc) (af:N τ):Y7 c o σ ens N:=by
 subst Z;intro X σ' k q a w next Q hs ai
 have H:=lQ q Y U;have F:∀t∈GQ o.op,lk t X.env=none:=λt B=>by
  cases i:lk t X.env with
  | none=>rfl
  | some v=>obtain⟨obs,g⟩:=q.env t v i;exact absurd B (F8 M _ g).1
 have D:∀t,o.dst=some t->lk t X.env=none:=λt B=>by
  cases i:lk t X.env with
  | none=>rfl
  | some v=>obtain⟨obs,g⟩:=q.env t v i;exact absurd B (F8 M _ g).2
 have G:∀n,(∃u,lk n τ.objs=some u)->lk n X.objs=none:=λn b=>by
  cases i:lk n X.objs with
  | none=>rfl
  | some v =>
   obtain⟨e,T,hp⟩:=q.objs n v i;obtain⟨u,b⟩:=b;rw[MF V e T _ hp]at b;cases b
 have ad:=Wv k H (op:=o.op) (U3 k F);obtain⟨f,z⟩:=Q0 (l:=Cy σ o.op) k H (λm g=>by simp[tn,g]);have key:∃y,Hf c.tb o σ'=some (vc,y)/\Nn τ y X:=by
  have I:∀n∈U4 (DB (Cy σ o.op) σ) o.op,n∈tn σ o.op:=λm g=>by simp[tn,g]
  unfold Hf Oq at h ⊢;rw[ad];generalize DB (Cy σ o.op) σ=σ1 at h f z I;generalize DB (Cy σ o.op) σ'=C at f;have L:=U3 f F;cases A:aq c.tb σ1 (o.dst.getD 0) o.op with
  | some r =>
   obtain⟨ak,v,obs⟩:=r;rw[A]at h;have ab:=Pu (f.obs z) (λx k v ae=>by rw[L x k];exact ae) A;rw[ab];simp only[Lp]at h ⊢;split at h
   .rename_i J;cases h;have K:∀n,lk n (σ1.add v obs o.dst).objs=(lk n obs).or (lk n σ1.objs):=λn=>by cases o.dst<;>simp only[St.add,BI]
    have aa:∀n,lk n (C.add v obs o.dst).objs=(lk n obs).or (lk n C.objs):=λn=>by cases o.dst<;>simp only[St.add,BI]
    have E:∀n u,lk n obs=some u->lk n X.objs=none:=λn u b=>G n ⟨u,by rw[K,b];rfl⟩;have W:BS obs C=true:=by
     simp only[BS,IS,AAu]at J ⊢;intro p hp;obtain⟨u,b⟩:=LJ hp;rw[f.objs,E _ u b,J p hp];rfl
    rw[At W];refine⟨_,rfl,λs=>?_,λn=>?_⟩
    .cases S:o.dst with
     | none=>simp only[St.add];exact f.env s
     | some d =>
      simp only[St.add,lk];by_cases j:s=d
      .rw[At j,At j,j,D d S];rfl
      rw[As j,As j];exact f.env s
    rw[K,aa,f.objs];cases b:lk n obs with
    | none=>rfl
    | some u=>rw[E n u b];rfl
   cases h
  | none =>
   rw[A]at h;simp only[Lp]at h;obtain⟨⟨y,O,P⟩,R⟩:=fL f z L I D G h;rw[R];simp only[Lp];exact⟨y,O,P⟩
 grind [QZ,BB]
theorem Wx {σ σ':St}:∀ {xs:List Operand},fJ σ σ' xs->IG σ' xs=IG σ xs
 | [],_=>rfl
 | x :: r,h=>by
  simp only[IG];rw[h x sa,Wx (λy a=>h y (by simp[a]))]
theorem U7 {σ σ':St} (h:V9 σ σ') {ren:List (Nat×CB)} {x y:AV} (a:F6 σ ren x y):F6 σ' ren x y:=by
 cases y<;>first|exact a|exact Ef h a
theorem Lv {σ σ':St} (h:V9 σ σ') {ren:List (Nat×CB)}:∀ {l r:List AV},Bb σ ren l r->Bb σ' ren l r
 | [],[],_=>trivial
 | [],_ :: _,a=>a.elim
 | _ :: _,[],a=>a.elim
 | _ :: _,_ :: _,a=>⟨U7 h a.1,Lv h a.2⟩
theorem Lw {l l':List (Nat×Obj)} (h:∀n o,lk n l=some o->lk n l'=some o) {ren:List (Nat×CB)}:∀ {r:List (Nat×Obj)},Ao l ren r->Ao l' ren r
 | [],_=>trivial
 | (m,o) :: r,d=>by
  refine⟨?_,Lw h d.2⟩;have a:=d.1;cases c:lk m ren with
  | none=>rw[c]at a;exact a.elim
  | some f =>
   rw[c]at a;cases f with
   | nil=>exact a
   | nm n =>
    simp only[Fg]at a ⊢;cases b:lk n l with
    | none=>rw[b]at a;simp only[HA]at a
    | some x=>rw[h n x b,<-b];exact a
theorem fO (af:c.Ok) {dst:Option Nat} {g:Operand} {xs:List Operand} {ts:Array TypeId} {ty:TypeId} {pos:String} {after:Array Edge}
  {f:FuncId} {E:List Nat} (ak:Ca (Ae σ g)=some (f,E)) {as:List AV} (has:IG σ xs=some as)
  {A:List AV} {objs:List (Nat×Obj)} {stay:List Nat} {post:AV->List (Nat×Obj)->Prop} (ab:Aj c.P f A objs stay post)
  (ren:List (Nat×CB)) (hs:List Nat) (V:CZ ren=true) (W:Ct objs ren=true) (ao:(c.ds.pin.all λp=>!Ac p.1 hs)=true)
  (J:ME ⟨dst,.call ⟨.value g,xs.toArray,ts⟩,ty,pos,after,none⟩ ens=true) (z:KY (Az ren) σ.objs ens=true) (ai:Ii hs ens=ens) (ag:IX c.nt ⟨dst,.call ⟨.value g,xs.toArray,ts⟩,ty,pos,after,none⟩=true)
  (aa:Bb σ ren (as++E.map λn=>AV.bp n [] 0) A) (ad:Ao σ.objs ren objs)
  (al:∀res r,post res r->∃(l:List (Nat×CB)) (x:AV) (i:List (Nat×Obj)),CZ l=true/\Ct i l=true/\Ao r l i/\CK l res x /\
   KT ren l stay hs=true/\GR (Az ren) i σ.objs=true/\Q1 i ens=true/\N (Dv σ (Az ren) hs dst x i)) :
  Y7 c ⟨dst,.call ⟨.value g,xs.toArray,ts⟩,ty,pos,after,none⟩ σ ens N:=by
 intro X σ' q k a w next Q aq an
 have ah:∀s v,lk s X.env=some v->v.fgt hs=v:=λs v hs=>by
  obtain⟨obs,m⟩:=k.env s v hs;exact MG ai _ m
 have H:V9 σ σ':=by
  intro n o B;rw[q.objs];cases b:lk n X.objs with
  | none=>exact B
  | some au =>
   obtain⟨e,j,hp⟩:=k.objs n au b;rw[(F9 z e j _ hp).1]at B;cases B
 have am:∀n o,lk n X.objs=some o->n∉Az ren:=λn o C=>by
  obtain⟨e,j,hp⟩:=k.objs n o C;exact(F9 z e j _ hp).2.1
 have ae:∀t∈(g :: xs).filterMap Mx,lk t X.env=none:=λt D=>by
  cases b:lk t X.env with
  | none=>rfl
  | some v =>
   obtain⟨obs,m⟩:=k.env t v b;refine absurd ?_ (F8 J _ m).1;simpa[GQ,Op.operands,Call.operands] using D
 have av:∀t,dst=some t->lk t X.env=none:=λt D=>by
  cases b:lk t X.env with
  | none=>rfl
  | some v=>obtain⟨obs,m⟩:=k.env t v b;exact absurd D (F8 J _ m).2
 have I:=U3 q ae;refine Uz af (xs:=xs) (ts:=ts) rfl rfl (by rw[I g sa];exact ak) (by rw[Wx (λy ar=>I y (by simp[ar]))];exact has) ab ren V W (Lv H aa) (Lw H ad) hs ao aq (BB ag) λres r hp=>?_;obtain⟨l,x,i,g1,M,O,R,S,F,T,U⟩:=al res r hp;have G:∀n o,lk n X.objs=some o->lk n i=none:=λn o C=>by
  obtain⟨e,j,hp⟩:=k.objs n o C;exact MF T e j _ hp
 refine⟨l,x,i,g1,M,O,R,S,?_,λL w' ap=>an _ U L w' _ ⟨λs=>?_,λn=>?_⟩ ap⟩
 .simp only[GR,IS,bY,AAu]at F ⊢;intro p hp;rcases F p hp with h|h
  .exact .inl h
  right;rw[q.objs,h];cases b:lk p.1 X.objs with
  | none=>rfl
  | some u =>
   obtain⟨ax,K⟩:=LJ hp;rw[G _ u b]at K;cases K
 .have aj:lk s (CT hs σ'.env)=(lk s X.env).or (lk s (CT hs σ.env)):=by
   rw[EJ,EJ,q.env];cases b:lk s X.env with
   | none=>rfl
   | some v=>simp[ah s v b]
  simp only[Dv];cases dst with
  | none=>exact aj
  | some d =>
   simp only[JK,lk];by_cases aw:s=d
   .grind
   grind
 simp only[Dv,BI,CM,q.objs];cases b:lk n X.objs with
 | none=>simp
 | some u =>
  have Z:KW u=true:=by
   obtain⟨e,j,hp⟩:=k.objs n u b;exact(F9 z e j _ hp).2.2
  have Y:¬Ac n (Az ren)=true:=λh=>am n _ b ((Ah _ _).1 h);rw[G n _ b,As Y];exact p7 some (TL Z)
end
section
variable {c:Cx} {ops:List Oper} {Kf:St->Prop} {τ:St} {ens:EN} {vc:Prop}
theorem lR {D:List Nat} (h:Y6 c.tb ops τ.objs D [] τ.env=some (vc,ens)) (d:vc) (a:N6 ens τ.objs=true) (b:Kf (KU ens τ)):lG c ops Kf [] D ens τ:=⟨⟨vc,h,d,a⟩,b⟩
theorem lS {A D:List Nat} {l:Nat} {b:List (List Nat×Nat)} {o:Oper} {σ1:St} {a:EN} (h:Y6 c.tb ops τ.objs (A++qs b D) [] τ.env=some (vc,ens)) (i:vc) (f:N6 ens τ.objs=true) (g:ops[l]?=some o) (j:KU (ens.take A.length) τ=σ1) (e:ens.drop A.length=a)
  (d:Y7 c o σ1 a (λk=>lG c ops Kf b D a k)):lG c ops Kf ((A,l) :: b) D ens τ:=by
 subst j e;exact⟨⟨vc,h,i,f⟩,o,g,d⟩
end
end
end Go.Proofs.YtaoonfcjbmcmpaaGreatDoor.Fw
