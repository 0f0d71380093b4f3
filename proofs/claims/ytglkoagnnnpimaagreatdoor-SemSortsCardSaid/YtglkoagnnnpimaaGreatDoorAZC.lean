/- The executor's quiet operations are sound, second part; maps. -/
import Derived.Test.YtglkoagnnnpimaaGreatDoorAZB
import Derived.ArgAppend
import Derived.MapKept
import Derived.WideKeyRuns
import Derived.Laws.StructEq
set_option linter.unusedVariables false
set_option linter.unusedSimpArgs false
namespace Go.Proofs.YtglkoagnnnpimaaGreatDoor.Fw
variable {e:Ty} {P:Program} {t:TypeId} {a b:IntKind} {d:TypeDesc} {f:Value} {w:World} {Z:Array MapEntry} {Y:Bool} {V:Vw}
section
open Go Go.RowKit
section
abbrev AAV:=@Go.Sem.run_pure
abbrev ABl:=@Go.World.ownsRow_nil
abbrev ABr:=@Go.MapKept.run_getObj_map
abbrev ABB:=@Go.run_part_plain
abbrev ACp:=@Go.Sem.run_ite
variable {P:Program} {tb:Tb} {id:TypeId} {ti:TI} {w:World} {O0:Nat->Prop} {σ:St} {ρ:Nat->Value} {vc:Prop} {v:AV} {obs:List (Nat×Obj)}
theorem D4 (w:World) (o:_root_.Go.Obj):Below w.heap.size w (w.alloc o):=(Below.refl _ _).alloc (OS _) o
theorem QS.box {n:Nat} {et:TypeId} {fs:List AV} {cs:List Value} (hf:Bb [(n,.box et Y fs)] σ=true) (g:Y=false->fs.length=1) (d:AVCs (vw w O0 σ ρ) fs cs) :
  QS w O0 σ ρ (.bp n [] 0) [(n,.box et Y fs)] (.pointer (some ⟨w.heap.size,0,none⟩)) (EF ρ n (.pointer (some ⟨w.heap.size,0,none⟩))) (w.alloc (.cells cs.toArray et)):=by
 have f:∀(m:Nat) (o:Obj) (b:Nat),lk m [(n,.box et Y fs)]=some o->bk (EF ρ n (.pointer (some ⟨w.heap.size,0,none⟩)) m) b->w.heap.size<=b:=by grind [lk,Bh,bk,blk]
 have hk:CZ (vw w O0 σ ρ) (vw (w.alloc (.cells cs.toArray et)) O0 (DX σ [(n,.box et Y fs)]) (EF ρ n (.pointer (some ⟨w.heap.size,0,none⟩)))) :=
  G0 hf (D4 w _) (λm a=>by
   simp only[lk]at a;split at a
   .cases a
   rename_i e;simp[EF,e]) f
 refine QS.one (D4 w _) (λb c=>by simp[bk,blk]at c;omega) ?_ ?_
 .refine⟨⟨.box et Y fs,by simp[DX,lk]⟩,w.heap.size,by rw[show (vw (w.alloc (.cells cs.toArray et)) O0 (DX σ [(n,.box et Y fs)]) (EF ρ n (.pointer (some ⟨w.heap.size,0,none⟩)))).ρ n=EF ρ n (.pointer (some ⟨w.heap.size,0,none⟩)) n from rfl,Bh],rfl⟩
 exact⟨g,w.heap.size,cs,rfl,heap_alloc_new w _,d.keeps hk⟩
theorem QS.arr {n:Nat} {et:TypeId} {xs:List e.den} {cells:List Value} {loc:Value} {w':World} {hi:Nat} (hf:Bb [(n,.arr et e xs)] σ=true) (f:Below w.heap.size w w')
  (c:w'.ownsRow w.heap.size et e.size loc xs.length cells) (a:xs.length<=AO) (k:DV w (own O0 σ ρ) e cells xs) (p:hi=xs.length) :
  QS w O0 σ ρ (.sr n e 0 hi) [(n,.arr et e xs)] loc (EF ρ n loc) w':=by
 subst p;have r:∀b,bk loc b->w.heap.size<=b:=by
  intro b i;rcases c.2 with ⟨rfl,_⟩|⟨g,cap,d,rfl,l,_⟩
  .simp[bk,blk]at i
  simp[bk,blk]at i;omega
 have q:∀(m:Nat) (o:Obj) (b:Nat),lk m [(n,.arr et e xs)]=some o->bk (EF ρ n loc m) b->w.heap.size<=b:=by grind [lk,Bh]
 have hk:CZ (vw w O0 σ ρ) (vw w' O0 (DX σ [(n,.arr et e xs)]) (EF ρ n loc)) :=
  G0 hf f (λm a=>by
   simp only[lk]at a;split at a
   .cases a
   rename_i e;simp[EF,e]) q
 refine QS.one f r ?_ ?_
 .refine⟨⟨.arr et e xs,by simp[DX,lk]⟩,?_⟩;show C6 (plc (EF ρ n loc n)) e.size 0 xs.length loc;rw[Bh,Ga c];rcases c.2 with ⟨rfl,hn⟩|⟨g,cap,d,rfl,l,_,t,_⟩
  .exact⟨none,0,0,rfl,by omega,by omega,none,0,by rw[hn],by omega,λ_=>⟨rfl,rfl⟩,λh=>by omega⟩
  exact⟨some ⟨g,0,none⟩,xs.length,cap,rfl,by omega,by omega,some ⟨g,0,none⟩,cap,by simp,by omega,λ_=>⟨rfl,rfl⟩,λ_=>by simp[LZ]⟩
 refine⟨a,cells,⟨c.1,?_⟩,k.keeps hk⟩;rcases c.2 with h|⟨g,cap,d,h1,s,j⟩
 .exact .inl h
 exact .inr ⟨g,cap,d,h1,Do _,j⟩
theorem IR (V:Vw) (t:Ty):FM V (mZ t) t.zero:=by
 cases t;case slice e=>exact⟨_,rfl,rfl,rfl⟩
 case ref k=>exact⟨XQ k,rfl,SL k none,rfl⟩
 all_goals(exact Bn.zero V.w V.O _)
theorem A2Z (V:Vw):∀t:Ty,AVCs V (zfs t) t.zero
 | .prod a b=>⟨a.zero,b.zero,rfl,IR V a,A2Z V b⟩
 | .int k=>⟨_,[],by simp,IR V (.int k),rfl⟩
 | .bool=>⟨_,[],by simp,IR V .bool,rfl⟩
 | .str=>⟨_,[],by simp,IR V .str,rfl⟩
 | .slice e=>⟨_,[],by simp,IR V (.slice e),rfl⟩
 | .agg t=>⟨_,[],by simp,IR V (.agg t),rfl⟩
 | .ref k=>⟨_,[],by simp,IR V (.ref k),rfl⟩
theorem Sf (V:Vw) (b:Bool) (t:Ty):FM V (zfx b t) t.zero:=by
 unfold zfx;split
 .exact(A2Z V _:AVCs V _ _)
 exact IR V t
theorem dK (V:Vw) (b:Bool):∀t:Ty,AVCs V (SP b t) t.zero
 | .prod a c=>⟨a.zero,c.zero,rfl,Sf V b a,dK V b c⟩
 | .int k=>⟨_,[],by simp,Sf V b (.int k),rfl⟩
 | .bool=>⟨_,[],by simp,Sf V b .bool,rfl⟩
 | .str=>⟨_,[],by simp,Sf V b .str,rfl⟩
 | .slice e=>⟨_,[],by simp,Sf V b (.slice e),rfl⟩
 | .agg t=>⟨_,[],by simp,Sf V b (.agg t),rfl⟩
 | .ref k=>⟨_,[],by simp,Sf V b (.ref k),rfl⟩
theorem r7 (V:Vw):∀(t:Ty) (d:t.den) (cs:List Value),Bn V.w V.O t cs d->AVCs V (pfs t d) cs
 | .prod a b,d,cs,h=>by
  obtain⟨c1,c2,rfl,h1,c⟩:=h;exact⟨c1,c2,rfl,h1,r7 V b d.2 c2 c⟩
 | .int k,d,cs,h=>⟨cs,[],by simp,h,rfl⟩
 | .bool,d,cs,h=>⟨cs,[],by simp,h,rfl⟩
 | .str,d,cs,h=>⟨cs,[],by simp,h,rfl⟩
 | .slice e,d,cs,h=>⟨cs,[],by simp,h,rfl⟩
 | .agg t,d,cs,h=>⟨cs,[],by simp,h,rfl⟩
 | .ref k,d,cs,h=>⟨cs,[],by simp,h,rfl⟩
theorem Nj (hT:Dh P tb id ti) (w:World):∃z:Value,(zeroValue id).run P w=.ok z w/\z.cells=ti.ty.zero.toArray:=by
 obtain⟨⟨_,i,z,h1,c,d,a,b⟩,_⟩:=hT;exact⟨z,by simp[zeroValue,KT w h1,a],b⟩
theorem A0m (hT:Dh P tb id ti) {f:Bool} {d:Nat} (h:KF f d id (some ti)=some (vc,v,obs)) (hf:Bb obs σ=true) :
  ∃u ρ' w',(Instr.alloc id true (.tuple #[])).run P w=.ok u w'/\QS w O0 σ ρ v obs u ρ' w':=by
 obtain⟨z,c,e⟩:=Nj hT w;have b:(Instr.alloc id true (.tuple #[])).run P w=.ok (.pointer (some ⟨w.heap.size,0,none⟩)) (w.alloc (.cells ti.ty.zero.toArray id)):=by
  simp[Instr.alloc,c,newVar,newRow,e]
 unfold KF at h;split at h<;>first|(cases h;done)|skip
 all_goals
  rename_i a;cases a;cases h;refine⟨_,_,_,b,QS.box hf ?_ ?_⟩
 .simp
 .exact dK _ _ _
 .simp
 .exact⟨_,[],by simp[Ty.zero],IR _ _,rfl⟩
 .simp
 .exact⟨_,[],by simp[Ty.zero],IR _ _,rfl⟩
 .simp
 .exact⟨_,[],by simp[Ty.zero],IR _ _,rfl⟩
 .simp
 .exact⟨_,[],by simp[Ty.zero],IR _ _,rfl⟩
 .simp
 exact⟨_,[],by simp[Ty.zero],IR _ _,rfl⟩
theorem MG {ty:Ty} {x:AV} {v:Value} (j:Bu V x v) (hf:CE ty x=true) (hs:ty.cell1=true):v.oneCell'=true:=by
 cases x;case p t d =>
  simp only[CE,IN]at hf;subst hf;obtain⟨cs,o,rfl⟩:=j;cases ty;case agg t=>simp[Ty.cell1]at hs
  case prod a b=>simp[Ty.cell1]at hs
  case slice e=>obtain⟨a,c,rfl,_⟩:=o;rfl
  case int k=>obtain⟨rfl,h⟩:=o;rfl
  case bool=>have o:cs=_:=o;subst o;rfl
  case str=>obtain⟨rfl,h⟩:=o;rfl
  case ref k =>
   obtain⟨rfl,_⟩:=o;exact SL k _
 case ag l=>cases ty<;>simp[CE]at hf<;>simp[Ty.cell1]at hs
 case tup l=>simp[CE]at hf
 case raw u =>
  have j:v=u:=j;subst j;simp only[CE,AT]at hf;exact hf.1
 case sr n e lo hi=>obtain⟨_,_,_,_,_,_,_,r,s,rfl,_⟩:=j;rfl
 case ep n e i q off=>obtain⟨_,g,m,c,_,_,rfl⟩:=j;rfl
 case nin n e i len=>obtain⟨_,_,_,_,_,_,_,_,rfl⟩:=j;rfl
 case pc e d=>obtain⟨_,a,rfl⟩:=j;rfl
 case ip t d=>obtain⟨ad,cs,rfl,_⟩:=j;rfl
 case bp n q off=>obtain⟨_,b,_,rfl⟩:=j;rfl
 case fn f=>have j:v=_:=j;subst j;rfl
 case clo f ns=>obtain⟨rfl,_⟩:=j;exact Y8 _ _
 case mp n=>obtain⟨_,b,_,rfl⟩:=j;rfl
 case yl n=>obtain⟨_,b,_,rfl⟩:=j;rfl
 case top=>simp[CE]at hf
end
end
section
open Go Go.RowKit
section
variable {P:Program} {tb:Tb} {id:TypeId} {ti:TI} {w:World} {O0:Nat->Prop} {σ:St} {ρ:Nat->Value} {vc:Prop} {v:AV} {obs:List (Nat×Obj)}
theorem Sg {t:Ty} {w:World} {O:Nat->Prop} {cs:List Value} {d:t.den} (h:Bn w O t cs d):(t.wrap cs).cells=cs.toArray:=by
 cases t;case agg t=>rfl
 case prod a b=>rfl
 case slice e=>obtain⟨a,c,rfl,_⟩:=h;rfl
 case int k=>obtain⟨rfl,_⟩:=h;rfl
 case bool=>have h:cs=_:=h;subst h;rfl
 case str=>obtain⟨rfl,_⟩:=h;rfl
 case ref k =>
  obtain⟨rfl,_⟩:=h;exact SM k d
theorem A0n {x:AV} {v:Value} (j:Bu V x v) (hf:Iz x=true):FM V x v.cells.toList/\v.cells.size=x.cells:=by
 have simple:∀ {y:AV},KR V y v->v.oneCell'=true->(∀t d,y≠.p t d)->FM V y v.cells.toList:=by
  intro y r h s;have o:v.cells=#[v]:=by cases v<;>first|rfl|simp[Value.oneCell']at h
  rw[o];cases y;case p t d=>exact absurd rfl (s t d)
  case ag l=>exact(show False from r).elim
  all_goals exact⟨v,rfl,h,r⟩
 have k:v.oneCell'=true->v.cells.size=1:=by
  intro h;have o:v.cells=#[v]:=by cases v<;>first|rfl|simp[Value.oneCell']at h
  rw[o];rfl
 cases x;case p t d =>
  obtain⟨cs,q,rfl⟩:=j;rw[Sg q];exact⟨q,by simpa[AV.cells] using q.length⟩
 case raw u =>
  have w:v=u:=j;have h:v.oneCell'=true:=by rw[w];exact hf
  exact⟨simple j h (λ_ _=>by simp),k h⟩
 case sr n e lo hi =>
  have h:v.oneCell'=true:=by obtain⟨_,_,_,_,_,_,_,A,B,rfl,_⟩:=j;rfl
  exact⟨simple j h (λ_ _=>by simp),k h⟩
 case ep n e i z off =>
  have h:v.oneCell'=true:=by obtain⟨_,g,m,c,_,_,rfl⟩:=j;rfl
  exact⟨simple j h (λ_ _=>by simp),k h⟩
 case nin n e i len =>
  have h:v.oneCell'=true:=by obtain⟨_,_,_,_,_,_,_,_,rfl⟩:=j;rfl
  exact⟨simple j h (λ_ _=>by simp),k h⟩
 case ip t d =>
  have h:v.oneCell'=true:=by obtain⟨ad,cs,rfl,_⟩:=j;rfl
  exact⟨simple j h (λ_ _=>by simp),k h⟩
 case bp n z off =>
  have h:v.oneCell'=true:=by obtain⟨_,b,_,rfl⟩:=j;rfl
  exact⟨simple j h (λ_ _=>by simp),k h⟩
 case pc e d =>
  have h:v.oneCell'=true:=by obtain⟨_,a,rfl⟩:=j;rfl
  exact⟨simple j h (λ_ _=>by simp),k h⟩
 case clo f ns =>
  have h:v.oneCell'=true:=by obtain⟨rfl,_⟩:=j;exact Y8 _ _
  exact⟨simple j h (λ_ _=>by simp),k h⟩
 case mp n =>
  have h:v.oneCell'=true:=by obtain⟨_,b,_,rfl⟩:=j;rfl
  exact⟨simple j h (λ_ _=>by simp),k h⟩
 case yl n =>
  have h:v.oneCell'=true:=by obtain⟨_,b,_,rfl⟩:=j;rfl
  exact⟨simple j h (λ_ _=>by simp),k h⟩
 case fn f =>
  have h:v.oneCell'=true:=by have j:v=_:=j;subst j;rfl
  exact⟨simple j h (λ_ _=>by simp),k h⟩
 all_goals simp[Iz]at hf
theorem A5O (hT:Dh P tb id ti) {d:Nat} {x:AV} {xv:Value} (h:SR d id (some ti) (some x)=some (vc,v,obs)) (i:Bu (vw w O0 σ ρ) x xv) (hf:Bb obs σ=true) :
    ∃u ρ' w',(Instr.box id xv).run P w=.ok u w'/\QS w O0 σ ρ v obs u ρ' w':=by
  have g:(Instr.box id xv).run P w=.ok (.pointer (some ⟨w.heap.size,0,none⟩)) (w.alloc (.cells xv.cells id)):=by
    simp[Instr.box,newVar,newRow]
  have simple:∀ty:Ty,CE ty x=true->ty.cell1=true->(∀l,x≠.ag l)->AVCs (vw w O0 σ ρ) [x] xv.cells.toList:=by
    intro ty f q n;obtain⟨h1,m⟩:=rR i f (MG i f);exact⟨_,[],by simp,m n,rfl⟩
  have p:xv.cells=xv.cells.toList.toArray:=by simp
  rw[p]at g;unfold SR at h;split at h
  . rename_i u offs el b r k c a
    cases c;cases a;split at h
    . rename_i hu
      subst hu;cases h;obtain⟨cs,j,rfl⟩:=i;have j:Bn w (own O0 σ ρ) u cs k:=j;refine⟨_,_,_,g,QS.box hf sc ?_⟩;simp only[Ty.wrap,Value.cells];exact r7 _ _ _ _ j
    cases h
  . rename_i u offs el b l c a
    cases c;cases a;split at h
    . cases h
      obtain⟨cs,rfl,o⟩:=i;refine⟨_,_,_,g,QS.box hf sc ?_⟩;simp only[Value.cells];exact o
    cases h
  all_goals first
    | (cases h;done)
    | (rename_i c a
       cases c;injection a with a
       subst a;split at h
       . rename_i f
         cases h;exact⟨_,_,_,g,QS.box hf sc (simple _ f rfl (λl e=>by subst e;simp[CE]at f))⟩
       cases h)
theorem ZG (off:Nat):∀(a:List Value) (k:Nat) (cells:Array Value),off+k+a.length<=cells.size ->
  ((a.zipIdx k).foldl (λ(cs:Array Value) (p:Value×Nat)=>cs.setIfInBounds (off+p.2) p.1) cells).toList=Ay cells.toList (off+k) a
 | [],k,cells,_=>by simp[Ay]
 | v :: a,k,cells,h=>by
  simp only[NO]at h;simp only[List.zipIdx_cons,OR];rw[ZG off a (k+1) _ (by simp;omega)];simp only[Ay,Array.toList_setIfInBounds,NO];apply ABT;intro j;have b:cells.toList.length=cells.size:=by simp
  simp only[AA5,AAx,On,AAc,b,AA7,AAz,AAE,NO];grind
theorem Sh {place:Nat->Option (Nat×Nat)} {cells:Array Value} {i off:Nat} {v:Value} {rest:List (Nat×Value)} (b:place i=some (off,v.cells.size)) (a:off+v.cells.size<=cells.size) :
  Instr.fill place cells ((i,v) :: rest)=Instr.fill place (Ay cells.toList off v.cells.toList).toArray rest:=by
 have h1:¬(off+v.cells.size > cells.size):=by omega
 simp only[Instr.fill,b];rw[As (by simp;omega)]
 congr 1
 have:=ZG off v.cells.toList 0 cells (by simpa using a);apply Array.ext';rw[show v.cells.zipIdx.foldl (λcs x=>cs.setIfInBounds (off+x.2) x.1) cells=(v.cells.toList.zipIdx 0).foldl (λcs x=>cs.setIfInBounds (off+x.2) x.1) cells from by
  rw[<-Array.foldl_toList];simp]
 simpa using this
def D5 (V:Vw) (σ:St) (ev:Operand->Value):Prop:=∀x v,Ab σ x=some v->Bu V v (ev x)
theorem m9 (e:∀n o,lk n σ.objs=some o->A4 V o (V.ρ n)) {z x:Option AV} {y:AV} {v:Value} (b:∀a,x=some a->Bu V a v) (h:FW σ z x=some y):Bu V y v:=by
 unfold FW at h;split at h
 .rename_i t _ l;simp only[Is]at h;obtain⟨d,c,rfl⟩:=h;exact Eu (V:=V) (O':=V.O) (λ_ h=>h) (λh=>by cases h) e c (b _ rfl)
 exact b _ h
theorem Mm {V:Vw} (f:∀n o,lk n σ.objs=some o->A4 V o (V.ρ n)) {ev:Operand->Value} (e:D5 V σ ev) {place:Nat->Option (Nat×Nat)} {offs:List (Nat×Nat)} (j:∀i p,offs[i]?=some p->place i=some p) :
  ∀ {parts:List (Nat×Operand)} {fs b:List AV} {cells:Array Value},Du σ offs fs parts=some b->AVCs V fs cells.toList ->
   ∃cells':Array Value,Instr.fill place cells (parts.map λp=>(p.1,ev p.2))=some cells'/\AVCs V b cells'.toList
 | [],fs,b,cells,h,c=>by
  simp only[Du]at h;cases h;exact⟨cells,rfl,c⟩
 | (i,x) :: r,fs,b,cells,h,c=>by
  simp only[Du]at h;cases d:FW σ fs[i]? (Ab σ x) with
  | none=>rw[d]at h;cases h
  | some av =>
   rw[d]at h;simp only at h;split at h
   .rename_i l;obtain⟨h0,h1,m⟩:=l;have z:=m9 f (λa ha=>e x a ha) d;obtain⟨q,s⟩:=A0n z h0;simp only[Is]at h1;obtain⟨B,g,v⟩:=h1;obtain⟨A,_⟩:=c.get g;have y:=c.set g q v.symm;have k:=j i _ m;rw[<-s]at k;have w:CD fs i+(ev x).cells.size<=cells.size:=by grind
    obtain⟨cells',t,u⟩:=Mm f e j h (cells:=(Ay cells.toList (CD fs i) (ev x).cells.toList).toArray) (by simpa using y);refine⟨cells',?_,u⟩;rw[AA2,Sh k w];exact t
   cases h
theorem ZH {α a:Type} (f:α->Sem a) (w:World):∀ {l:List α} {ys:List a},(l.map λx=>(f x).run P w)=ys.map (λy=>Result.ok y w)->(l.mapM f).run P w=.ok ys w
 | [],ys,h=>by simp_all
 | x :: l,ys,h=>by
  cases ys with
  | nil=>simp at h
  | cons y ys =>
   simp only[AA2,AB0]at h;obtain⟨h1,b⟩:=h;have c:=ZH f w b;simp[List.mapM_cons,h1,c]
theorem A0o (hT:Dh P tb id ti) (r:∀n o,lk n σ.objs=some o->A4 (vw w O0 σ ρ) o (ρ n)) {ev:Operand->Value} (q:D5 (vw w O0 σ ρ) σ ev) {d:Bool} {parts:List (Nat×Operand)} (h:I0 d σ parts (some ti)=some (vc,v,obs)) :
  obs=[]/\∃u,(Instr.build id (parts.map λp=>(p.1,ev p.2)).toArray).run P w=.ok u w/\Bu (vw w O0 σ ρ) v u:=by
 obtain⟨z,s,C⟩:=Nj hT w;unfold I0 at h;split at h
 .rename_i u offs el b x;cases x;cases c:Du σ offs (SP d u) parts with
  | none=>rw[c]at h;simp[GK]at h
  | some D =>
   rw[c]at h;simp only[ABk,GK]at h;cases h;have a:=hT.2;have t:AVCs (vw w O0 σ ρ) (SP d u) z.cells.toList:=by rw[C];exact dK _ d u
   simp only at a;rcases a with ⟨fs,_,hu,l⟩|⟨n,e,i,_,hu,hi,l⟩
   .have m:∀(i:Nat) (p:Nat×Nat),offs[i]?=some p->offs.toArray[i]?=some p:=λi p hh=>by simpa using hh
    obtain⟨cells',g,j⟩:=Mm r q (place:=λi=>offs.toArray[i]?) m c t;have B:(fs.mapM (λf=>do pure (f.offset,<-sizeOf f.type)):Sem (Array (Nat×Nat))).run P w=.ok offs.toArray w:=by
     rw[ABh];simp only[Sem.run_map];rw[ZH (ys:=offs) _ w ?_]
     .simp
     rw [show (offs.map λy => Result.ok y w) = (offs.map some).map (λo => match o with | some y => Result.ok y w | none => .halt (.stuck "no such type") w) by simp [ABd, Function.comp_def], l, ABd]
     apply AAb;intro f _;simp only[Function.comp,sizeOf,typeInfo];cases hi:P.info? f.type<;>simp[hi]
    refine⟨rfl,.agg cells',?_,cells'.toList,by simp,j⟩;simp only[Instr.build,AAv,s,AA8,aS hu,B,g,AAV]
   have m:∀(k:Nat) (p:Nat×Nat),offs[k]?=some p->(λk=>some (k*i.size,i.size)) k=some p:=λk p hh=>by
    rw[l]at hh;simp only[AAt,Is]at hh;obtain⟨E,A,rfl⟩:=hh;obtain⟨h1,a⟩:=Of.1 A;simp only[ABJ]at a;subst a;rfl
   obtain⟨cells',g,j⟩:=Mm r q m c t;refine⟨rfl,.agg cells',?_,cells'.toList,by simp,j⟩;simp[Instr.build,s,aS hu,sizeOf,KT w hi,g]
 cases h
end
end
section
open Go Go.RowKit
section
variable {P:Program} {tb:Tb} {id:TypeId} {ti:TI} {w:World} {O0:Nat->Prop} {σ:St} {ρ:Nat->Value} {vc:Prop} {v:AV} {obs:List (Nat×Obj)}
theorem Vk {t:Ty} {w:World} {O:Nat->Prop} {v:Value} {d:t.den} (h:BQ w O t v d):v.cells.size=t.size/\Bn w O t v.cells.toList d:=by
 obtain⟨cs,a,rfl⟩:=h;rw[Sg a];exact⟨by simpa using a.length,a⟩
theorem Gr (w:World) (O:Nat->Prop) (e:Ty) (cells:List Value):DV w O e cells []:=λi x h=>by simp at h
theorem ZI {V:Vw} (A:∀n o,lk n σ.objs=some o->A4 V o (V.ρ n)) {ev:Operand->Value} (t:D5 V σ ev) {e:Ty} {N:Nat} :
  ∀ {parts:List (Nat×Operand)} {k:Nat} {xs pre:List e.den} {cells:Array Value},El σ e k parts=some xs->cells.size=N*e.size->k+xs.length<=N->pre.length=k ->
   DV V.w V.O e cells.toList pre ->
   ∃cells':Array Value,Instr.fill (λi=>some (i*e.size,e.size)) cells (parts.map λp=>(p.1,ev p.2))=some cells'/\cells'.size=cells.size/\DV V.w V.O e cells'.toList (pre++xs)
 | [],k,xs,pre,cells,h,hs,hk,m,l=>by
  simp only[El]at h;cases h;exact⟨cells,rfl,rfl,by simpa using l⟩
 | (i,x) :: r,k,xs,pre,cells,h,hs,hk,m,l=>by
  simp only[El]at h;split at h
  .rename_i F;subst F;cases s:Ab σ x with
   | none=>rw[s]at h;cases h
   | some av =>
    rw[s]at h;simp only at h;split at h
    .rename_i y ys M P;cases h;have L:=Eu (O':=V.O) (λ_ h=>h) (λh=>by cases h) A M (t x av s);obtain⟨h1,D⟩:=Vk L;simp only[NO]at hk;have d:i*e.size+(ev x).cells.size<=cells.size:=by
      rw[h1,hs,<-AAQ];exact AA1 _ O1
     have B:(Ay cells.toList (i*e.size) (ev x).cells.toList).length=cells.size:=by
      rw[Dm]
      .simp
      simpa using d
     have J:DV V.w V.O e (Ay cells.toList (i*e.size) (ev x).cells.toList) (pre++[y]):=by
      intro j z a;rw[AAx]at a;split at a
      .rename_i G;obtain⟨C,c,f,g⟩:=l j z a;refine⟨C,c,λq u b=>?_,g⟩;have K:q<e.size:=by rw[<-c];exact(Of.1 b).1
       have I:j*e.size+q<i*e.size:=by
        have:(j+1)*e.size<=i*e.size:=AA1 _ O1;rw[AAQ]at this;omega
       have E:i*e.size<=cells.toList.length:=by
        have:=d;simp;omega
       simp only[Ay,AA5];rw[AA9 (by rw[On];omega),AA7,At I];exact f q u b
      rename_i G;have H:j=i:=by
       have:=(Of.1 a).1;simp at this;omega
      subst H;have Q:z=y:=by
       rw[m,AAY]at a;simpa using a.symm
      subst Q;refine⟨(ev x).cells.toList,by simpa using h1,λq u b=>?_,D⟩;have K:q<(ev x).cells.toList.length:=(Of.1 b).1;have E:j*e.size<=cells.toList.length:=by
       have:=d;simp;omega
      have v:(cells.toList.take (j*e.size)).length=j*e.size:=by rw[On];omega
      simp only[Ay,AA5];rw[AA4 (by rw[v];omega),v,AA9 O1];rw[show j*e.size+q-j*e.size=q by omega];exact b
     obtain⟨cells',c,f,g⟩:=ZI (N:=N) A t P (pre:=pre++[y]) (cells:=(Ay cells.toList (i*e.size) (ev x).cells.toList).toArray) (by simp[B,hs]) O1 (by simp[m]) (by simpa using J);refine⟨cells',?_,by rw[f];simp[B],by simpa using g⟩;rw[AA2,Sh (by rw[h1]) d];exact c
    cases h
  cases h
theorem Xe {w:World} {et:TypeId} {sz n:Nat} {cells:Array Value} (hs:cells.size=n*sz) (hn:n<=AO) :
  (w.alloc (.cells cells et)).ownsRow w.heap.size et sz (.slice (some ⟨w.heap.size,0,none⟩) n n) n cells.toList :=
 ⟨by simpa using hs,.inr ⟨w.heap.size,n,cells,rfl,OS _,heap_alloc_new w _,OS _,by have h1:AO=140737488355328:=rfl;have a:maxLen=9223372036854775807:=rfl;omega,hs,By (by simp[hs])⟩⟩
theorem Nk (hT:Dh P tb id ti) (f:Cs P tb) (q:∀n o,lk n σ.objs=some o->A4 (vw w O0 σ ρ) o (ρ n)) {ev:Operand->Value} (m:D5 (vw w O0 σ ρ) σ ev) {d n:Nat} {parts:List (Nat×Operand)}
  (h:Bo false σ d n parts (some ti)=some (vc,v,obs)) (x:vc) (hf:Bb obs σ=true) :
  ∃u ρ' w',(Instr.buildSlice id n (parts.map λp=>(p.1,ev p.2)).toArray).run P w=.ok u w'/\QS w O0 σ ρ v obs u ρ' w':=by
 unfold Bo at h;split at h
 .rename_i e offs el b l;cases l;obtain⟨hu,hs,te,t,rfl⟩:=CM hT f;obtain⟨z,y,B⟩:=Nj (f _ _ t) w;cases a:El σ te.ty 0 parts with
  | none=>rw[a]at h;simp[Bw]at h
  | some xs =>
   rw[a]at h;simp only[Bw,AAM,AAR]at h;cases h;obtain⟨hn,A⟩:=x;subst hn;have r:=te.ty.size_pos;obtain⟨cells',h1,k,c⟩:=ZI (V:=vw w O0 σ ρ) q m a (N:=xs.length) (pre:=[]) (cells:=(Array.range (xs.length*te.ty.size)).map (λi=>(if xs.length*te.ty.size=0 then (#[]:Array Value) else z.cells)[i % (if xs.length*te.ty.size=0 then (#[]:Array Value) else z.cells).size]!)) sc O1 rfl (Gr _ _ _ _);have j:xs.length<=AO:=by
    have:xs.length*1<=xs.length*te.ty.size:=AB8 _ r;simp only[AO];omega
   have s:cells'.size=xs.length*te.ty.size:=by rw[k];simp
   refine⟨_,_,_,?_,QS.arr hf (D4 w _) (Xe (et:=el) s j) j (by rw[bY]at c;exact c) rfl⟩;have g:¬(xs.length*te.ty.size > 16777216):=by omega
   by_cases h0:xs.length*te.ty.size=0
   .simp only[h0,AAB]at h1;simp[Instr.buildSlice,aS hu,hs,g,h0,newRow];simp at h1;simp[h1]
   simp only[h0,AAR]at h1;simp only[Instr.buildSlice,AAv,aS hu,AA8,hs,As g,As h0,y,AAV,h1,newRow];rfl
 cases h
theorem A3C (hT:Dh P tb id ti) (I:Cs P tb) (af:∀n o,lk n σ.objs=some o->A4 (vw w O0 σ ρ) o (ρ n)) {ev:Operand->Value} (Y:D5 (vw w O0 σ ρ) σ ev) {d n:Nat} {A:TypeId} {parts:List (Nat×Operand)}
  (h:I2 σ d A n parts (some ti)=some (vc,v,obs)) (D:vc) (hf:Bb obs σ=true) :
  ∃u ρ' w',(Instr.buildSlice id n (parts.map λp=>(p.1,ev p.2)).toArray).run P w=.ok u w'/\QS w O0 σ ρ v obs u ρ' w':=by
 unfold I2 at h;split at h
 .rename_i x t offs el b W;cases W;obtain⟨hu,hs,te,ai,rfl⟩:=CM hT I;obtain⟨z,ak,ap⟩:=Nj (I _ _ ai) w;cases H:Ab σ x with
  | none=>rw[H]at h;unfold I1 at h;split at h<;>first|(cases h;done)|(rename_i E;cases E)
  | some av =>
   rw[H]at h;unfold I1 at h;split at h
   .rename_i k e Q ar aj T;cases T;have key:∀(c:k.den) (c1:List Value) (a:Option Addr),FM (vw w O0 σ ρ) Q c1->EY false σ k Q=some c->ev x=.agg (c1++[Value.slice a 0 0]).toArray->n=1/\k.size+1<=16777216->Bb [(d,Obj.nest el A k e [(c,[])] none)] σ=true ->
      ∃u ρ' w',(Instr.buildSlice id n ([(0,x)].map λp=>(p.1,ev p.2)).toArray).run P w=.ok u w'/\QS w O0 σ ρ (.sr d (.agg (.prod k (.slice e))) 0 1) [(d,.nest el A k e [(c,[])] none)] u ρ' w':=by
     intro c c1 a h1 s B ab hf;obtain⟨rfl,an⟩:=ab;have aa:Lay (.slice none 0 0) (.slice a 0 0):=.inr ⟨rfl,a,rfl⟩;have C:=jH (O':=own O0 σ ρ) (λ_ h=>h) (λh=>by cases h) af s h1;have C:Bn w (own O0 σ ρ) k c1 c:=C;have G:=C.length;have ah:te.ty.size=k.size+1:=by rw[aj];rfl
     rw[ah]at hs;have J:(ev x).cells.toList=c1++[Value.slice a 0 0]:=by rw[B];simp[Value.cells]
     have ag:Instr.fill (λi=>some (i*(k.size+1),k.size+1)) ((Array.range (1*(k.size+1))).map (λi=>z.cells[i % z.cells.size]!)) [(0,ev x)]=some (c1++[Value.slice a 0 0]).toArray:=by
      have K:(ev x).cells.size=k.size+1:=by rw[<-AC8,J];simp[G]
      rw[Sh (by rw[K]) (by rw[K];simp)];rw[J];simp only[Instr.fill,ACv,Ay,AAJ,bY,AAG];rw[List.drop_of_length_le (by simp[G]),AAk]
     generalize M:(Value.tuple #[Value.slice (some ⟨w.heap.size,0,none⟩) 1 1,.slice none 0 0])=loc;have ad:∀b,bk loc b->w.heap.size<=b:=by grind [A9,blk]
     have y:=Xe (w:=w) (et:=el) (sz:=k.size+1) (n:=1) (cells:=(c1++[Value.slice a 0 0]).toArray) (by simp[G]) (by simp[AO]);have y:(w.alloc (.cells (c1++[Value.slice a 0 0]).toArray el)).ownsRow 0 el (k.size+1) (.slice (some ⟨w.heap.size,0,none⟩) 1 1) 1 (c1++[Value.slice a 0 0]):=⟨y.1,y.2.imp (λh=>h) λ⟨g,cap,S,e,_,r⟩=>⟨g,cap,S,e,Do _,r⟩⟩;have hk:=G0 (O0:=O0) (ρ:=ρ) (ρ':=EF ρ d loc) hf (D4 w (.cells (c1++[Value.slice a 0 0]).toArray el)) (λm q=>by
      simp only[lk]at q;split at q
      .cases q
      .rename_i e;simp[EF,e]) (λm o b q U=>by
      simp only[lk]at q;split at q
      .grind [Bh]
      cases q)
     refine⟨.slice (some ⟨w.heap.size,0,none⟩) 1 1,EF ρ d loc,w.alloc (.cells (c1++[Value.slice a 0 0]).toArray el),?_,QS.one (D4 w _) ad ?_ ?_⟩
     .have ae:¬(1*(k.size+1) > 16777216):=by omega
      have h0:¬(1*(k.size+1)=0):=by omega
      simp only[Instr.buildSlice,AAv,aS hu,AA8,hs,As ae,As h0,ak,AAV,AA2,ABG,ag,newRow];rfl
     .refine⟨⟨.nest el A k e [(c,[])] none,by simp[DX,lk]⟩,?_⟩;show C6 (plc (EF ρ d loc d)) _ 0 1 _;rw[Bh,<-M];exact Fa y
     refine⟨_,[.slice none 0 0],c1++[Value.slice a 0 0],.inl M.symm,by simp[AO],rfl,y,λi aq u hi hu=>?_,λi j b u v hi L hu ao=>?_,λi b u hi U _=>?_⟩
     .rcases i with _|i
      .simp only[ABp,AAK]at hi hu;subst hi hu;refine⟨c1,.slice a 0 0,λj z L=>by simpa using L,C.mono hk.O hk.heap,.inr ⟨rfl,aa,by simp[AO],[],ABl _ 0 A _,Gr _ _ _ _⟩⟩
      simp at hi
     .grind
     grind [blk]
    unfold KG at h;obtain⟨cs,B,V⟩:=Y x _ H;obtain⟨c1,c2,rfl,h1,E⟩:=V;obtain⟨al,R,rfl,f,F⟩:=E;have F:R=[]:=F;subst F;split at h
    .rename_i c s;cases h;obtain⟨N,rfl,_,f⟩:=f;have f:N=.slice none 0 0:=f;subst f;exact key c c1 none h1 s (by rw[B];simp) D hf
    .rename_i c am l s;split at h
     .rename_i X;subst X;cases h;obtain⟨N,rfl,_,_,a,f⟩:=f;obtain⟨D,Z⟩:=D;rw[Z]at f;subst f;exact key c c1 a h1 s (by rw[B];simp) D hf
     cases h
    cases h
   cases h
 cases h
theorem VT (z:List Value) (f:0<z.length) (n:Nat) {i j:Nat} (b:j<z.length) (hi:i*z.length+j<n) {u:Value} (hu:z[j]?=some u) :
  (madeCells z.toArray n)[i*z.length+j]?=some u:=by
 simp only[madeCells,Array.getElem?_map,List.size_toArray];have e:(Array.range n)[i*z.length+j]?=some (i*z.length+j):=by grind
 rw[e];have d:(i*z.length+j) % z.length=j:=by
  rw[Nat.mul_comm,Nat.mul_add_mod];exact Nat.mod_eq_of_lt b
 simp only[ABk,d];have c:=(Of.1 hu);obtain⟨h1,a⟩:=c;simp[h1,a]
theorem A0p (hT:Dh P tb id ti) (f:Cs P tb) {offs:List (Nat×Nat)} {el:TypeId} {b:Nat} (y:ti=⟨.slice e,offs,el,b⟩) {te:TI} (l:lk el tb.ty=some te) {n:Int} {d:Nat}
  (h0:0<=n) (hn:n.toNat*te.bytes<=AO) (hf:Bb [(d,.arr el e (List.replicate n.toNat e.dflt))] σ=true) :
  ∃u ρ' w',(Instr.makeSlice id (.int .i64 n) (.int .i64 n)).run P w=.ok u w'/\QS w O0 σ ρ (.sr d e 0 n.toNat) [(d,.arr el e (List.replicate n.toNat e.dflt))] u ρ' w':=by
 subst y;obtain⟨hu,hs,G,m,rfl⟩:=CM hT f;rw[l]at m;cases m;obtain⟨⟨⟨_,p,_⟩,i,z,hi,k,E,C,D⟩,_⟩:=f _ _ l;have F:=te.ty.size_pos;have a:n.toNat<=AO:=by
  have:n.toNat*1<=n.toNat*te.bytes:=AB8 _ p;omega
 have o:(i.bytes:Int)*n<=281474976710656:=by grind [AO]
 have v:=run_make (P:=P) w id el i z hu hi C .i64 .i64 n n h0 (ABg _) o (by simp only[AO]at a;omega);have c:te.ty.zero.length=te.ty.size:=(Bn.zero w (λ_=>False) te.ty).length;refine⟨_,_,_,v,QS.arr hf (D4 w _) (Xe (et:=el) (sz:=te.ty.size) (n:=n.toNat) (cells:=madeCells z.cells (n.toNat*i.size)) (by rw[size_madeCells,k]) a |> λh=>by simpa using h) (by simpa using a) ?_ sc⟩;intro j x A;have r:=(Of.1 A).1;simp only[List.length_replicate]at r;have B:x=te.ty.dflt:=by grind
 subst B;refine⟨te.ty.zero,c,λq u g=>?_,Bn.zero _ _ _⟩;have t:=(Of.1 g).1;have s:j*te.ty.zero.length+q<n.toNat*i.size:=by
  rw[k,c];have:(j+1)*te.ty.size<=n.toNat*te.ty.size:=AA1 _ O1;rw[AAQ]at this;omega
 have:=VT te.ty.zero O1 (n.toNat*i.size) t s g;rw[c]at this;rw[D];simpa using this
theorem A3D (hT:Dh P tb id ti) (i:Cs P tb) {d:Nat} {x y:AV} {xv c:Value} (h:X1 tb d (some ti) (some x) (some y)=some (vc,v,obs)) (o:vc)
  (p:Bu (vw w O0 σ ρ) x xv) (q:Bu (vw w O0 σ ρ) y c) (hf:Bb obs σ=true) :
  ∃u ρ' w',(Instr.makeSlice id xv c).run P w=.ok u w'/\QS w O0 σ ρ v obs u ρ' w':=by
 unfold X1 at h;split at h
 .rename_i e offs el b n m j k l;cases j;cases k;cases l;cases a:lk el tb.ty with
  | none=>rw[a]at h;simp[Mc]at h
  | some te =>
   rw[a]at h;simp only[Mc]at h;cases h;obtain⟨rfl,_⟩:=BM p;obtain⟨rfl,_⟩:=BM q;obtain⟨h1,f,g⟩:=o;have h1:n=m:=h1;subst h1;exact A0p hT i rfl a f g hf
 cases h
end
end
section
open Go Go.RowKit
theorem Vl {w:World} {O:Nat->Prop} {e:Ty}:∀ {l:List e.den} {ad:Addr},
  (∀(i:Nat) (x:e.den),l[i]?=some x->∃b:List Value,b.length=e.size/\(∀(j:Nat) (v:Value),b[j]?=some v->w.cell? (ad.add (i*e.size+j))=some v)/\Bn w O e b x) ->
  ∃c:List Value,c.length=l.length*e.size/\DV w O e c l/\(∀u∈c,u.oneCell'=true)/\(∀(j:Nat) (u:Value),c[j]?=some u->w.cell? (ad.add j)=some u)
 | [],ad,h=>⟨[],by simp,Gr _ _ _ _,by simp,by simp⟩
 | x :: l,ad,h=>by
  obtain⟨b,h1,q,m⟩:=h 0 x rfl;obtain⟨c,n,o,p,r⟩:=Vl (w:=w) (O:=O) (e:=e) (l:=l) (ad:=ad.add e.size) (λi y hi=>by
   obtain⟨d,f,g,k⟩:=h (i+1) y (by simpa using hi);refine⟨d,f,λj v a=>?_,k⟩;rw[Cf,show e.size+(i*e.size+j)=(i+1)*e.size+j by rw[AAQ];omega];exact g j v a)
  refine⟨b++c,by simp[h1,n,AAQ];omega,λi y hi=>?_,λu hu=>?_,λj u a=>?_⟩
  .cases i with
   | zero =>
    simp at hi;subst hi;refine⟨b,h1,λj u a=>?_,m⟩;rw[ACv,AAG,AA9 (Of.1 a).1];exact a
   | succ i =>
    obtain⟨d,f,g,k⟩:=o i y (by simpa using hi);refine⟨d,f,λj u a=>?_,k⟩;rw[AA4 (by rw[h1,AAQ];omega),h1,show (i+1)*e.size+j-e.size=i*e.size+j by rw[AAQ];omega];exact g j u a
  .rcases IS.1 hu with hu|hu
   .exact m.one u hu
   exact p u hu
  grind [Cf]
section
variable {P:Program} {tb:Tb} {id:TypeId} {ti:TI} {w:World} {O0:Nat->Prop} {σ:St} {ρ:Nat->Value} {vc:Prop} {v:AV} {obs:List (Nat×Obj)}
structure Src (w:World) (O:Nat->Prop) (e:Ty) (xv:Value) (ys:List e.den) (news:List Value):Prop where
 form:∃(a:Option Addr) (c:Nat),xv=.slice a ys.length c/\(ys=[]\/∃ad,a=some ad/\∀(j:Nat) (u:Value),news[j]?=some u->w.cell? (ad.add j)=some u)
 len:news.length=ys.length*e.size
 elems:DV w O e news ys
 one:∀u∈news,u.oneCell'=true
 max:ys.length<=AO
theorem Rf (w:World) (O:Nat->Prop) (e:Ty) (a:Option Addr) (c:Nat):Src w O e (.slice a 0 c) [] [] :=
 ⟨⟨a,c,rfl,.inl rfl⟩,by simp,Gr _ _ _ _,by simp,by simp[AO]⟩
theorem Vm {et:TypeId} {xs:List e.den} {loc:Value} {cells:List Value} (k:V.w.ownsRow 0 et e.size loc xs.length cells) (g:DV V.w V.O e cells xs):∀u∈cells,u.oneCell'=true:=by
 intro u hu;obtain⟨j,h,i⟩:=AAn.1 hu;have l:=k.1;have c:=e.size_pos;have hi:j / e.size<xs.length:=by
  rw[Nat.div_lt_iff_lt_mul c];omega
 obtain⟨a,h1,d,f⟩:=g (j / e.size) (xs[j / e.size]) (An hi);have b:j % e.size<a.length:=by rw[h1];exact ACz _ c
 have:=d (j % e.size) (a[j % e.size]) (An b);rw[show j / e.size*e.size+j % e.size=j by rw[Nat.mul_comm];exact Nat.div_add_mod j e.size]at this;rw[An h]at this;injection this with this
 rw[<-i,this];exact f.one _ (AAo b)
def noN (σ:St):AV->Bool
 | .sr n _ _ _=>Cq (lk n σ.objs)
 | _=>false
theorem jJ {w:World} {O:Nat->Prop} {et:TypeId} {b:Ty} {xs:List b.den} {loc xv:Value} {cells:List Value} {lo hi:Nat} (P:xs.length<=AO) (f:w.ownsRow 0 et b.size loc xs.length cells) (n:DV w O b cells xs) (F:C6 loc b.size lo hi xv) :
  ∃H,Src w O b xv (sub xs lo hi) H:=by
 have S:=Vm (V:=⟨w,O,λ_=>False,λ_=>undef⟩) f n;obtain⟨a,m,c,q,M,o,k,l,rfl,I,h0,h1⟩:=F;have D:m=xs.length:=by
  rcases f.2 with ⟨d,E⟩|⟨g,cap,s,d,_⟩
  .grind
  rw[q]at d;injection d
 subst D;have e:=Mj xs (lo:=lo) o;by_cases B:lo<hi
 .rcases f.2 with ⟨d,E⟩|⟨g,cap,s,d,r⟩
  .omega
  have J:=World.ownsRow.cells f (g:=g) (by rw[d];rfl);have ha:a=some ⟨g,0,none⟩:=by rw[q]at d;injection d
  subst ha;have K:=f.1;have Q:hi*b.size<=xs.length*b.size:=AA1 _ o;have R:lo*b.size<=hi*b.size:=AA1 _ O1;refine⟨(cells.drop (lo*b.size)).take ((hi-lo)*b.size),⟨k,l,by rw[e],.inr ⟨_,h1 B,λj u h=>?_⟩⟩,?_,?_,?_,?_⟩
  .grind [Cf]
  .rw[e,On,AB3,Nat.sub_mul];omega
  .intro i x A;obtain⟨G,N⟩:=XX xs lo hi i A;obtain⟨t,v,y,z⟩:=n (lo+i) x G;refine⟨t,v,λj u h=>?_,z⟩;have L:=(Of.1 h).1;have C:i*b.size+j<(hi-lo)*b.size:=by
    have:(i+1)*b.size<=(hi-lo)*b.size:=AA1 _ O1;rw[AAQ]at this;omega
   rw[AA7,At C,AAz];have:=y j u h
   rwa [ABR,ACo]at this
  .grind
  rw[e];omega
 have p:sub xs lo hi=[]:=AA0 (by rw[e];omega);refine⟨[],⟨k,l,by rw[e],.inl p⟩,by rw[e,show hi-lo=0 by omega];simp,?_,by simp,by rw[e];omega⟩;rw[p];exact Gr _ _ _ _
theorem Xf (q:∀n o,lk n σ.objs=some o->A4 (vw w O0 σ ρ) o (ρ n)) {x:AV} {xv:Value} {ys:List e.den} (h:Hz true σ (.slice e) x=some ys) (F:noN σ x=false) (s:Bu (vw w O0 σ ρ) x xv) :
  ∃C,Src w (own O0 σ ρ) e xv ys C:=by
 replace h:EY true σ (.slice e) x=some ys:=by
  unfold Hz at h;exact h
 cases x;case p u I =>
  have h:BR (.slice e) ⟨u,I⟩=some ys:=by simpa only[EY] using h
  have:=BB h;injection this with h1 D
  subst h1;cases D;obtain⟨cs,⟨a,c,rfl,m,N,y⟩,rfl⟩:=s;by_cases hn:ys=[]
  .subst hn;exact⟨[],Rf _ _ _ _ _⟩
  rcases y with y|⟨ad,rfl,X,g⟩
  .exact absurd y hn
  obtain⟨C,d,f,K,M⟩:=Vl g;exact⟨C,⟨some ad,c,rfl,.inr ⟨ad,rfl,M⟩⟩,d,f,K,N⟩
 case sr n J lo hi =>
  simp only[EY]at h;split at h
  .rename_i A;obtain⟨_,rfl⟩:=A;obtain⟨O,b⟩:=s;cases hn:lk n σ.objs with
   | none=>rw[hn]at h;simp[NV]at h
   | some o =>
    rw[hn]at h;cases o with
    | box et st fs=>simp[NV]at h
    | mapo k v l=>simp[NV]at h
    | frame ah fs=>simp[NV]at h
    | loop L=>simp[NV]at h
    | itr ab ag ae af aa=>simp[NV]at h
    | dfr=>simp[NV]at h
    | sit sb sp=>simp[NV]at h
    | nest et V k t xs E=>rw[noN,hn]at F;cases F
    | arr et t xs =>
     simp only[NV]at h;obtain⟨d,f⟩:=Bk h;subst d;cases f;have b:C6 (plc (ρ n)) t.size lo hi xv:=b;rw[Rd (q n _ hn)]at b;obtain⟨B,cells,j,g⟩:=q n _ hn;exact jJ B j g b
  cases h
 case nin n J i len =>
  simp only[EY]at h;split at h
  .rename_i A;obtain⟨_,rfl⟩:=A;obtain⟨O,aj,a,c,H,G,r,R,Y⟩:=s;cases hn:lk n σ.objs with
   | none=>rw[hn]at h;simp[RD]at h
   | some o =>
    rw[hn]at h;unfold RD at h;split at h
    .rename_i et V k t xs T;cases T;obtain⟨d,f⟩:=Bk h;subst d;cases f;have Q:=Xa (z:=(k.dflt,[])) (q n _ hn) G r;obtain⟨o,ins,cells,E,P⟩:=q n _ hn;obtain rfl:=E.tup G;have r:ins[i]?=some H:=by simpa using r
     obtain⟨c1,ai,h1,D,m⟩:=P.row i _ H Q r;rcases m with ⟨m,_⟩|⟨_,_,B,Z,j,g⟩
     .cases m
     rcases R with rfl|⟨rfl,W,rfl⟩
     .have:=jJ B j g (Fa j)
      rwa [Ix]at this
     have S:=JA j;have U:(xs.getD i (k.dflt,[])).2=[]:=AA0 S.symm;rw[U];exact⟨[],Rf _ _ _ _ _⟩
    cases h
  cases h
 case raw u =>
  have b:xv=u:=s;subst b;cases xv with
  | slice a n c =>
   cases a with
   | some a=>simp[EY]at h
   | none =>
    cases n with
    | succ n=>simp[EY]at h
    | zero =>
     cases c with
     | succ c=>simp[EY]at h
     | zero =>
      simp only[EY]at h;cases h;exact⟨[],Rf _ _ _ _ _⟩
  | _=>simp[EY]at h
 all_goals simp[EY]at h
theorem Rg (a:∀n o,lk n σ.objs=some o->A4 (vw w O0 σ ρ) o (ρ n)) {x:AV} {xv:Value} {ys:List e.den} (h:NW σ e x=some ys) (b:Bu (vw w O0 σ ρ) x xv) :
  ∃f,Src w (own O0 σ ρ) e xv ys f:=by
 unfold NW at h;split at h
 .split at h
  .cases h
  rename_i c;exact Xf a h (by simpa[noN] using c) b
 rename_i d;refine Xf a h ?_ b;cases x<;>first|rfl|exact absurd rfl (d _ _ _ _)
theorem QR {el:TypeId} (hu:P.underlying id=some (.slice el)) {sz:Nat} (hs:(sizeOf el).run P w=.ok sz w) {base et ty:Nat} {s:Value} {n:Nat} {xs:List Value} (b:w.ownsRow base et sz s n xs) (c:Nat) :
  (Builtin.append_ #[id,id] ty #[s,.slice none 0 c]).run P w=.ok s w:=by
 rcases b.2 with ⟨rfl,rfl⟩|⟨g,cap,d,rfl,_,_,a,_⟩
 .simp[Builtin.append_,aS hu,hs,Builtin.lenOf,Builtin.firstCells]
 simp[Builtin.append_,aS hu,hs,Builtin.lenOf,Builtin.firstCells,a,storeCells]
theorem Fc (k:Cs P tb) {el:TypeId} (hu:P.underlying id=some (.slice el)) {te:TI} (q:lk el tb.ty=some te) (A:te.ty=e) {base ty:Nat} {s xv:Value} {n:Nat} {xs h:List Value}
    (g:w.ownsRow base el e.size s n xs) {O:Nat->Prop} {ys:List e.den} (D:Src w O e xv ys h) (r:(n+ys.length)*te.bytes<=AO) (l:base<=w.heap.size) :
    ∃b w',(Builtin.append_ #[id,id] ty #[s,xv]).run P w=.ok b w'/\w'.ownsRow base el e.size b (n+ys.length) (xs++h)/\w.grownBy w' s.ownBlock/\n+ys.length<=AO:=by
  subst A;obtain⟨⟨⟨_,x,_⟩,i,z,hi,p,m,t,u⟩,_⟩:=k _ _ q;have f:n+ys.length<=AO:=by
    have:(n+ys.length)*1<=(n+ys.length)*te.bytes:=AB8 _ x;omega
  obtain⟨⟨a,c,rfl,v⟩,o,E,C,F⟩:=D;have hs:(sizeOf el).run P w=.ok te.ty.size w:=G1 w (k _ _ q);rcases v with rfl|⟨ad,rfl,y⟩
  . have B:h=[]:=AA0 (by simpa using o)
    subst B;cases a with
    | none =>
      refine⟨s,w,QR hu hs g c,by simpa using g,⟨rfl,rfl,rfl,OS _,λ_ _ _=>rfl⟩,f⟩
    | some ad =>
      obtain⟨b,w',h1,d,j,_⟩:=run_append_own (P:=P) w base id ty el i z te.ty.size te.bytes hu hi t p m (by rw[u];simpa using (Bn.zero w (λ_=>False) te.ty).length) te.ty.size_pos s n xs g ad 0 c [] sc sc sc
        (by have h1:AO=140737488355328:=rfl;have d:maxLen=9223372036854775807:=rfl;simp at f;omega) (by simpa[AO] using r) l
      exact⟨b,w',h1,by simpa using d,j,f⟩
  obtain ⟨b, w', h1, d, j, _⟩ := run_append_own (P := P) w base id ty el i z te.ty.size te.bytes hu hi t p m (by rw [u]; simpa using (Bn.zero w (λ_ => False) te.ty).length) te.ty.size_pos s n xs g ad ys.length c h o y C
      (by have h1:AO=140737488355328:=rfl;have d:maxLen=9223372036854775807:=rfl;omega) (by simpa[AO] using r) l
  exact⟨b,w',h1,d,j,f⟩
theorem JD {w:World} {O:Nat->Prop} {c1 c2:List Value} {xs ys:List e.den} (h1:DV w O e c1 xs) (f:DV w O e c2 ys) (h:c1.length=xs.length*e.size):DV w O e (c1++c2) (xs++ys):=by
 intro i x hi;rw[AAx]at hi;split at hi
 .obtain⟨a,b,c,d⟩:=h1 i x hi;grind
 rename_i k;obtain⟨a,b,c,d⟩:=f _ x hi;refine⟨a,b,λj u g=>?_,d⟩;have l:xs.length*e.size<=i*e.size:=AA1 _ O1;rw[AA4 O1,h];have:=c j u g;rw[Nat.sub_mul]at this;rw[<-this]
 congr 1
 omega
theorem QT (k:Cs P tb) {el:TypeId} (hu:P.underlying id=some (.slice el)) {te:TI} (m:lk el tb.ty=some te) (x:te.ty=e) {ty:Nat} {xv:Value} {O:Nat->Prop} {xs:List e.den} {a:Option Addr} {c:List Value}
  (hs:Src w O e (.slice a xs.length xs.length) xs c) {ys:List e.den} {d:List Value} (l:Src w O e xv ys d) (h0:0<ys.length) (n:(xs.length+ys.length)*te.bytes<=AO) :
  ∃b w',(Builtin.append_ #[id,id] ty #[.slice a xs.length xs.length,xv]).run P w=.ok b w'/\w'.ownsRow w.heap.size el e.size b (xs.length+ys.length) (c++d)/\w.grownBy w' none:=by
 subst x;have o:∀ad:Addr,a=some ad->(∀(j:Nat) (u:Value),c[j]?=some u->w.cell? (ad.add j)=some u)->∃b w',(Builtin.append_ #[id,id] ty #[.slice a xs.length xs.length,xv]).run P w=.ok b w'/\w'.ownsRow w.heap.size el te.ty.size b (xs.length+ys.length) (c++d)/\w.grownBy w' none:=by
  intro ad ha D;subst ha;obtain⟨⟨⟨_,s,_⟩,i,z,hi,E,t,F,G⟩,_⟩:=k _ _ m;obtain⟨⟨I,c2,rfl,f⟩,A,M,T,Q⟩:=l;have S:xs.length+ys.length<=AO:=by
   have:(xs.length+ys.length)*1<=(xs.length+ys.length)*te.bytes:=AB8 _ s;omega
  rcases f with rfl|⟨p,rfl,g⟩
  .simp at h0
  exact run_append_arg_grows (P:=P) w id ty el i z te.ty.size te.bytes hu hi F E t (by rw[G];simpa using (Bn.zero w (λ_=>False) te.ty).length) te.ty.size_pos ad xs.length xs.length c hs.len D p ys.length c2 d A g O1
   (by have h1:AO=140737488355328:=rfl;have h:maxLen=9223372036854775807:=rfl;omega) (by simpa[AO] using n)
 obtain⟨⟨H,c1,v,f⟩,B,N,U,R⟩:=hs;injection v with q J K
 subst q;rcases f with rfl|⟨ad,ha,g⟩
 .have C:c=[]:=AA0 (by simpa using B);subst C;cases a with
  | some ad=>exact o ad rfl λj u y=>by simp at y
  | none =>
   obtain⟨b,w',h1,h,r,L⟩:=Fc (ty:=ty) k hu m rfl (ABl w w.heap.size el te.ty.size) l (by simpa using n) (OS _);exact⟨b,w',h1,by simpa using h,r⟩
 exact o ad ha g
theorem QU {w w':World} (h:w.grownBy w' none):Below w.heap.size w w':=⟨h.os,h.tape,h.output,h.size,λk hk=>h.block k hk sc⟩
theorem r8 (a:Cs P tb) (E:∀n o,lk n σ.objs=some o->A4 (vw w O0 σ ρ) o (ρ n)) {d:Nat} {t u:TypeId} {x y:AV} {xv J:Value} {ty:TypeId}
  (h:Cn tb σ d t u (some x) (some y)=some (vc,v,obs)) (m:vc) (q:Bu (vw w O0 σ ρ) x xv) (H:Bu (vw w O0 σ ρ) y J) (hf:Bb obs σ=true) :
  ∃z ρ' w',(Builtin.append_ #[t,u] ty #[xv,J]).run P w=.ok z w'/\QS w O0 σ ρ v obs z ρ' w':=by
 unfold Cn at h;split at h
 .rename_i C D;cases C;cases D;have q:xv=_:=q;subst q;split at h
  .rename_i G;subst G;cases c:lk t tb.ty with
   | none=>rw[c]at h;simp[Eb]at h
   | some ti =>
    rw[c]at h;unfold Eb at h;split at h
    .rename_i e offs el b B;cases B;obtain⟨hu,hs,te,i,k⟩:=CM (a _ _ c) a;rw[i]at h;cases f:NW σ e y with
     | none=>rw[f]at h;simp[E3]at h
     | some ys =>
      rw[f]at h;simp only[E3]at h;cases h;obtain⟨I,g⟩:=Rg E f H;obtain⟨r,w',h1,j,A,Q⟩:=Fc (ty:=ty) a hu i k (ABl w w.heap.size el e.size) g (by simpa using m) (OS _);have j:w'.ownsRow w.heap.size el e.size r ys.length I:=by simpa using j
      exact⟨r,_,w',h1,QS.arr hf (QU A) j g.max g.elems rfl⟩
    cases h
  cases h
 .rename_i e l v1 C D;cases C;cases D;split at h
  .rename_i G;subst G;obtain⟨M,O,rfl⟩:=q;cases c:lk t tb.ty with
   | none=>rw[c]at h;simp[I7]at h
   | some ti =>
    rw[c]at h;unfold I7 at h;split at h
    .rename_i s offs el b B;cases B;split at h
     .rename_i k;subst k;obtain⟨hu,hs,te,i,k⟩:=CM (a _ _ c) a;rw[i]at h;cases f:NW σ s y with
      | none=>rw[f]at h;simp[KH]at h
      | some ys =>
       rw[f]at h;simp only[KH]at h;cases h;obtain⟨N,m⟩:=m;obtain⟨I,g⟩:=Rg E f H;obtain⟨R,F⟩:=Xf (e:=s) (ys:=l) (x:=.p (.slice s) l) E (by simp[Hz,EY,Fz]) rfl M;obtain⟨r,w',h1,j,A⟩:=QT (ty:=ty) a hu i k F g N m;have L:(l++ys).length<=AO:=by
        obtain⟨⟨⟨_,K,_⟩,_⟩,_⟩:=a _ _ i;have:(l.length+ys.length)*1<=(l.length+ys.length)*te.bytes:=AB8 _ K;rw[If];omega
       exact⟨r,_,w',h1,QS.arr hf (QU A) (by rw[If];exact j) L (JD F.elems g.elems F.len) (by rw[If])⟩
     cases h
    cases h
  cases h
 cases h
end
end
section
open Go Go.RowKit
def Si:Ty->Option TypeDesc
 | .int k=>some (.int k)
 | .bool=>some .bool
 | .str=>some .string
 | .prod _ _=>none
 | .agg _=>none
 | .slice _=>none
 | .ref _=>none
section
variable {w:World} {O:Nat->Prop}
theorem Le {a:Ty} (b:Si a=some d) {k:a.den} {c:Value} (h:BQ w O a c k):MapKept.IsKey d c:=by
 cases a<;>simp only[Si]at b<;>try(cases b;done)
 all_goals cases b
 .obtain⟨rfl,_⟩:=BM h;trivial
 .have:=Dn h;subst this;trivial
 obtain⟨rfl,_⟩:=F4 h;trivial
theorem ZJ {a:Ty} (c:Si a=some d) {k e:a.den} {g:Value} (h:BQ w O a f k) (b:BQ w O a g e):Instr.sameNow d f g=some (Gn a k e):=by
 cases a<;>simp only[Si]at c<;>try(cases c;done)
 all_goals cases c
 .obtain⟨rfl,_⟩:=BM h;obtain⟨rfl,_⟩:=BM b;simp[Instr.sameNow,Gn]
 .have:=Dn h;subst this;have:=Dn b;subst this;simp[Instr.sameNow,Gn]
 obtain⟨rfl,_⟩:=F4 h;obtain⟨rfl,_⟩:=F4 b;simp[Instr.sameNow,Gn]
theorem A3E {a:Ty} (b:Si a=some d) {k e:a.den} {g:Value} (h:BQ w O a f k) (c:BQ w O a g e) (l:Gn a k e=true):g=f:=by
 have h1:=ZJ b h c;obtain⟨r,i,j⟩:=MapKept.sameNow_of_keys (Le b h) (Le b c);grind
def KU (a b:Ty) (k:a.den):List MapEntry->List (a.den×b.den)->Nat->Option (Nat×Value)
 | e :: c,x :: l,i=>if Gn a k x.1=true then some (i,e.val) else KU a b k c l (i+1)
 | _,_,_=>none
end
structure Xg (P:Program) (kid:TypeId) (kt:Ty):Prop where
 check:∀ {w:World} {O:Nat->Prop} {kv:Value} {k:kt.den} (em:Bool),BQ w O kt kv k->(Instr.checkKey em 10000 kid kv).run P w=.ok () w
 find:∀ {w:World} {O:Nat->Prop} {vt:Ty} {es:List MapEntry} {l:List (kt.den×vt.den)} {kv:Value} {k:kt.den},BQ w O kt kv k->Mh w O kt vt es l->(Instr.findKey kid kv es).run P w=.ok (KU kt vt k es l 0) w
 stays:∀ {w:World} {O:Nat->Prop} {kv:Value} {k:kt.den},BQ w O kt kv k->(Instr.keyThatStays kv kv).run P w=.ok kv w
 same:∀ {w:World} {O:Nat->Prop} {kv kv':Value} {k k':kt.den},BQ w O kt kv k->BQ w O kt kv' k'->Gn kt k k'=true->kv'=kv
theorem Vn {w:World} {O:Nat->Prop} {a c:Ty} {d:TypeDesc} (g:Si a=some d) {k:a.den} {j:Value} (hk:BQ w O a j k):∀ {b:List MapEntry} {l:List (a.den×c.den)},Mh w O a c b l->∀i,Instr.findNow d j b i=some (KU a c k b l i)
 | [],[],_,i=>rfl
 | [],_ :: _,h,_=>h.elim
 | _ :: _,[],h,_=>h.elim
 | e :: b,x :: l,⟨h1,o,m⟩,i=>by
  have hs:=ZJ g hk h1;have n:=Vn g hk m (i+1);cases f:Gn a k x.1<;>rw[f]at hs<;>simp[Instr.findNow,KU,hs,f,n]
theorem H6 (hd:Si e=some d) (hu:P.underlying t=some d):Xg P t e where
 check:=λem h=>MapKept.run_checkKey hu (Le hd h) em 9999
 find:=λhk he=>MapKept.run_findKey hu (Vn hd hk he 0)
 stays:=λh=>MapKept.run_keyThatStays (Le hd h)
 same:=λh h' he=>A3E hd h h' he
theorem Dp {O:Nat->Prop} {v:Value} {d:(Ty.agg (.prod (.int a) (.int b))).den} (h:BQ w O (.agg (.prod (.int a) (.int b))) v d):v=.agg #[.int a d.1,.int b d.2]:=by
 obtain⟨cs,⟨c1,c2,rfl,⟨rfl,_⟩,⟨rfl,_⟩⟩,rfl⟩:=h;rfl
theorem KV (h:P.underlying t=some (.int a)) (d:Nat) (x y:Int):(Op.equalIn (d+1) t (.int a x) (.int a y)).run P w=.ok (x==y) w:=by simp[Op.equalIn,aS h]
theorem Nl (h:P.underlying t=some (.int a)) (em:Bool) (d:Nat) (x:Int):(Instr.checkKey em (d+1) t (.int a x)).run P w=.ok () w:=by simp[Instr.checkKey,aS h]
theorem VU {h:TypeId} (n:JB P h a b) (em:Bool) (d:Nat) (x y:Int):(Instr.checkKey em (d+2) h (.agg #[.int a x,.int b y])).run P w=.ok () w:=by
 obtain⟨c,e,hu,⟨h1,j⟩,⟨l,m⟩,⟨f,g⟩,t⟩:=n;have i : c.name ≠ "_" := by simpa using h1
 have k : e.name ≠ "_" := by simpa using j
 have o:P.plainKey c.type=true:=by simp[Program.plainKey,f]
 have p:P.plainKey e.type=true:=by simp[Program.plainKey,g]
 have p0:=λ(u v:Value)=>ABB (P:=P) w o (xs:=#[u,v]) (off:=c.offset) (v:=u) (by rw[l];rfl);have q:=λ(u v:Value)=>ABB (P:=P) w p (xs:=#[u,v]) (off:=e.offset) (v:=v) (by rw[m];rfl);have r:=λx:Int=>Nl (w:=w) f em d x;have s:=λx:Int=>Nl (w:=w) g em d x;rw[Instr.checkKey];simp[aS hu,i,k,p0,q,r,s]
theorem Mn {g:TypeId} (z:JB P g a b) (w:World) (h i j k:Int):(Op.equal g (.agg #[.int a h,.int b i]) (.agg #[.int a j,.int b k])).run P w=.ok ((h==j)&&(i==k)) w:=by
 obtain⟨d,f,hu,⟨h1,l⟩,⟨r,s⟩,⟨m,n⟩,t⟩:=z;have o:P.fieldsOf g=#[d,f]:=by simp[Program.fieldsOf,hu]
 have A:P.plainKey d.type=true:=by simp[Program.plainKey,m]
 have B:P.plainKey f.type=true:=by simp[Program.plainKey,n]
 have h1 : d.name ≠ "_" := by simpa using h1
 have l : f.name ≠ "_" := by simpa using l
 have C:∀x y:Int,(Op.equalIn 9999 d.type (.int a x) (.int a y)).run P w=.ok (x==y) w:=λx y=>KV m 9998 x y;have p:∀x y:Int,(Op.equalIn 9999 f.type (.int b x) (.int b y)).run P w=.ok (x==y) w:=λx y=>KV n 9998 x y;have e:(Op.equal g (.agg #[.int a h,.int b i]) (.agg #[.int a j,.int b k])).run P w=_:=run_equalIn_struct (P:=P) w 9999 g _ _ (by rw[o];exact hu) t;rw[e,o];have p0:=λ(u v:Value)=>ABB (P:=P) w A (xs:=#[u,v]) (off:=d.offset) (v:=u) (by rw[r];rfl);have q:=λ(u v:Value)=>ABB (P:=P) w B (xs:=#[u,v]) (off:=f.offset) (v:=v) (by rw[s];rfl);simp only[Op.eqFields,h1,l,ne_eq,ACl,AAB,AAv,p0,q,AA8,C,p];by_cases c:h=j
 .by_cases c2:i=k<;>simp[c,c2,ACp,AAv,q,p,Op.eqFields]
 simp[c,ACp]
theorem Vo {P:Program} {j:TypeId} {a b:IntKind} (f:JB P j a b) {w:World} {O:Nat->Prop} {d:Ty} {k:(Ty.agg (.prod (.int a) (.int b))).den} {m:Value} (hk:BQ w O (.agg (.prod (.int a) (.int b))) m k) :
  ∀ {c:List MapEntry} {l:List ((Ty.agg (.prod (.int a) (.int b))).den×d.den)},Mh w O (.agg (.prod (.int a) (.int b))) d c l->∀i,(Instr.findAsking j m c i).run P w=.ok (KU (.agg (.prod (.int a) (.int b))) d k c l i) w
 | [],[],_,i=>rfl
 | [],_ :: _,h,_=>h.elim
 | _ :: _,[],h,_=>h.elim
 | e :: c,x :: l,⟨h1,q,n⟩,i=>by
  have p:=Vo f hk n (i+1);have g:=Mn f w k.1 k.2 x.1.1 x.1.2;rw[<-Dp hk,<-Dp h1]at g;have o:Gn (.agg (.prod (.int a) (.int b))) k x.1=((k.1==x.1.1)&&(k.2==x.1.2)):=rfl;simp only[Instr.findAsking,AAv,g,AA8,KU,o,ACp];split
  .rfl
  exact p
theorem ZK (hp:JB P t a b):Xg P t (.agg (.prod (.int a) (.int b))) where
 check:=λem h=>by
  rw[Dp h];exact VU hp em 9998 _ _
 find:=λhk he=>by
  have hp2:=hp;obtain⟨f0,f1,hu,_⟩:=hp2;rw[run_findKey_eq _ (by rw[hu])];exact Vo hp hk he 0
 stays:=λh=>by
  rw[Dp h];simp[Instr.keyThatStays,Instr.sameBits]
 same:=λh h' he=>by
  rw[Dp h,Dp h'];have he:((_==_)&&(_==_))=true:=he;grind
theorem PP {P:Program} {B:TypeId} {w:World} {O:Nat->Prop} {c a:Ty} (t:Xg P B c) {k:c.den} {n:Value} (hk:BQ w O c n k):∀ {g:List MapEntry} {l:List (c.den×a.den)},Mh w O c a g l->∀i,
  (BO c a k l=none/\KU c a k g l i=none/\∀(v:a.den) (d:Value) (b:Nat),BQ w O a d v->Mh w O c a (g++[⟨n,d,b⟩]) (Em c a k v l)) \/
  ∃(j:Nat) (e:MapEntry) (v0:a.den),BO c a k l=some v0/\KU c a k g l i=some (i+j,e.val)/\g[j]?=some e/\BQ w O a e.val v0/\e.key=n /\
   ∀(v:a.den) (d:Value),BQ w O a d v->Mh w O c a (g.modify j λe=>{ e with key:=n,val:=d }) (Em c a k v l)
 | [],[],_,i=>.inl ⟨rfl,rfl,λv d b m=>⟨hk,m,trivial⟩⟩
 | [],_ :: _,h,_=>h.elim
 | _ :: _,[],h,_=>h.elim
 | e :: g,x :: l,⟨h1,q,s⟩,i=>by
  cases f:Gn c k x.1 with
  | true =>
   refine .inr ⟨0,e,x.2,by simp[BO,f],by simp[KU,f],rfl,q,t.same hk h1 f,λv d m=>?_⟩;simp only[Em,f,AAB];exact⟨hk,m,s⟩
  | false =>
   rcases PP t hk s (i+1) with ⟨o,r,p⟩|⟨j,u,v0,o,r,p,y,z,A⟩
   .refine .inl ⟨by simp[BO,f,o],by simp[KU,f,r],λv d b m=>?_⟩;simp only[Em,f,AAM,AAR];exact⟨h1,q,p v d b m⟩
   refine .inr ⟨j+1,u,v0,by simp[BO,f,o],?_,by simpa using p,y,z,λv d m=>?_⟩
   .grind [KU]
   simp only[Em,f,AAM,AAR,List.modify_succ_cons];exact⟨h1,q,A v d m⟩
theorem ZL {tb:Tb} {ti:TI} (hT:Dh P tb t ti) (c:ti.el=0) (hk:XT ti.ty=true):Xg P t ti.ty:=by
 have a:=hT.2;obtain⟨⟨⟨_,_,b⟩,_⟩,_⟩:=hT;rw[c]at b;cases d:ti.ty<;>rw[d]at a hk b<;>simp only[XT]at hk<;>try(cases hk;done)
 .exact H6 rfl a
 .exact H6 rfl a
 .exact H6 rfl a
 unfold m4 at hk;split at hk
 .exact ZK b
 cases hk
theorem nA {t:Ty} {z:Value} (c:z.cells=t.zero.toArray) (hf:Xb t z=true):z=t.wrap t.zero:=by
 cases t with
 | agg t =>
  cases z<;>simp only[Xb]at hf<;>try(cases hf;done)
  simp only[Value.cells]at c;rw[c];rfl
 | prod a b=>cases z<;>simp[Xb]at hf
 | _=>cases z<;>simp only[Xb]at hf<;>(try(cases hf;done))<;>(simp only[Value.cells,Ty.zero]at c;simp[Ty.wrap,Ty.zero]at c ⊢<;>exact c)
section
variable {P:Program} {tb:Tb} {w:World} {O0:Nat->Prop} {σ:St} {ρ:Nat->Value} {vc:Prop} {v:AV} {obs:List (Nat×Obj)} {id:TypeId} {ti:TI}
theorem nB {P:Program} {tb:Tb} {e:TypeId} {te:TI} {z:Value} {i:TypeInfo} (hi:P.info? e=some i) (b:i.zero=some z) (a:z.cells=te.ty.zero.toArray) (hf:Xb te.ty z=true) (w:World) (O:Nat->Prop) :
  (zeroValue e).run P w=.ok z w/\BQ w O te.ty z te.ty.dflt:=by
 refine⟨by simp[zeroValue,typeInfo,hi,b],te.ty.zero,Bn.zero w O te.ty,nA a hf⟩
theorem bnd (f:Nat):¬(1000000+f<1000000)/\1000000+f-1000000=f:=by omega
theorem A5P {a:Act} (q:D5 (vw w O0 σ ρ) σ a.eval) {fn:Fn} {first e:List Operand} (h:Y6 σ fn first e=some (vc,v,obs)):obs=[]/\∃u,(Instr.makeFunc fn (first.map a.eval).toArray (e.map a.eval).toArray).run P w=.ok u w/\Bu (vw w O0 σ ρ) v u:=by
 unfold Y6 at h;split at h
 .rename_i f;split at h;case isFalse=>cases h
  rename_i y;cases j:Hh σ e with
  | none=>rw[j]at h;simp[QI]at h
  | some ns =>
   rw[j]at h;simp only[QI]at h;cases h;have key:∀ {l:List Operand} {ns:List Nat},Hh σ l=some ns->l.map a.eval=ns.map ρ/\∀n∈ns,GI σ n/\∃b:Nat,ρ n=.pointer (some ⟨b,0,none⟩):=by
    intro l;induction l with
    | nil=>intro ns h;simp only[Hh]at h;cases h;exact⟨rfl,λ_ h=>by cases h⟩
    | cons x r z =>
     intro ns h;simp only[Hh]at h;split at h
     .rename_i n B h1 s;cases h;obtain⟨g,i⟩:=z s;obtain⟨o,b,c,p⟩:=q x _ h1;have c:ρ n=_:=c;refine⟨by simp only[AA2,g,p,c],λm d=>?_⟩;rcases BY.1 d with rfl|d
      .exact⟨o,b,c⟩
      exact i m d
     cases h
   obtain⟨g,i⟩:=key j;refine⟨rfl,_,rfl,?_,i⟩;rw[g];unfold m6;rw[At y];rfl
 .rename_i f x;cases k:Ab σ x with
  | none=>rw[k]at h;simp[Y5]at h
  | some xv =>
   rw[k]at h;unfold Y5 at h;split at h
   .rename_i n t;cases t;cases h;obtain⟨o,b,c,p⟩:=q x _ k;have c:ρ n=_:=c;refine⟨rfl,_,rfl,?_,λm d=>?_⟩
    .unfold m6;rw[As (bnd f).1,(bnd f).2];simp only[AA2,ABG,p];have A:(vw w O0 σ ρ).ρ n=.pointer (some ⟨b,0,none⟩):=c;rw[A]
    obtain rfl:=oF.1 d;exact⟨o,b,c⟩
   cases h
 cases h
theorem nC {a:Array MapEntry} {cl:Nat} (h:XU a cl) (x y:Value):XU (a.push ⟨x,y,cl⟩) (cl+1):=by grind [XU]
theorem ZM {a:Array MapEntry} {cl:Nat} (h:XU a cl) (j:Nat) (x y:Value):XU (a.modify j λe=>{ e with key:=x,val:=y }) cl:=by
 have e:((a.modify j λe=>{ e with key:=x,val:=y }).toList.map (·.born))=a.toList.map (·.born):=by
  rw[Array.toList_modify];apply AAl
  .simp
  grind
 unfold XU;rw[e];exact h
theorem A3F (G:Cs P tb) (hT:Dh P tb id ti) {n:Nat} {k e:Nat} (Q:ti.ty=.ref 2) (N:ti.offs=[(k,e)]) {a:TI} (R:lk k tb.ty=some a) {c:Ty} {l:List (a.ty.den×c.den)} (H:V.w=w)
  (M:A4 V (.mapo a.ty c l) (V.ρ n)) {x y:Value} {kd:a.ty.den} {h:c.den} (I:a.el=0) (K:XT a.ty=true) (g:BQ w V.O a.ty x kd) (B:BQ w V.O c y h) :
  ∃b p s,V.ρ n=.map (some b)/\(Instr.mapUpdate id (.map (some b)) x y).run P w=.ok () { w with heap:=w.heap.setIfInBounds b (.map p s) }/\(∃o,w.heap[b]?=some o)/\Mh w V.O a.ty c p.toList (Em a.ty c kd h l)/\XU p s:=by
 obtain⟨d,hu,_,L⟩:∃d,P.underlying id=some d/\(match d with|.struct _=>False|.array _ _=>False|_=>True) /\
   ∀k e,(2:Nat)=2->ti.offs=[(k,e)]->d=.map k e/\∃(a te:TI) (z:Value),lk k tb.ty=some a/\lk e tb.ty=some te/\(∃i,P.info? e=some i/\i.zero=some z)/\z.cells=te.ty.zero.toArray/\Xb te.ty z=true:=by
  have:=hT.2;rw[Q]at this;exact this
 obtain⟨rfl,_⟩:=L k e rfl N;obtain⟨b,m,cl,A,hh,u,t⟩:=M;subst H;have f:=ZL (G _ _ R) I K;have v:=f.find g u;refine⟨b,?_⟩;rcases PP f g u 0 with ⟨D,q,r⟩|⟨j,C,v0,D,q,r,S,E,F⟩
 .refine⟨m.push ⟨x,y,cl⟩,cl+1,A,?_,⟨_,hh⟩,by simpa using r h y cl B,nC t x y⟩;simp[Instr.mapUpdate,aS hu,ABr hh,f.check _ g,v,q,MapKept.run_setObj_map _ hh]
 have J:m[j]?=some C:=by simpa using r
 refine⟨m.modify j λe=>{ e with key:=x,val:=y },cl,A,?_,⟨_,hh⟩,by rw[Array.toList_modify];exact F h y B,ZM t j x y⟩;simp[Instr.mapUpdate,aS hu,ABr hh,f.check _ g,v,q,J,E,f.stays g,MapKept.run_setObj_map _ hh]
theorem nD (hT:Dh P tb id ti) {d:Nat} (h:F1 tb d (some ti)=some (vc,v,obs)) (hf:Bb obs σ=true) :
  ∃u ρ' w',(Instr.makeMap id none).run P w=.ok u w'/\QS w O0 σ ρ v obs u ρ' w':=by
 unfold F1 at h;split at h
 .rename_i offs _ _ c;cases c;unfold Gq at h;split at h
  .rename_i k e;unfold Gp at h;split at h
   .cases h;have f:(Instr.makeMap id none).run P w=.ok (.map (some w.heap.size)) (w.alloc (.map #[] 0)):=by
     simp[Instr.makeMap,Result.andThen]
    refine⟨_,_,_,f,QS.one (loc:=.map (some w.heap.size)) ((Below.refl _ w).alloc (OS _) _) ?_ ?_ ?_⟩
    .grind [bk,blk]
    .refine⟨⟨_,by simp only[DX,To,lk,AAB];rfl⟩,w.heap.size,?_,rfl⟩;show EF ρ d _ d=_;rw[Bh]
    exact⟨w.heap.size,#[],0,rfl,(MapKept.heap_alloc w _).1,trivial,List.Pairwise.nil,λb a=>by cases a⟩
   cases h
  cases h
 cases h
theorem A3G (hT:Dh P tb id ti) (M:Cs P tb) (H:∀n o,lk n σ.objs=some o->A4 (vw w O0 σ ρ) o (ρ n)) {ok:Bool} {x y:AV} {xv D:Value} (h:IQ tb σ ok (some ti) (some x) (some y)=some (vc,v,obs))
  (Y:Bu (vw w O0 σ ρ) x xv) (Z:Bu (vw w O0 σ ρ) y D):obs=[]/\∃u,(Instr.lookup id xv D ok).run P w=.ok u w/\Bu (vw w O0 σ ρ) v u:=by
 unfold IQ at h;split at h
 .rename_i k e _ _ n z Q R S;cases Q;cases R;cases S;obtain⟨d,hu,_,W⟩:=hT.2;obtain⟨rfl,C,te,ag,J,X,⟨i,hi,aa⟩,ae,af⟩:=W k e rfl rfl;cases hn:lk n σ.objs with
  | none=>rw[hn]at h;simp[H1]at h
  | some o =>
   rw[hn]at h;cases o with
   | mapo aj ak l =>
    simp only[H1,J,X,ABk,AAK]at h;split at h
    .rename_i O;obtain⟨rfl,T,rfl⟩:=O;cases hk:Hz false σ C.ty y with
     | none=>rw[hk]at h;simp[KJ]at h
     | some kd =>
      rw[hk]at h;simp only[KJ]at h;split at h
      .rename_i U;have a:=Eu (V:=vw w O0 σ ρ) (O':=own O0 σ ρ) (λ_ h=>h) (λh=>by cases h) H hk Z;have a:BQ w (own O0 σ ρ) C.ty D kd:=a;obtain⟨ai,b,B,rfl⟩:=Y;have B:ρ n=_:=B;obtain⟨ah,E,cl,c,hh,m,-⟩:=H n _ hn;rw[B]at c;injection c with c
       injection c with c
       subst c;have hh:w.heap[b]?=some (.map E cl):=hh;have m:Mh w (own O0 σ ρ) C.ty te.ty E.toList l:=m;have p:=ZL (M _ _ J) T U;have G:=p.find a m;obtain⟨ab,ad⟩:=nB (te:=te) (P:=P) (tb:=tb) hi aa ae af w (own O0 σ ρ);have F:∀(f:Value) (q:Bool) (r:Option te.ty.den),BQ w (own O0 σ ρ) te.ty f (r.getD te.ty.dflt)->q=r.isSome->Md te.ty ok r=some (vc,v,obs)->obs=[]/\∃u,u=(if ok=true then Value.tuple #[f,.bool q] else f)/\Bu (vw w O0 σ ρ) v u:=by
        intro f q r I N g;unfold Md at g;subst N;cases ok with
        | true =>
         simp only[AAB]at g ⊢;cases g;exact⟨rfl,_,rfl,[f,.bool r.isSome],rfl,f,_,rfl,I,_,[],rfl,Bg _,rfl⟩
        | false =>
         simp only[AAM,AAR]at g ⊢;cases g;exact⟨rfl,_,rfl,I⟩
       rcases PP p a m 0 with ⟨s,t,_⟩|⟨j,K,v0,s,t,_,L,_,_⟩
       .rw[s]at h;obtain⟨h1,u,rfl,A⟩:=F ag false none ad rfl h;refine⟨h1,_,?_,A⟩;simp[Instr.lookup,aS hu,ABr hh,p.check _ a,G,t,ab]
       rw[s]at h;obtain⟨h1,u,rfl,A⟩:=F K.val true (some v0) L rfl h;refine⟨h1,_,?_,A⟩;simp[Instr.lookup,aS hu,ABr hh,p.check _ a,G,t]
      cases h
    cases h
   | _=>simp[H1]at h
 cases h
end
end
end Go.Proofs.YtglkoagnnnpimaaGreatDoor.Fw
