/- Range over a function; scopes; several steps in one. -/
import Derived.Test.YtaoonfcjbmcmpaaGreatDoorFZH
import Derived.RangeFuncFrom
import Derived.Laws.IdiomRangeMap
import Derived.Laws.StructEq
import Derived.Laws.RangeAny
set_option linter.unusedVariables false
set_option linter.unusedSimpArgs false
namespace Go.Proofs.YtaoonfcjbmcmpaaGreatDoor.Fw
section
open Go Go.RowKit
section
variable {c:Cx} {R:Exit->Act->World->Prop} {k:List Cl} {σ:St}
def r9 (n:Nat):Option AV->Bool
 | some (.yl m)=>m==n
 | _=>false
end
def Q2:List Nat->List AV->List (Nat×AV)->List (Nat×AV)
 | p :: a,x :: xs,e=>Q2 a xs ((p,x) :: e)
 | _,_,e=>e
def cY (P:Program) (tb:Tb) (w0:World) (K O0:Nat->Prop) (nt l:Nat) (pin:List (Nat×Value)):Cx:={ P:=P,tb:=tb,w0:=w0,K:=K,O0:=O0,nt:=nt,ds:={ pin:=pin },r:=some l }
theorem bI {P:Program} {tb:Tb} {w0:World} {K O0:Nat->Prop} {nt l:Nat} {pin:List (Nat×Value)}:(cY P tb w0 K O0 nt l pin).tb=tb:=rfl
end
section
open Go Go.RowKit
def Cx.marked (c:Cx) (a b:Nat):Cx:={ c with ds:={ ds:=⟨.collected b,#[]⟩ :: c.ds.ds,pin:=(a,.pointer (some ⟨b,0,none⟩)) :: c.ds.pin } }
theorem LK {c:Cx} {a b:Nat}:(c.marked a b).tb=c.tb:=rfl
def Py (σ:St) (d a b:Nat) (L:Go.Loop) (c:Array Value):St:=⟨σ.env,(d,.loop L) :: (a,.dfr) :: (b,.frame c σ.env) :: σ.objs⟩
end
section
open Go Go.RowKit
section
variable {c:Cx} {R:Exit->Act->World->Prop} {k:List Cl} {σ σ':St}
theorem rP (b:c.Ok) {id:Nat} {l:List Oper} {vc:Prop} (e:vc) (d:Ev c R (.out .normal) k σ') (a:(l.all λo=>o.guard.isNone)=true:=by rfl)
  (h:De c.tb.live (Bu c.tb l l σ)=some (vc,σ'):=by simp only[go_sem,Nat.reduceEqDiff,reduceCtorEq,Nat.reduceAdd,Nat.reduceSub,Nat.reduceMul,Nat.reduceLeDiff,Nat.reduceLT,Int.reduceLE,Int.reduceToNat,Int.reduceNeg,↓reduceIte];rfl):Ev c R (.run (.region id l.toArray false)) k σ:=F7 _ b a h e d
theorem rC {o:Operand} {x y:Code} {b:Bool} {p q:Prop} (f:p->Ev c R (.run x) k σ) (a:q->Ev c R (.run y) k σ) (h:Ae σ o=some (.p .bool b):=by simp only[go_sem,Nat.reduceEqDiff,reduceCtorEq,Nat.reduceAdd,Nat.reduceSub,Nat.reduceMul,Nat.reduceLeDiff,Nat.reduceLT,Int.reduceLE,Int.reduceToNat,Int.reduceNeg,↓reduceIte];rfl)
  (hp:(b=true)=p:=by first|(simp only[Do,IF,AT,bY,Bool.and_eq_false_imp,wT,OF,AAP,AA9,AAI,ABW,Bool.not_eq_eq_eq_not,ABU,AC1,AAs,ABP,ACO];rfl)|rfl) (d:(b=false)=q:=by first|(simp only[Do,IF,AT,bY,Bool.and_eq_false_imp,wT,OF,AAP,AA9,AAI,ABW,Bool.not_eq_eq_eq_not,ABU,AC1,AAs,ABP,ACO];rfl)|rfl):Ev c R (.run (.cond o x y)) k σ :=
 DK h (λe=>f (hp▸e)) (λe=>a (d▸e))
theorem rL (a:c.Ok) {ops:List Oper} {l:List Oper} {vc:Prop} (d:vc) (b:Ev c R (.out .normal) k σ') (h:De c.tb.live (Bu c.tb ops l σ)=some (vc,σ'):=by simp only[go_sem,Nat.reduceEqDiff,reduceCtorEq,Nat.reduceAdd,Nat.reduceSub,Nat.reduceMul,Nat.reduceLeDiff,Nat.reduceLT,Int.reduceLE,Int.reduceToNat,Int.reduceNeg,↓reduceIte];rfl):Cu c R k ops.toArray l σ:=Wp _ a h d b
theorem rN (n:Nat) (a:c.Ok) {ops:List Oper} {l:List Oper} {vc:Prop} (d:vc) (b:Cu c R k ops.toArray (l.drop n) σ') (h:Bu c.tb ops (l.take n) σ=some (vc,σ'):=by simp only[AAJ,AB6,go_sem,Nat.reduceEqDiff,reduceCtorEq,Nat.reduceAdd,Nat.reduceSub,Nat.reduceMul,Nat.reduceLeDiff,Nat.reduceLT,Int.reduceLE,Int.reduceToNat,Int.reduceNeg,↓reduceIte];rfl):Cu c R k ops.toArray l σ:=Pw a n (by simpa using h) d b
theorem cP (n:Nat) (b:c.Ok) {id:Nat} {l:List Oper} {vc:Prop} (e:vc) (d:Cu c R k l.toArray (l.drop n) σ') (a:(l.all λo=>o.guard.isNone)=true:=by rfl) (h:Bu c.tb l (l.take n) σ=some (vc,σ'):=by simp only[AAJ,AB6,go_sem,Nat.reduceEqDiff,reduceCtorEq,Nat.reduceAdd,Nat.reduceSub,Nat.reduceMul,Nat.reduceLeDiff,Nat.reduceLT,Int.reduceLE,Int.reduceToNat,Int.reduceNeg,↓reduceIte];rfl) :
  Ev c R (.run (.region id l.toArray false)) k σ:=lE b n a h e d
theorem cD (n:Nat) (a:c.Ok) {id:Nat} {l:List Oper} {vc:Prop} (f:vc) (d:Cu c R k l.toArray (l.drop n) σ') (b:KM l (l.take n).length=true:=by kernel_rfl) (e:c.P.follows .mixedOrders=true:=by exact drawsAny)
  (h:J3 c.tb l false σ.objs [] (l.take n) 0 [] [] σ=some (vc,σ'):=by simp only[AAJ,AB6,go_sem,Nat.reduceEqDiff,reduceCtorEq,Nat.reduceAdd,Nat.reduceSub,Nat.reduceMul,Nat.reduceLeDiff,Nat.reduceLT,Int.reduceLE,Int.reduceToNat,Int.reduceNeg,↓reduceIte];rfl):Ev c R (.run (.region id l.toArray true)) k σ:=lF e a n b h f d
theorem rM (q:c.Ok) {ops:Array Oper} {rest:List Oper} {dst:Option Nat} {g:Operand} {xs:List Operand} {ts:Array TypeId} {ty:TypeId} {pos:String} {after:Array Edge}
  {f:FuncId} {d:List Nat} {as:List AV} {A:List AV} {objs:List (Nat×Obj)} {stay:List Nat} {post:AV->List (Nat×Obj)->Prop} (m:Aj c.P f A objs stay post)
  (ren:List (Nat×CB)) (hs:List Nat) (l:Bb σ ren (as++d.map λn=>AV.bp n [] 0) A) (o:Ao σ.objs ren objs)
  (s:∀res e,post res e->∃(a:List (Nat×CB)) (h:AV) (b:List (Nat×Obj)),CZ a=true/\Ct b a=true/\Ao e a b/\CK a res h /\
   KT ren a stay hs=true/\GR (Az ren) b σ.objs=true/\Cu c R k ops rest (Dv σ (Az ren) hs dst h b))
  (r:Ca (Ae σ g)=some (f,d):=by simp only[go_sem,Nat.reduceEqDiff,reduceCtorEq,Nat.reduceAdd,Nat.reduceSub,Nat.reduceMul,Nat.reduceLeDiff,Nat.reduceLT,Int.reduceLE,Int.reduceToNat,Int.reduceNeg,↓reduceIte];rfl) (has:IG σ xs=some as:=by simp only[go_sem,Nat.reduceEqDiff,reduceCtorEq,Nat.reduceAdd,Nat.reduceSub,Nat.reduceMul,Nat.reduceLeDiff,Nat.reduceLT,Int.reduceLE,Int.reduceToNat,Int.reduceNeg,↓reduceIte];rfl)
  (i:CZ ren=true:=by rfl) (j:Ct objs ren=true:=by rfl) (t:(c.ds.pin.all λp=>!Ac p.1 hs)=true:=by rfl) :
  Cu c R k ops (⟨dst,.call ⟨.value g,xs.toArray,ts⟩,ty,pos,after,none⟩ :: rest) σ:=lD q r has m ren hs i j t l o s
end
end
section
open Go Go.RowKit
def bJ:Yn->List Cl->Option (Yn×List Cl)
 | .run (.seq x y),k=>some (.run x,.seq y :: k)
 | .run .skip,k=>some (.out .normal,k)
 | .run .ret,k=>some (.out .ret,k)
 | .run (.exit id),k=>some (.out (.exit id),k)
 | .run (.block id b),k=>some (.run b,.blk id :: k)
 | .out .normal,.seq y :: k=>some (.run y,k)
 | .out .normal,.blk _ :: k=>some (.out .normal,k)
 | .out (.exit id),.seq _ :: k=>some (.out (.exit id),k)
 | .out (.exit a),.blk id :: k=>if a=id then some (.out .normal,k) else some (.out (.exit a),k)
 | .out (.exit id),.inv _ :: k=>some (.out (.exit id),k)
 | .out .ret,.seq _ :: k=>some (.out .ret,k)
 | .out .ret,.blk _ :: k=>some (.out .ret,k)
 | .out .ret,.inv _ :: k=>some (.out .ret,k)
 | _,_=>none
def Q3:Nat->Yn->List Cl->Yn×List Cl
 | 0,n,k=>(n,k)
 | m+1,n,k=>match bJ n k with
  | some (b,a)=>Q3 m b a
  | none=>(n,k)
def bK (n:Yn) (k:List Cl):Option (Yn×List Cl):=match bJ n k with
 | some (b,a)=>some (Q3 200 b a)
 | none=>none
section
variable {c:Cx} {R:Exit->Act->World->Prop} {σ:St}
theorem Wy {n b:Yn} {k a:List Cl} (e:bJ n k=some (b,a)) (h:Ev c R b a σ):Ev c R n k σ:=by
 unfold bJ at e;split at e<;>first
  | (cases e;done)
  | (split at e<;>(cases e;first|(rename_i d;rw[d];exact Yt h)|exact Yu (by assumption) h))
  | (cases e;first|exact x5 h|exact aR h|exact x6 h|exact rO h|exact kU h|exact G8 h|exact Yp h|exact Wa h|exact Wb h|exact Yo h|exact Yq h|exact Yr h)
theorem TM:∀(m:Nat) {n:Yn} {k:List Cl},Ev c R (Q3 m n k).1 (Q3 m n k).2 σ->Ev c R n k σ
 | 0,_,_,h=>h
 | m+1,n,k,h=>by
  unfold Q3 at h;split at h
  .rename_i b a e;exact Wy e (TM m h)
  exact h
theorem eS {n b:Yn} {k a:List Cl} (e:bK n k=some (b,a)) (h:Ev c R b a σ):Ev c R n k σ:=by grind [bK,Wy,TM]
end
inductive RX (c:Cx) (lv:List Nat) (σ:St) (vc:Prop) (σ':St):Array Oper->Bool->Prop
 | p {l:List Oper} (h0:(l.all λo=>o.guard.isNone)=true) (h:De lv (Bu c.tb l l σ)=some (vc,σ')):RX c lv σ vc σ' l.toArray false
 | a {l:List Oper} (h0:eY l l.length=true) (h:De lv (J3 c.tb l true σ.objs [] l 0 [] [] σ)=some (vc,σ')):RX c lv σ vc σ' l.toArray false
 | d {l:List Oper} (h0:KM l l.length=true) (hm:c.P.follows .mixedOrders=true) (h:De lv (J3 c.tb l false σ.objs [] l 0 [] [] σ)=some (vc,σ')):RX c lv σ vc σ' l.toArray true
 | t {l:List Oper} (m:Nat) (h0:KM l (l.take (l.length-m)).length=true) (hm:c.P.follows .mixedOrders=true) (h:De lv (J3 c.tb l false σ.objs (l.drop (l.length-m)) (l.take (l.length-m)) 0 [] [] σ)=some (vc,σ')):RX c lv σ vc σ' l.toArray true
theorem A0l {c:Cx} {R:Exit->Act->World->Prop} {k:List Cl} {σ σ':St} {e:List Nat} (f:c.Ok) {id:Nat} {ops:Array Oper} {l:Bool} {vc:Prop} (i:vc) (g:Ev c R (.out .normal) k σ') (h:RX c e σ vc σ' ops l):Ev c R (.run (.region id ops l)) k σ:=by
 cases h with
 | p b h=>exact F7 e f b h i g
 | a b h=>exact Wo e f b h i g
 | d b j h=>exact fB e j f b h i g
 | t m b j h=>exact fC e m j f b h i g
theorem rX {c:Cx} {R:Exit->Act->World->Prop} {k:List Cl} {σ σ':St} (e:c.Ok) {id:Nat} {ops:Array Oper} {b:Bool} {vc:Prop} (g:vc) (f:Ev c R (.out .normal) k σ')
  (h:RX c c.tb.live σ vc σ' ops b:=by
   first
   | exact .p rfl (by simp only[go_sem,Nat.reduceEqDiff,reduceCtorEq,Nat.reduceAdd,Nat.reduceSub,Nat.reduceMul,Nat.reduceLeDiff,Nat.reduceLT,Int.reduceLE,Int.reduceToNat,Int.reduceNeg,↓reduceIte];rfl)
   | exact .a (by kernel_rfl) (by simp only[go_sem,Nat.reduceEqDiff,reduceCtorEq,Nat.reduceAdd,Nat.reduceSub,Nat.reduceMul,Nat.reduceLeDiff,Nat.reduceLT,Int.reduceLE,Int.reduceToNat,Int.reduceNeg,↓reduceIte];rfl)
   | exact .d (by kernel_rfl) (by exact drawsAny) (by simp only[go_sem,Nat.reduceEqDiff,reduceCtorEq,Nat.reduceAdd,Nat.reduceSub,Nat.reduceMul,Nat.reduceLeDiff,Nat.reduceLT,Int.reduceLE,Int.reduceToNat,Int.reduceNeg,↓reduceIte];rfl)
   | exact .t 1 (by kernel_rfl) (by exact drawsAny) (by simp only[AAJ,ACl,AB6,AAz,go_sem,Nat.reduceEqDiff,reduceCtorEq,Nat.reduceAdd,Nat.reduceSub,Nat.reduceMul,Nat.reduceLeDiff,Nat.reduceLT,Int.reduceLE,Int.reduceToNat,Int.reduceNeg,↓reduceIte];rfl)
   | exact .t 2 (by kernel_rfl) (by exact drawsAny) (by simp only[AAJ,ACl,AB6,AAz,go_sem,Nat.reduceEqDiff,reduceCtorEq,Nat.reduceAdd,Nat.reduceSub,Nat.reduceMul,Nat.reduceLeDiff,Nat.reduceLT,Int.reduceLE,Int.reduceToNat,Int.reduceNeg,↓reduceIte];rfl)
   | exact .t 3 (by kernel_rfl) (by exact drawsAny) (by simp only[AAJ,ACl,AB6,AAz,go_sem,Nat.reduceEqDiff,reduceCtorEq,Nat.reduceAdd,Nat.reduceSub,Nat.reduceMul,Nat.reduceLeDiff,Nat.reduceLT,Int.reduceLE,Int.reduceToNat,Int.reduceNeg,↓reduceIte];rfl)):Ev c R (.run (.region id ops b)) k σ:=A0l e g f h
theorem eN {p:Prop} (h:p:=by simp only[go_sem,Nat.reduceEqDiff,reduceCtorEq,Nat.reduceAdd,Nat.reduceSub,Nat.reduceMul,Nat.reduceLeDiff,Nat.reduceLT,Int.reduceLE,Int.reduceToNat,Int.reduceNeg,↓reduceIte]<;>fail):p:=h
theorem eM {p q:Prop} (a:q) (h:p=q:=by simp only[go_sem,Nat.reduceEqDiff,reduceCtorEq,Nat.reduceAdd,Nat.reduceSub,Nat.reduceMul,Nat.reduceLeDiff,Nat.reduceLT,Int.reduceLE,Int.reduceToNat,Int.reduceNeg,↓reduceIte];rfl):p:=h▸a
theorem eR {p:Prop} (h:p:=by simp only[Lt,Qa,IY,Gf,LB,GP,kV,go_sem,Nat.reduceEqDiff,reduceCtorEq,Nat.reduceAdd,Nat.reduceSub,Nat.reduceMul,Nat.reduceLeDiff,Nat.reduceLT,Int.reduceLE,Int.reduceToNat,Int.reduceNeg,↓reduceIte]<;>fail):p:=h
theorem qD {p q:Prop} (a:q) (h:p=q:=by simp only[Lt,Qa,IY,Gf,LB,GP,kV,go_sem,Nat.reduceEqDiff,reduceCtorEq,Nat.reduceAdd,Nat.reduceSub,Nat.reduceMul,Nat.reduceLeDiff,Nat.reduceLT,Int.reduceLE,Int.reduceToNat,Int.reduceNeg,↓reduceIte];rfl):p:=h▸a
theorem eV {p:Prop} (h:p:=by (try dsimp only[Ty.den]at *)<;>(repeat'(first|apply And.intro|intro _))<;>omega):p:=h
end
section
open Go Go.RowKit
section
variable {c:Cx} {R:Exit->Act->World->Prop} {k:List Cl} {σ σ':St}
theorem lT (e:c.Ok) {id:Nat} {l:List Oper} (n:Nat) {vc:Prop} (h:Bu c.tb l (l.take n) σ=some (vc,σ')) (i:vc) (f:Cu c R k l.toArray (l.drop n) σ') :
  Ev c R (.run (.region id l.toArray false)) k σ:=by
 intro b d a w hs;simp only[Jq,CN,IS]at b;exact ACd (Pw e n (by simpa using h) i f (λo g=>b o g) d a w hs)
theorem fP (E:c.Ok) {ops:Array Oper} {rest:List Oper} {dst:Option Nat} {g:Operand} {xs:List Operand} {ts:Array TypeId} {ty:TypeId} {pos:String} {after:Array Edge} {i:Option (Nat×Bool)}
  (G:EH ops.toList σ i=some true)
  {f:FuncId} {j:List Nat} (F:Ca (Ae σ g)=some (f,j)) {as:List AV} (has:IG σ xs=some as)
  {A:List AV} {objs:List (Nat×Obj)} {stay:List Nat} {post:AV->List (Nat×Obj)->Prop} (C:Aj c.P f A objs stay post)
  (ren:List (Nat×CB)) (hs:List Nat) (x:CZ ren=true) (y:Ct objs ren=true) (K:(c.ds.pin.all λp=>!Ac p.1 hs)=true) (z:Bb σ ren (as++j.map λn=>AV.bp n [] 0) A) (D:Ao σ.objs ren objs)
  (H:∀res e,post res e->∃(b:List (Nat×CB)) (h:AV) (d:List (Nat×Obj)),CZ b=true/\Ct d b=true/\Ao e b d/\CK b res h /\
   KT ren b stay hs=true/\GR (Az ren) d σ.objs=true/\Cu c R k ops rest (Dv σ (Az ren) hs dst h d)) :
  Cu c R k ops (⟨dst,.call ⟨.value g,xs.toArray,ts⟩,ty,pos,after,i⟩ :: rest) σ:=by
 intro l I a w m;unfold wpListIn;rw[At (Ge (o:=⟨dst,.call ⟨.value g,xs.toArray,ts⟩,ty,pos,after,i⟩) m G)];refine Uz E (xs:=xs) (ts:=ts) rfl rfl F has C ren x y z D hs K m (BB (l _ sa)) λres e hp=>?_;obtain⟨b,h,d,g1,r,s,t,u,v,B⟩:=H res e hp;exact⟨b,h,d,g1,r,s,t,u,v,λq w' L=>B (λo J=>l o (by simp[J])) I q w' L⟩
end
end
section
open Go Go.RowKit
section
variable {c:Cx} {ops:List Oper} {Kf:St->Prop} {τ:St} {ens:EN} {vc:Prop}
theorem WA {A D:List Nat} {l:Nat} {b:List (List Nat×Nat)} {o:Oper} {σ1:St} {a:EN} (i:vc) (d:Y7 c o σ1 a (λk=>lG c ops Kf b D a k)) (h:Y6 c.tb ops τ.objs (A++qs b D) [] τ.env=some (vc,ens):=by simp only[go_sem,Nat.reduceEqDiff,reduceCtorEq,Nat.reduceAdd,Nat.reduceSub,Nat.reduceMul,Nat.reduceLeDiff,Nat.reduceLT,Int.reduceLE,Int.reduceToNat,Int.reduceNeg,↓reduceIte];rfl) (f:N6 ens τ.objs=true:=by rfl) (g:ops[l]?=some o:=by rfl)
  (j:KU (ens.take A.length) τ=σ1:=by simp only[go_sem,Nat.reduceEqDiff,reduceCtorEq,Nat.reduceAdd,Nat.reduceSub,Nat.reduceMul,Nat.reduceLeDiff,Nat.reduceLT,Int.reduceLE,Int.reduceToNat,Int.reduceNeg,↓reduceIte];rfl) (e:ens.drop A.length=a:=by simp only[go_sem,Nat.reduceEqDiff,reduceCtorEq,Nat.reduceAdd,Nat.reduceSub,Nat.reduceMul,Nat.reduceLeDiff,Nat.reduceLT,Int.reduceLE,Int.reduceToNat,Int.reduceNeg,↓reduceIte];rfl):lG c ops Kf ((A,l) :: b) D ens τ:=lS h i f g j e d
theorem WB {R:Exit->Act->World->Prop} {k:List Cl} {σ':St} (d:c.Ok) {D:List Nat} {l:List Oper} {a:Prop} (g:vc) (i:a) (f:Ev c R (.out .normal) k σ') (h:Y6 c.tb ops τ.objs D [] τ.env=some (vc,ens):=by simp only[go_sem,Nat.reduceEqDiff,reduceCtorEq,Nat.reduceAdd,Nat.reduceSub,Nat.reduceMul,Nat.reduceLeDiff,Nat.reduceLT,Int.reduceLE,Int.reduceToNat,Int.reduceNeg,↓reduceIte];rfl) (e:N6 ens τ.objs=true:=by rfl)
  (b:De c.tb.live (Bu c.tb ops l (KU ens τ))=some (a,σ'):=by simp only[go_sem,Nat.reduceEqDiff,reduceCtorEq,Nat.reduceAdd,Nat.reduceSub,Nat.reduceMul,Nat.reduceLeDiff,Nat.reduceLT,Int.reduceLE,Int.reduceToNat,Int.reduceNeg,↓reduceIte];rfl):lG c ops (fun τ=>Cu c R k ops.toArray l τ) [] D ens τ:=lR h g e (Wp _ d b i f)
end
section
variable {c:Cx} {o:Oper} {σ:St} {ens:EN} {N:St->Prop} {R:Exit->Act->World->Prop} {k:List Cl} {σ':St}
theorem YU (b:c.Ok) {τ:St} {vc:Prop} (ns:List Nat) (k:vc) (a:N τ) (h:Hf c.tb o σ=some (vc,τ):=by simp only[go_sem,Nat.reduceEqDiff,reduceCtorEq,Nat.reduceAdd,Nat.reduceSub,Nat.reduceMul,Nat.reduceLeDiff,Nat.reduceLT,Int.reduceLE,Int.reduceToNat,Int.reduceNeg,↓reduceIte];rfl) (i:tn σ o.op=ns:=by simp only[go_sem,Nat.reduceEqDiff,reduceCtorEq,Nat.reduceAdd,Nat.reduceSub,Nat.reduceMul,Nat.reduceLeDiff,Nat.reduceLT,Int.reduceLE,Int.reduceToNat,Int.reduceNeg,↓reduceIte]) (j:ME o ens=true:=by rfl) (g:KY ns σ.objs ens=true:=by rfl) (f:Q1 τ.objs ens=true:=by rfl)
  (e:Ii ns ens=ens:=by simp only[go_sem,Nat.reduceEqDiff,reduceCtorEq,Nat.reduceAdd,Nat.reduceSub,Nat.reduceMul,Nat.reduceLeDiff,Nat.reduceLT,Int.reduceLE,Int.reduceToNat,Int.reduceNeg,↓reduceIte]) (d:IX c.nt o=true:=by rfl):Y7 c o σ ens N:=fN b ns h i j g f e d k a
theorem mxC (o:c.Ok) {dst:Option Nat} {g:Operand} {xs:List Operand} {ts:Array TypeId} {ty:TypeId} {pos:String} {after:Array Edge} {f:FuncId} {d:List Nat} {as:List AV}
  {A:List AV} {objs:List (Nat×Obj)} {stay:List Nat} {post:AV->List (Nat×Obj)->Prop} (l:Aj c.P f A objs stay post) (ren:List (Nat×CB)) (hs:List Nat)
  (k:Bb σ ren (as++d.map λn=>AV.bp n [] 0) A) (m:Ao σ.objs ren objs)
  (t:∀res e,post res e->∃(b:List (Nat×CB)) (h:AV) (a:List (Nat×Obj)),CZ b=true/\Ct a b=true/\Ao e b a/\CK b res h /\
   KT ren b stay hs=true/\GR (Az ren) a σ.objs=true/\Q1 a ens=true/\N (Dv σ (Az ren) hs dst h a))
  (s:Ca (Ae σ g)=some (f,d):=by simp only[go_sem,Nat.reduceEqDiff,reduceCtorEq,Nat.reduceAdd,Nat.reduceSub,Nat.reduceMul,Nat.reduceLeDiff,Nat.reduceLT,Int.reduceLE,Int.reduceToNat,Int.reduceNeg,↓reduceIte];rfl) (has:IG σ xs=some as:=by simp only[go_sem,Nat.reduceEqDiff,reduceCtorEq,Nat.reduceAdd,Nat.reduceSub,Nat.reduceMul,Nat.reduceLeDiff,Nat.reduceLT,Int.reduceLE,Int.reduceToNat,Int.reduceNeg,↓reduceIte];rfl) (i:CZ ren=true:=by rfl) (j:Ct objs ren=true:=by rfl) (v:(c.ds.pin.all λp=>!Ac p.1 hs)=true:=by rfl)
  (w:ME ⟨dst,.call ⟨.value g,xs.toArray,ts⟩,ty,pos,after,none⟩ ens=true:=by rfl) (u:KY (Az ren) σ.objs ens=true:=by rfl) (r:Ii hs ens=ens:=by simp only[go_sem,Nat.reduceEqDiff,reduceCtorEq,Nat.reduceAdd,Nat.reduceSub,Nat.reduceMul,Nat.reduceLeDiff,Nat.reduceLT,Int.reduceLE,Int.reduceToNat,Int.reduceNeg,↓reduceIte]) (q:IX c.nt ⟨dst,.call ⟨.value g,xs.toArray,ts⟩,ty,pos,after,none⟩=true:=by rfl) :
  Y7 c ⟨dst,.call ⟨.value g,xs.toArray,ts⟩,ty,pos,after,none⟩ σ ens N:=fO o s has l ren hs i j v w u r q k m t
theorem evP (a:c.Ok) {id:Nat} {l:List Oper} (n:Nat) {vc:Prop} (d:vc) (b:Cu c R k l.toArray (l.drop n) σ') (h:Bu c.tb l (l.take n) σ=some (vc,σ'):=by simp only[AAJ,AB6,go_sem,Nat.reduceEqDiff,reduceCtorEq,Nat.reduceAdd,Nat.reduceSub,Nat.reduceMul,Nat.reduceLeDiff,Nat.reduceLT,Int.reduceLE,Int.reduceToNat,Int.reduceNeg,↓reduceIte];rfl):Ev c R (.run (.region id l.toArray false)) k σ:=lT a n h d b
theorem clG (r:c.Ok) {ops:Array Oper} {rest:List Oper} {dst:Option Nat} {g:Operand} {xs:List Operand} {ts:Array TypeId} {ty:TypeId} {pos:String} {after:Array Edge} {e:Option (Nat×Bool)} {f:FuncId} {d:List Nat} {as:List AV}
  {A:List AV} {objs:List (Nat×Obj)} {stay:List Nat} {post:AV->List (Nat×Obj)->Prop} (o:Aj c.P f A objs stay post) (ren:List (Nat×CB)) (hs:List Nat) (m:Bb σ ren (as++d.map λn=>AV.bp n [] 0) A) (q:Ao σ.objs ren objs)
  (u:∀res h,post res h->∃(a:List (Nat×CB)) (i:AV) (b:List (Nat×Obj)),CZ a=true/\Ct b a=true/\Ao h a b/\CK a res i /\
   KT ren a stay hs=true/\GR (Az ren) b σ.objs=true/\Cu c R k ops rest (Dv σ (Az ren) hs dst i b))
  (t:EH ops.toList σ e=some true:=by simp only[go_sem,Nat.reduceEqDiff,reduceCtorEq,Nat.reduceAdd,Nat.reduceSub,Nat.reduceMul,Nat.reduceLeDiff,Nat.reduceLT,Int.reduceLE,Int.reduceToNat,Int.reduceNeg,↓reduceIte]) (s:Ca (Ae σ g)=some (f,d):=by simp only[go_sem,Nat.reduceEqDiff,reduceCtorEq,Nat.reduceAdd,Nat.reduceSub,Nat.reduceMul,Nat.reduceLeDiff,Nat.reduceLT,Int.reduceLE,Int.reduceToNat,Int.reduceNeg,↓reduceIte];rfl) (has:IG σ xs=some as:=by simp only[go_sem,Nat.reduceEqDiff,reduceCtorEq,Nat.reduceAdd,Nat.reduceSub,Nat.reduceMul,Nat.reduceLeDiff,Nat.reduceLT,Int.reduceLE,Int.reduceToNat,Int.reduceNeg,↓reduceIte];rfl) (j:CZ ren=true:=by rfl) (l:Ct objs ren=true:=by rfl) (v:(c.ds.pin.all λp=>!Ac p.1 hs)=true:=by rfl) :
  Cu c R k ops (⟨dst,.call ⟨.value g,xs.toArray,ts⟩,ty,pos,after,e⟩ :: rest) σ:=fP r t s has o ren hs j l v m q u
theorem DH (l:List Nat) {n:Yn} {σ1:St} (a:Ev c R n k σ1) (h:DB l σ=σ1:=by simp only[go_sem,Nat.reduceEqDiff,reduceCtorEq,Nat.reduceAdd,Nat.reduceSub,Nat.reduceMul,Nat.reduceLeDiff,Nat.reduceLT,Int.reduceLE,Int.reduceToNat,Int.reduceNeg,↓reduceIte];rfl):Ev c R n k σ:=Ev.ent a (rT l h λ_ _ h=>h)
end
theorem eW {c:Cx} {σ σ':St} (ren:List (Nat×CB)) (a:CZ ren=true:=by rfl) (b:Ct σ'.objs ren=true:=by rfl) (e:Ao σ.objs ren σ'.objs:=by exact eN) (d:Ee σ.env ren σ'.env:=by exact eN) (hp:x7 c.ds.pin ren=true:=by rfl):qC c σ σ':=AC ren a b e d hp
theorem eT {p:Prop} (h:p:=by simp only[PC,Wn,KS,PB,IY,Gf,GP,go_sem,Nat.reduceEqDiff,reduceCtorEq,Nat.reduceAdd,Nat.reduceSub,Nat.reduceMul,Nat.reduceLeDiff,Nat.reduceLT,Int.reduceLE,Int.reduceToNat,Int.reduceNeg,↓reduceIte]<;>fail):p:=h
section
variable {P:Program} {ty:List (Nat×TI)} {fs:List (Nat×Spec)} {nt:Nat} {f:FuncId} {fn:Func} {cd:Code}
theorem fKP (b c:List Nat) (ne:List (Nat×TypeId)) {a:Spec} (g:P.funcs[f]?=some fn) (k:fn.ntmps=nt) (hF:KH P ⟨ty,fs,c,ne,b⟩)
  (h:∀(w0:World) (O0:Nat->Prop) (ds:H4 a.ins),(cx P ⟨ty,fs,c,ne,b⟩ w0 O0 nt).Ok->oks a.ins ds->a.pre ds->Ev (cx P ⟨ty,fs,c,ne,b⟩ w0 O0 nt) (S5 P fn w0 O0 (a.out ds)) (.run cd) [] ⟨AP 0 a.ins ds,[]⟩)
  (d : fn.body = some cd := by rfl) (hT : DG P ⟨ty, fs, c, ne, b⟩ := by exact tyTab_ok _ _ _ _) (j : (fn.name == "runtime.NumGoroutine") = false := by kernel_rfl) (i : a.ins.length <= nt := by decide) (e : CN nt cd = true := by kernel_rfl) : Ap P f a := w5 g j d k i e hT hF h
theorem fK (b:List Nat) {a:Spec} (e:P.funcs[f]?=some fn) (j:fn.ntmps=nt) (hF:KH P ⟨ty,fs,[],[],b⟩)
  (h:∀(w0:World) (O0:Nat->Prop) (ds:H4 a.ins),(cx P ⟨ty,fs,[],[],b⟩ w0 O0 nt).Ok->oks a.ins ds->a.pre ds->Ev (cx P ⟨ty,fs,[],[],b⟩ w0 O0 nt) (S5 P fn w0 O0 (a.out ds)) (.run cd) [] ⟨AP 0 a.ins ds,[]⟩)
  (c : fn.body = some cd := by rfl) (hT : DG P ⟨ty, fs, [], [], b⟩ := by exact tyTab_ok _ _ _ _) (i : (fn.name == "runtime.NumGoroutine") = false := by kernel_rfl) (g : a.ins.length <= nt := by decide) (d : CN nt cd = true := by kernel_rfl) : Ap P f a := w5 e i c j g d hT hF h
variable {args:List AV} {objs:List (Nat×Obj)} {stay:List Nat} {post:AV->List (Nat×Obj)->Prop}
theorem Er (a b:List Nat) (ne:List (Nat×TypeId)) (e:P.funcs[f]?=some fn) (k:fn.ntmps=nt) (hF:KH P ⟨ty,fs,b,ne,a⟩)
  (h:∀(w0:World) (K O0:Nat->Prop) (ρ0:Nat->Value),(cm P ⟨ty,fs,b,ne,a⟩ w0 K O0 nt (stay.map λn=>(n,ρ0 n))).Ok->TD args->Uy objs ->
   Ev (cm P ⟨ty,fs,b,ne,a⟩ w0 K O0 nt (stay.map λn=>(n,ρ0 n))) (rV P fn w0 K O0 stay ρ0 post) (.run cd) [] ⟨AX 0 args,objs⟩)
  (c : fn.body = some cd := by rfl) (hT : DG P ⟨ty, fs, b, ne, a⟩ := by exact tyTab_ok _ _ _ _) (j : (fn.name == "runtime.NumGoroutine") = false := by kernel_rfl) (i : args.length <= nt := by simp only [iF, AB9]; omega) (d : CN nt cd = true := by kernel_rfl) (l : stay.all (bC objs) = true := by rfl) (g : Qc objs = true := by rfl) : Aj P f args objs stay post := yE e j c k i d l g hT hF h
end
theorem fI {P:Program} {tb:Tb} {w0:World} {O0:Nat->Prop} {nt:Nat} (b:(cx P tb w0 O0 nt).Ok) {fn:Func} {outs:List RV} {σ:St} {e:Exit} (a:List ResultVar) (h:Lt tb σ a outs:=by exact eR) (f:fn.results.toList=a:=by rfl) (c:e=.ret\/e=.normal:=by exact .inl rfl) (hp:∀r∈outs,∃t d,r=.p t d:=by simp) :
  Ev (cx P tb w0 O0 nt) (S5 P fn w0 O0 outs) (.out e) [] σ:=yC b a f c hp h
theorem fM {P:Program} {tb:Tb} {w0:World} {K O0:Nat->Prop} {nt:Nat} {stay:List Nat} {ρ0:Nat->Value} {fn:Func} {post:AV->List (Nat×Obj)->Prop} {σ:St} {e:Exit} (b:(cm P tb w0 K O0 nt (stay.map λn=>(n,ρ0 n))).Ok)
  (a:List ResultVar) (res:AV) (h:PC tb σ a res) (hp:post res σ.objs) (d:fn.results.toList=a:=by rfl) (c:e=.ret\/e=.normal:=by first|exact .inl rfl|exact .inr rfl) :
  Ev (cm P tb w0 K O0 nt (stay.map λn=>(n,ρ0 n))) (rV P fn w0 K O0 stay ρ0 post) (.out e) [] σ:=rY b a d c res h hp
theorem rMe {c:Cx} {R:Exit->Act->World->Prop} {k:List Cl} {σ:St} (q:c.Ok) {ops:Array Oper} {rest:List Oper} {dst:Option Nat} {g:Operand} {xs:List Operand} {ts:Array TypeId} {ty:TypeId} {pos:String} {after:Array Edge}
  {f:FuncId} {d:List Nat} {as:List AV} {A:List AV} {objs:List (Nat×Obj)} {stay:List Nat} {post:AV->List (Nat×Obj)->Prop} (m:Aj c.P f A objs stay post)
  (ren:List (Nat×CB)) (hs:List Nat)
  (s:∀res e,post res e->∃(a:List (Nat×CB)) (h:AV) (b:List (Nat×Obj)),CZ a=true/\Ct b a=true/\Ao e a b/\CK a res h /\
   KT ren a stay hs=true/\GR (Az ren) b σ.objs=true/\Cu c R k ops rest (Dv σ (Az ren) hs dst h b))
  (r:Ca (Ae σ g)=some (f,d):=by simp only[go_sem,Nat.reduceEqDiff,reduceCtorEq,Nat.reduceAdd,Nat.reduceSub,Nat.reduceMul,Nat.reduceLeDiff,Nat.reduceLT,Int.reduceLE,Int.reduceToNat,Int.reduceNeg,↓reduceIte];rfl) (has:IG σ xs=some as:=by simp only[go_sem,Nat.reduceEqDiff,reduceCtorEq,Nat.reduceAdd,Nat.reduceSub,Nat.reduceMul,Nat.reduceLeDiff,Nat.reduceLT,Int.reduceLE,Int.reduceToNat,Int.reduceNeg,↓reduceIte];rfl)
  (i:CZ ren=true:=by rfl) (j:Ct objs ren=true:=by rfl) (t:(c.ds.pin.all λp=>!Ac p.1 hs)=true:=by rfl)
  (l:Bb σ ren (as++d.map λn=>AV.bp n [] 0) A:=by exact eN) (o:Ao σ.objs ren objs:=by exact eN) :
  Cu c R k ops (⟨dst,.call ⟨.value g,xs.toArray,ts⟩,ty,pos,after,none⟩ :: rest) σ:=rM q m ren hs l o s r has i j t
theorem rW {c:Cx} {R:Exit->Act->World->Prop} {k:List Cl} {σ:St} (y:c.Ok) {ops:Array Oper} {rest:List Oper} {dst:Option Nat} {g:Operand} {xs:List Operand} {ts:Array TypeId} {ty:TypeId} {pos:String} {after:Array Edge}
  {f:FuncId} {e:List Nat} {as:List AV} {A:List AV} {objs Y:List (Nat×Obj)} {X:AV} {stay:List Nat} (w:Aj c.P f A objs stay λr o=>r=X/\o=Y)
  (ren:List (Nat×CB)) (hs:List Nat) (a:List (Nat×CB)) (d:AV) (b:List (Nat×Obj)) (B:Cu c R k ops rest (Dv σ (Az ren) hs dst d b))
  (z:Ca (Ae σ g)=some (f,e):=by simp only[go_sem,Nat.reduceEqDiff,reduceCtorEq,Nat.reduceAdd,Nat.reduceSub,Nat.reduceMul,Nat.reduceLeDiff,Nat.reduceLT,Int.reduceLE,Int.reduceToNat,Int.reduceNeg,↓reduceIte];rfl) (has:IG σ xs=some as:=by simp only[go_sem,Nat.reduceEqDiff,reduceCtorEq,Nat.reduceAdd,Nat.reduceSub,Nat.reduceMul,Nat.reduceLeDiff,Nat.reduceLT,Int.reduceLE,Int.reduceToNat,Int.reduceNeg,↓reduceIte];rfl)
  (i:CZ ren=true:=by rfl) (j:Ct objs ren=true:=by rfl) (C:(c.ds.pin.all λp=>!Ac p.1 hs)=true:=by rfl)
  (v:Bb σ ren (as++e.map λn=>AV.bp n [] 0) A:=by exact eN) (x:Ao σ.objs ren objs:=by exact eN)
  (l:CZ a=true:=by rfl) (m:Ct b a=true:=by rfl) (q:Ao Y a b:=by exact eN) (s:CK a X d:=by exact eN)
  (t:KT ren a stay hs=true:=by rfl) (u:GR (Az ren) b σ.objs=true:=by rfl) :
  Cu c R k ops (⟨dst,.call ⟨.value g,xs.toArray,ts⟩,ty,pos,after,none⟩ :: rest) σ:=rM y w ren hs v x (λ_ _ h=>by
   obtain⟨rfl,rfl⟩:=h;exact⟨a,d,b,l,m,q,s,t,u,B⟩) z has i j C
end
section
open Go Go.RowKit
structure lU (X σ:St) (n:Nat):Prop where
 env:∀s v,lk s X.env=some v->v.trn n []=v
 arr:∀m o,lk m X.objs=some o->KW o=true
 new:∀m o,lk m X.objs=some o->lk m σ.objs=none
 nm:∀m o,lk m X.objs=some o->m≠n
section
variable {σ σ' X:St} {n:Nat}
theorem lU.obs (d:Nn σ σ' X) (c:lU X σ n):V9 σ σ':=by
 intro m o a;rw[d.objs];cases b:lk m X.objs with
 | none=>exact a
 | some e=>rw[c.new m e b]at a;cases a
end
end
section
open Go Go.RowKit
section
variable {P:Program} {tb:Tb} {w0:World} {K O0:Nat->Prop} {nt:Nat} {ds:Fp} {σ:St} {ρ:Nat->Value} {a:Act} {w:World}
theorem Bx.swapP (h:Bx w0 K O0 nt ds σ ρ a w) (I:∀b,K b->b<w0.heap.size) (ad:∀b,O0 b->b<w0.heap.size) {T:Nat->Prop} (hT:∀n,T n->∃o,lk n σ.objs=some o) (J:∀p∈ds.pin,¬T p.1)
  {new:List (Nat×Obj)} {σ':St} {ρ':Nat->Value} {w':World} {dst:Option Nat} {u:Value}
  (X:w'.os=w.os) (aa:w'.tape=w.tape) (Y:w'.output=w.output) (Z:w.heap.size<=w'.heap.size)
  (O:∀b,b<w.heap.size->(∀n,T n->¬bk (ρ n) b)->w'.heap[b]?=w.heap[b]?)
  (t:∀n o,lk n σ'.objs=some o->lk n new=none->¬T n/\∃f,lk n σ.objs=some f)
  (P:∀n o,lk n σ.objs=some o->¬T n->lk n new=none/\∃f,lk n σ'.objs=some f)
  (q:∀n,lk n new=none->ρ' n=ρ n)
  (E:∀n o b,lk n new=some o->bk (ρ' n) b->(∃m,T m/\bk (ρ m) b)\/w.heap.size<=b)
  (L:∀n m o x b,lk n new=some o->lk m new=some x->bk (ρ' n) b->bk (ρ' m) b->n=m)
  (W:∀n o,lk n σ'.objs=some o->Av (vw w' O0 σ' ρ') o (ρ' n))
  (M:∀s v,lk s σ'.env=some v->Bn (vw w' O0 σ' ρ') v ((a.put dst u).tmps.getD s undef)) :
  Bx w0 K O0 nt ds σ' ρ' (a.put dst u) w':=by
 have ae:∀m,T m->∀b,bk (ρ m) b->b<w.heap.size:=λm c b l=>by
  obtain⟨o,i⟩:=hT m c;exact(h.objs m o i).block_lt l
 have B:∀m,T m->∀b,bk (ρ m) b->¬K b/\¬O0 b:=λm c b l=>by
  obtain⟨o,i⟩:=hT m c;exact h.free m b ⟨o,i⟩ l
 refine⟨⟨X.trans h.frm.os,aa.trans h.frm.tape,Y.trans h.frm.output,f3 h.frm.size Z,λk z=>?_⟩,by rw[KE];exact h.nt,by rw[G5];exact h.defers,λp hp=>?_,W,?_,?_,M⟩
 .exact(O k (AAf (I k z) h.frm.size) λn d l=>(B n d k l).1 z).trans (h.frm.block k z)
 .obtain⟨⟨o,e⟩,j,H⟩:=h.pin p hp;have R:¬T p.1:=J p hp;obtain⟨g1,G⟩:=P p.1 o e R;exact⟨G,(q _ g1).trans j,H⟩
 .intro n b A l;obtain⟨o,i⟩:=A;cases d:lk n new with
  | none =>
   obtain⟨_,f,e⟩:=t n o i d;rw[q n d]at l;exact h.free n b ⟨f,e⟩ l
  | some g =>
   rcases E n g b d l with ⟨m,c,y⟩|N
   .exact B m c b y
   have:=h.frm.size;grind
 have key:∀n m o g b,lk n σ'.objs=some o->lk n new=none->lk m new=some g->bk (ρ' n) b->bk (ρ' m) b->False:=by
  intro n m o g b i d c e j;obtain⟨S,f,r⟩:=t n o i d;rw[q n d]at e;rcases E m g b c j with ⟨F,C,y⟩|N
  .obtain⟨ab,V⟩:=hT F C;have:=h.dist n F b ⟨f,r⟩ ⟨ab,V⟩ e y;exact S (this▸C)
  have af:b<w.heap.size:=(h.objs n f r).block_lt e;omega
 intro n m b A Q e j;obtain⟨o,i⟩:=A;obtain⟨x,D⟩:=Q;cases d:lk n new with
 | none =>
  cases c:lk m new with
  | none =>
   obtain⟨_,f,r⟩:=t n o i d;obtain⟨_,g,U⟩:=t m x D c;rw[q n d]at e;rw[q m c]at j;exact h.dist n m b ⟨f,r⟩ ⟨g,U⟩ e j
  | some g=>exact(key n m o g b i d c e j).elim
 | some f =>
  cases c:lk m new with
  | none=>exact(key m n x f b D c d j e).elim
  | some g=>exact L n m f g b d c e j
theorem Bx.swap1P (h:Bx w0 K O0 nt ds σ ρ a w) (Y:∀b,K b->b<w0.heap.size) (E:∀b,O0 b->b<w0.heap.size) {tl:List Nat} (hT:∀n,n∈tl->∃o,lk n σ.objs=some o) (Z:∀p∈ds.pin,¬p.1∈tl)
  {e:Nat} (av:e∈tl\/lk e σ.objs=none) {q:Obj} {loc:Value} {w':World}
  (ai:w'.os=w.os) (am:w'.tape=w.tape) (aj:w'.output=w.output) (ak:w.heap.size<=w'.heap.size)
  (H:∀b,b<w.heap.size->(∀n,n∈tl->¬bk (ρ n) b)->w'.heap[b]?=w.heap[b]?)
  (af:∀b,bk loc b->(∃m,m∈tl/\bk (ρ m) b)\/w.heap.size<=b)
  (ah:∀V':Vw,V'.w=w'->CG ⟨w,own O0 σ ρ,λ_=>False,ρ⟩ V'->(∀b m,m∈tl->bk (ρ m) b->¬bk loc b->¬V'.O b)->Av V' q loc)
  {d:Nat} (ad:d<nt) {v:AV} {u:Value} (ab:∀V':Vw,V'.L e->V'.ρ e=loc->Bn V' v u) :
  Bx w0 K O0 nt ds ⟨(d,v) :: CT tl σ.env,(e,q) :: BC tl tl σ.objs⟩ (DQ ρ e loc) (a.put (some d) u) w':=by
 let S:St:=⟨(d,v) :: CT tl σ.env,(e,q) :: BC tl tl σ.objs⟩
 have F:∀m o,lk m S.objs=some o->(m=e/\o=q)\/(m≠e/\m∉tl/\∃c,lk m σ.objs=some c/\o=c.fgt tl):=by
  intro m o f;simp only[S,lk]at f;split at f
  .grind
  rename_i aq;rw[CM]at f;split at f
  .cases f
  rename_i ar;simp only[GO]at f;grind [Ah]
 have aa:∀m,m≠e->m∉tl->∀c,lk m σ.objs=some c->lk m S.objs=some (c.fgt tl):=by grind [lk,CM,Ah]
 have Q:∀m,m∉tl->(∃o,lk m σ.objs=some o)->m≠e:=by grind
 have C:DQ ρ e loc e=loc:=BV _ _ _;have z:∀m,m≠e->DQ ρ e loc m=ρ m:=λm g=>by simp[DQ,g]
 generalize DQ ρ e loc=ρ' at C z;have R:∀b,b<w.heap.size->¬own O0 σ ρ b->¬own O0 S ρ' b:=by
  intro b l r ao;rcases ao with D|⟨m,⟨o,ag⟩,A⟩
  .exact r (.inl D)
  rcases F m o ag with ⟨rfl,_⟩|⟨g,j,c,i,_⟩
  .rw[C]at A;rcases af b A with ⟨t,al,J⟩|J
   .obtain⟨c,k⟩:=hT t al;exact r (.inr ⟨t,⟨c,k⟩,J⟩)
   omega
  rw[z m g]at A;exact r (.inr ⟨m,⟨c,i⟩,A⟩)
 have N:∀b,b<w.heap.size->¬own O0 σ ρ b->w'.heap[b]?=w.heap[b]?:=λb l r=>H b l λn B G=>by
  obtain⟨c,k⟩:=hT n B;exact r (.inr ⟨n,⟨c,k⟩,G⟩)
 have ae:CG ⟨w,own O0 σ ρ,λ_=>False,ρ⟩ (vw w' O0 S ρ'):=⟨R,λ_ h=>h.elim,λ_ h=>h.elim,N⟩;have P:CG ((vw w O0 σ ρ).buts tl) (vw w' O0 S ρ'):=by
  refine⟨R,λm f=>?_,λm f=>?_,N⟩
  .obtain⟨⟨c,g⟩,j⟩:=f;have i:m∉tl:=λh=>by rw[(Ah _ _).2 h]at j;cases j
   exact⟨_,aa m (Q m i ⟨c,g⟩) i c g⟩
  obtain⟨⟨c,g⟩,j⟩:=f;have i:m∉tl:=λh=>by rw[(Ah _ _).2 h]at j;cases j
  exact z m (Q m i ⟨c,g⟩)
 refine h.swapP Y E (T:=λm=>m∈tl) hT Z (new:=[(e,q)]) ai am aj ak H ?_ ?_ ?_ ?_ ?_ ?_ ?_
 .grind [lk]
 .grind [lk]
 .grind [lk]
 .grind [lk]
 .grind [lk]
 .intro m o f;rcases F m o f with ⟨rfl,rfl⟩|⟨g,j,c,i,rfl⟩
  .rw[C];refine ah _ rfl ae λb m f l au E=>?_;obtain⟨U,k⟩:=hT m f;rcases E with D|⟨I,⟨ap,X⟩,M⟩
   .exact(h.free m b ⟨U,k⟩ l).2 D
   rcases F I ap X with ⟨rfl,_⟩|⟨g1,V,c,W,_⟩
   .grind
   rw[z I g1]at M;exact V ((h.dist I m b ⟨_,W⟩ ⟨_,k⟩ M l)▸f)
  rw[z m g];refine Us P (λb l=>H b ((h.objs m c i).block_lt l) λn B G=>?_) (h.objs m c i);obtain⟨U,k⟩:=hT n B;exact j ((h.dist m n b ⟨_,i⟩ ⟨_,k⟩ l G)▸B)
 intro s x hs;rw[Gb a d u s (by rw[h.nt];exact ad)];simp only[S,lk]at hs;split at hs
 .rename_i es;cases hs;rw[At es];exact ab _ ⟨q,by simp[S,lk]⟩ C
 rename_i es;rw[As es];rw[EJ]at hs;simp only[GO]at hs;obtain⟨y,an,rfl⟩:=hs;exact(Pr (h.env s y an)).keeps P
end
theorem Wz {P:Program} (w:World) (ty:TypeId) (r b a c0:Nat) (seen:Array Nat) (es:Array MapEntry) (clock:Nat) (l:w.heap[r]?=some (.mapIter (some b) a seen c0)) (o:w.heap[b]?=some (.map es clock)) (k:∀x∈es.toList,x.born<a) (t:a<=c0) :
  ((leftOf es seen).size=0/\(Instr.next (.pointer (some ⟨r,0,none⟩)) false ty).run P w=.ok (.tuple #[.bool false]) w) \/
  ∃e∈(leftOf es seen).toList,∃w1:World,(w1=w\/w1=w.drew)/\(Instr.next (.pointer (some ⟨r,0,none⟩)) false ty).run P w=.ok (.tuple #[.bool true,e.key,e.val]) { w1 with heap:=w1.heap.setIfInBounds r (.mapIter (some b) a (seen.push e.born) clock) }:=by
 simp only[Instr.next,getObj,AAF,Sem.run,l,o,Result.andThen,next_test_false seen es a c0 k t,AAG,AAX];unfold leftOf;have i:∀x∈(Array.filter (λe=>!seen.contains e.born) es).toList,x.born<a:=λx c=>k x (by simp at c ⊢;exact c.1);generalize Array.filter (λe=>!seen.contains e.born) es=L at i ⊢;have m:L.filter (λx=>decide (x.born<a))=L:=Array.filter_eq_self.2 (λx c=>by simpa using i x (by simpa using c));have n:L.filter (λx=>decide (x.born>=a))=#[]:=by simp_all
 simp only[m,n,Array.append_empty];by_cases f:L.size=0
 .left;have:L=#[]:=Array.eq_empty_of_size_eq_zero f;subst this;refine⟨rfl,?_⟩;simp[choose,Sem.run,Question.forced]
 right;have q:L.isEmpty=false:=by simp[Array.isEmpty,f]
 simp only[q,AAG,AAX,Array.empty_append,Array.size_map];have p:∃(j:Nat) (w1:World),j<L.size/\(w1=w\/w1=w.drew)/\(choose (Question.mapNext L.size)).run P w=.ok j w1:=by
  by_cases h:L.size<=1
  .exact⟨0,w,by omega,.inl rfl,by simp[choose,Sem.run,Question.forced,h]⟩
  exact⟨_,w.drew,ACz _ oa,.inr rfl,by
   simp only[choose,Sem.run,Question.forced,Do,h,AAX,Question.cut];rfl⟩
 obtain⟨j,w1,u,g,v⟩:=p;refine⟨L[j],by simp,w1,g,?_⟩;have y:∀(d:_root_.Go.Obj),(setObj r d).run P w1=.ok () { w1 with heap:=w1.heap.setIfInBounds r d }:=λd=>by
  have s:w1.heap[r]?=some (.mapIter (some b) a seen c0):=by rcases g with rfl|rfl<;>exact l
  simp only[setObj,Sem.run,s]
 simp_all
theorem U8 {P:Program} (w:World) (r a h:Nat) (seen:Array Nat) (es:Array MapEntry) (clock:Nat) (e:MapEntry) (g:w.heap[r]?=some (.mapIter (some a) h seen clock)) (hs:seen.back?=some e.born) (b:w.heap[a]?=some (.map es clock)) (c:e∈es.toList) (f:(es.toList.map (·.born)).Nodup) :
  (Instr.entry (.pointer (some ⟨r,0,none⟩))).run P w=.ok (.tuple #[e.key,e.val]) w:=by
 have d:es.find? (·.born==e.born)=some e:=by rw[<-Array.find?_toList];exact find_born e es.toList f c
 simp only[Instr.entry,getObj,AAF,Sem.run,g,b,Result.andThen,hs,bne_self_eq_false,AAG,AAX,d];rfl
theorem KZ {w:World} {O:Nat->Prop} {k v:Ty}:∀ {es:List MapEntry} {l:List (k.den×v.den)},Jy w O k v es l->es.length=l.length/\∀(i:Nat) (e:MapEntry),es[i]?=some e->∃x,l[i]?=some x/\BG w O k e.key x.1/\BG w O v e.val x.2
 | [],[],_=>⟨rfl,λi e h=>by simp at h⟩
 | [],_ :: _,h=>h.elim
 | _ :: _,[],h=>h.elim
 | e :: es,x :: l,⟨c,d,a⟩=>by
  obtain⟨g1,b⟩:=KZ a;grind
section
variable {c:Cx} {R:Exit->Act->World->Prop} {k:List Cl} {σ:St}
theorem fQ (z:c.Ok) {ops:Array Oper} {rest:List Oper} {d n:Nat} {T:TypeId} {x:Operand} {ty:TypeId} {pos:String} {after:Array Edge}
  (X:Ae σ x=some (.mp n)) {r vt:Ty} {l:List (r.den×vt.den)} (q:lk n σ.objs=some (.mapo r vt l)) {C v:TypeId} (hT:c.P.underlying T=some (.map C v)) (ad:(c.ds.pin.all λp=>!Ac p.1 [n])=true) (L:lk d σ.objs=none)
  (M:Cu c R k ops rest ⟨(d,.bp d [] 0) :: CT [n] σ.env,(d,.itr r vt l (List.range l.length) none) :: BC [n] [n] σ.objs⟩) :
  Cu c R k ops (⟨some d,.range T x,ty,pos,after,none⟩ :: rest) σ:=by
 intro A N a w W;unfold wpListIn;rw[At (by simp[Region.wanted])];obtain⟨ρ,g⟩:=W;have J:EI (vw w c.O0 σ ρ) σ a.eval:=Ck g.env;obtain⟨Z,b,h,Y⟩:=J x _ X;have h:ρ n=_:=Md (g.objs n _ q) h;obtain⟨b',t,cl,e,f,B,y⟩:=g.objs n _ q;rw[h]at e;injection e with e
 injection e with e
 subst e;have f:w.heap[b]?=some (.map t cl):=f;have H:=Au f;have V:=run_range_map (P:=c.P) w T C v b t cl hT f;have I:d<c.nt:=BB (A _ AAc) d rfl;have aa:d ∉ [n]:=by grind
 refine Aa (u:=.pointer (some ⟨w.heap.size,0,none⟩)) (w':=w.alloc (.mapIter (some b) cl #[] cl)) (by simp[execOp,Y,V]) (M (λo S=>A o (by simp[S])) N _ _ ⟨DQ ρ d (.pointer (some ⟨w.heap.size,0,none⟩)),?_⟩);refine g.swap1P z.K z.O (tl:=[n]) (w':=w.alloc (.mapIter (some b) cl #[] cl)) (u:=.pointer (some ⟨w.heap.size,0,none⟩)) (loc:=.pointer (some ⟨w.heap.size,0,none⟩)) (by simpa using ⟨_,q⟩) (λp hp ab=>?_) (.inr L) rfl rfl rfl ?_ ?_ ?_ ?_ I ?_
 .grind [Ah]
 .simp_all
 .intro D m _;exact heap_alloc_old w _ m
 .grind [bk,blk]
 .intro V' j G U;have Q:¬V'.O b:=U b n sa (by rw[h];simp[bk,blk]) (by simp[bk,blk];omega)
  refine⟨w.heap.size,rfl,b,t,cl,cl,#[],?_,Q,?_,?_,y,?_,If _,ACb,λi=>?_,λi hi=>by cases hi⟩
  .rw[j];exact AC0 w _
  .rw[j,heap_alloc_old w _ H];exact f
  .rw[j];exact B.mono G.O (λD m _=>heap_alloc_old w _ m)
  .intro s hs;exact y.2 s hs
  have:=(KZ B).1;simp only[gO];constructor
  .simp_all
  grind
 intro V' E F;exact⟨E,w.heap.size,F,rfl⟩
theorem lV (F:c.Ok) {ops:Array Oper} {rest:List Oper} {d n:Nat} {x:Operand} {ty:TypeId} {pos:String} {after:Array Edge}
  (U:Ae σ x=some (.bp n [] 0)) {z vt:Ty} {l:List (z.den×vt.den)} {left:List Nat} {an:Option Nat} (Q:lk n σ.objs=some (.itr z vt l left an))
  (aq:left=[]->Cu c R k ops rest ⟨(d,.tup [.p .bool false]) :: σ.env,σ.objs⟩)
  (ar:∀i∈left,∀e,l[i]?=some e->Cu c R k ops rest ⟨(d,.tup [.p .bool true,.p z e.1,.p vt e.2]) :: σ.env,upd n (.itr z vt l (left.erase i) (some i)) σ.objs⟩) :
  Cu c R k ops (⟨some d,.next x false,ty,pos,after,none⟩ :: rest) σ:=by
 intro L aj a w bh;unfold wpListIn;rw[At (by simp[Region.wanted])];obtain⟨ρ,H⟩:=bh;have au:EI (vw w c.O0 σ ρ) σ a.eval:=Ck H.env;obtain⟨bn,s,D,al⟩:=au x _ U;have D:ρ n=_:=D;obtain⟨r,y,b,A,cl,J,C,g1,X,B,Y,Z,aa,ab,ad,ap,bm⟩:=H.objs n _ Q;rw[D]at y;injection y with y
 injection y with y
 injection y with y
 subst y;have g1:w.heap[s]?=some (.mapIter (some b) J C cl):=g1;have B:w.heap[b]?=some (.map A cl):=B;have bq:d<c.nt:=BB (L _ AAc) d rfl;have M:∀i,i∈left↔∃e,A[i]?=some e/\e.born∉C:=ap;rcases Wz (P:=c.P) w ty s b J cl C A cl g1 B (λx U=>aa _ (To.2 ⟨x,U,rfl⟩)) ab with ⟨br,T⟩|⟨e,ag,w1,I,T⟩
 .have bb:left=[]:=by
   cases ay:left with
   | nil=>rfl
   | cons i r =>
    obtain⟨e,f,t⟩:=(M i).1 (by rw[ay];simp);have:e∈leftOf A C:=by
     unfold leftOf;grind
    have:=Array.size_pos_of_mem this;omega
  refine Aa (u:=.tuple #[.bool false]) (w':=w) (by simp[execOp,al,T]) (aq bb (λo S=>L o (by simp[S])) aj _ _ ⟨ρ,?_⟩);refine H.add F.K F.O (dst:=some d) (λao e=>by injection e with e;omega) (v:=.tup [.p .bool false]) (obs:=[]) (ρ':=ρ) rfl (QS.still ?_);exact⟨[.bool false],rfl,.bool false,[],rfl,⟨[_],rfl,rfl⟩,rfl⟩
 have ah:e∈A/\e.born∉C:=by
  unfold leftOf at ag;simpa using ag
 obtain⟨i,hi⟩:=Array.getElem?_of_mem ah.1;obtain⟨V,bl,ax,bi⟩:=(KZ Y).2 i e (by simpa using hi);have av:i∈left:=(M i).2 ⟨e,hi,ah.2⟩;have bj:w1.heap=w.heap:=by rcases I with rfl|rfl<;>rfl
 let w2:World:={ w1 with heap:=w1.heap.setIfInBounds s (.mapIter (some b) J (C.push e.born) cl) }
 have bo:b≠s:=λq=>by subst q;rw[g1]at B;cases B
 have ai:w.grownBy w2 (some s):=by
  refine⟨?_,?_,?_,?_,λb' af ak=>?_⟩
  .rcases I with rfl|rfl<;>rfl
  .rcases I with rfl|rfl<;>rfl
  .rcases I with rfl|rfl<;>rfl
  .grind
  grind
 have az:=Au g1;have be:own c.O0 σ ρ s:=.inr ⟨n,⟨_,Q⟩,by rw[D];simp[bk,blk]⟩;have G:∀b':Nat,b'<w.heap.size->¬own c.O0 σ ρ b'->w2.heap[b']?=w.heap[b']?:=λb' af bc=>ai.block b' af (λq=>by injection q with q;subst q;exact bc be);have bd:Av (vw w2 c.O0 σ ρ) (.itr z vt l (left.erase i) (some i)) (ρ n):=by
  refine⟨s,D,b,A,cl,J,C.push e.born,?_,X,?_,?_,Z,aa,ab,ad.erase i,λj=>?_,λj N=>?_⟩
  .show (w1.heap.setIfInBounds s _)[s]?=_;rw[bj,ABh];simp[az]
  .exact(G b (Au B) X).trans B
  .exact Y.mono (λ_ _ h=>h) G
  .rw[ad.mem_erase_iff,M];constructor
   .rintro⟨ak,q,f,t⟩;refine⟨q,f,?_⟩;rw[Array.mem_push];rintro (E|E)
    .exact t E
    have ba:=Z.1;have W:(A.toList.map (·.born))[j]?=some q.born:=by simp[f]
    have am:(A.toList.map (·.born))[i]?=some q.born:=by simp[hi,E]
    exact ak ((List.getElem?_inj (by
     have:=(ON.1 W).1;exact this) ba).1 (W.trans am.symm))
   rintro⟨q,f,t⟩;rw[Array.mem_push]at t;refine⟨λaw=>?_,q,f,λE=>t (.inl E)⟩;subst aw;rw[hi]at f;injection f with f
   exact t (.inr (by rw[f]))
  injection N with N
  subst N;exact⟨e,hi,by simp⟩
 have bg:=H.upd F.K Q (g:=s) (by rw[D];rfl) ai bd;refine Aa (u:=.tuple #[.bool true,e.key,e.val]) (w':=w2) (by simp[execOp,al,T,w2]) (ar i av V bl (λo S=>L o (by simp[S])) aj _ _ ⟨ρ,?_⟩);refine bg.add F.K F.O (dst:=some d) (λao e=>by injection e with e;omega) (v:=.tup [.p .bool true,.p z V.1,.p vt V.2]) (obs:=[]) (ρ':=ρ) rfl (QS.still ?_);have bf:∀b',own c.O0 ⟨σ.env,upd n (.itr z vt l (left.erase i) (some i)) σ.objs⟩ ρ b'->own c.O0 σ ρ b':=by
  rintro b' (f|⟨m,f,t⟩)
  .exact .inl f
  exact .inr ⟨m,(aN m).1 f,t⟩
 have ae:∀b',b'<w.heap.size->¬own c.O0 σ ρ b'->¬own c.O0 ⟨σ.env,upd n (.itr z vt l (left.erase i) (some i)) σ.objs⟩ ρ b':=λb' _ f t=>f (bf b' t);exact⟨[.bool true,e.key,e.val],rfl,.bool true,_,rfl,⟨[_],rfl,rfl⟩,e.key,_,rfl,ax.mono ae G,e.val,_,rfl,bi.mono ae G,rfl⟩
theorem fR (y:c.Ok) {ops:Array Oper} {rest:List Oper} {d n:Nat} {x:Operand} {ty:TypeId} {pos:String} {after:Array Edge}
  (V:Ae σ x=some (.bp n [] 0)) {h vt:Ty} {l:List (h.den×vt.den)} {left:List Nat} {i:Nat} (N:lk n σ.objs=some (.itr h vt l left (some i))) {e:h.den×vt.den} (hi:l[i]?=some e)
  (H:Cu c R k ops rest ⟨(d,.tup [.p h e.1,.p vt e.2]) :: σ.env,σ.objs⟩) :
  Cu c R k ops (⟨some d,.entry x,ty,pos,after,none⟩ :: rest) σ:=by
 intro z M a w T;unfold wpListIn;rw[At (by simp[Region.wanted])];obtain⟨ρ,q⟩:=T;have J:EI (vw w c.O0 σ ρ) σ a.eval:=Ck q.env;obtain⟨ae,t,s,W⟩:=J x _ V;have s:ρ n=_:=s;obtain⟨r,g,b,B,cl,D,C,g1,Y,m,F,G,Z,aa,ab,ad,E⟩:=q.objs n _ N;rw[s]at g;injection g with g
 injection g with g
 injection g with g
 subst g;have g1:w.heap[t]?=some (.mapIter (some b) D C cl):=g1;have m:w.heap[b]?=some (.map B cl):=m;have af:d<c.nt:=BB (z _ AAc) d rfl;obtain⟨f,A,I⟩:=E i rfl;obtain⟨ag,j,L,U⟩:=(KZ F).2 i f (by simpa using A);rw[hi]at j;injection j with j
 subst j;have S:=U8 (P:=c.P) w t b D C B cl f g1 I m (by simpa using Array.mem_of_getElem? A) G.1;refine Aa (u:=.tuple #[f.key,f.val]) (w':=w) (by simp[execOp,W,S]) (H (λo Q=>z o (by simp[Q])) M _ _ ⟨ρ,?_⟩);refine q.add y.K y.O (dst:=some d) (λX e=>by injection e with e;omega) (v:=.tup [.p h e.1,.p vt e.2]) (obs:=[]) (ρ':=ρ) rfl (QS.still ?_);exact⟨[f.key,f.val],rfl,f.key,_,rfl,L,f.val,_,rfl,U,rfl⟩
end
end
section
open Go Go.RowKit
section
variable {c:Cx} {R:Exit->Act->World->Prop} {k:List Cl} {σ σ':St}
theorem A1g (e:c.Ok) {ops:Array Oper} {rest:List Oper} {d n:Nat} {T:TypeId} {x:Operand} {ty:TypeId} {pos:String} {after:Array Edge} {a vt:Ty} {l:List (a.den×vt.den)} {o b:TypeId} {σ1:St} (hT:c.P.underlying T=some (.map o b)) (g:Cu c R k ops rest σ1)
  (j:Ae σ x=some (.mp n):=by simp only[go_sem,Nat.reduceEqDiff,reduceCtorEq,Nat.reduceAdd,Nat.reduceSub,Nat.reduceMul,Nat.reduceLeDiff,Nat.reduceLT,Int.reduceLE,Int.reduceToNat,Int.reduceNeg,↓reduceIte];rfl) (h:lk n σ.objs=some (.mapo a vt l):=by simp only[go_sem,Nat.reduceEqDiff,reduceCtorEq,Nat.reduceAdd,Nat.reduceSub,Nat.reduceMul,Nat.reduceLeDiff,Nat.reduceLT,Int.reduceLE,Int.reduceToNat,Int.reduceNeg,↓reduceIte];rfl) (i:(c.ds.pin.all λp=>!Ac p.1 [n])=true:=by rfl) (f:lk d σ.objs=none:=by simp only[go_sem,Nat.reduceEqDiff,reduceCtorEq,Nat.reduceAdd,Nat.reduceSub,Nat.reduceMul,Nat.reduceLeDiff,Nat.reduceLT,Int.reduceLE,Int.reduceToNat,Int.reduceNeg,↓reduceIte])
  (m:⟨(d,.bp d [] 0) :: CT [n] σ.env,(d,.itr a vt l (List.range l.length) none) :: BC [n] [n] σ.objs⟩=σ1:=by simp only[go_sem,Nat.reduceEqDiff,reduceCtorEq,Nat.reduceAdd,Nat.reduceSub,Nat.reduceMul,Nat.reduceLeDiff,Nat.reduceLT,Int.reduceLE,Int.reduceToNat,Int.reduceNeg,↓reduceIte];rfl) :
  Cu c R k ops (⟨some d,.range T x,ty,pos,after,none⟩ :: rest) σ:=fQ e j h hT i f (m▸g)
theorem A1h (h:c.Ok) {ops:Array Oper} {rest:List Oper} {d n:Nat} {x:Operand} {ty:TypeId} {pos:String} {after:Array Edge} {a vt:Ty} {l:List (a.den×vt.den)} {left:List Nat} {b:Option Nat}
  (f:left=[]->Cu c R k ops rest ⟨(d,.tup [.p .bool false]) :: σ.env,σ.objs⟩)
  (g:∀i∈left,∀e,l[i]?=some e->Cu c R k ops rest ⟨(d,.tup [.p .bool true,.p a e.1,.p vt e.2]) :: σ.env,upd n (.itr a vt l (left.erase i) (some i)) σ.objs⟩)
  (m:Ae σ x=some (.bp n [] 0):=by simp only[go_sem,Nat.reduceEqDiff,reduceCtorEq,Nat.reduceAdd,Nat.reduceSub,Nat.reduceMul,Nat.reduceLeDiff,Nat.reduceLT,Int.reduceLE,Int.reduceToNat,Int.reduceNeg,↓reduceIte];rfl) (j:lk n σ.objs=some (.itr a vt l left b):=by simp only[go_sem,Nat.reduceEqDiff,reduceCtorEq,Nat.reduceAdd,Nat.reduceSub,Nat.reduceMul,Nat.reduceLeDiff,Nat.reduceLT,Int.reduceLE,Int.reduceToNat,Int.reduceNeg,↓reduceIte];rfl) :
  Cu c R k ops (⟨some d,.next x false,ty,pos,after,none⟩ :: rest) σ:=lV h m j f g
theorem A1i (f:c.Ok) {ops:Array Oper} {rest:List Oper} {d n:Nat} {x:Operand} {ty:TypeId} {pos:String} {after:Array Edge} {a vt:Ty} {l:List (a.den×vt.den)} {left:List Nat} {i:Nat} {e:a.den×vt.den} (hi:l[i]?=some e)
  (b:Cu c R k ops rest ⟨(d,.tup [.p a e.1,.p vt e.2]) :: σ.env,σ.objs⟩)
  (h:Ae σ x=some (.bp n [] 0):=by simp only[go_sem,Nat.reduceEqDiff,reduceCtorEq,Nat.reduceAdd,Nat.reduceSub,Nat.reduceMul,Nat.reduceLeDiff,Nat.reduceLT,Int.reduceLE,Int.reduceToNat,Int.reduceNeg,↓reduceIte];rfl) (g:lk n σ.objs=some (.itr a vt l left (some i)):=by simp only[go_sem,Nat.reduceEqDiff,reduceCtorEq,Nat.reduceAdd,Nat.reduceSub,Nat.reduceMul,Nat.reduceLeDiff,Nat.reduceLT,Int.reduceLE,Int.reduceToNat,Int.reduceNeg,↓reduceIte];rfl) :
  Cu c R k ops (⟨some d,.entry x,ty,pos,after,none⟩ :: rest) σ:=fR f h g hi b
end
theorem CC {p:Prop} (h:p:=by first|exact trivial|((try dsimp only[Ty.den])<;>(repeat'(first|apply And.intro|intro _))<;>omega)|((try dsimp only[Ty.den]at *)<;>(repeat'(first|apply And.intro|intro _))<;>omega)):p:=h
end
section
open Go Go.RowKit
section
variable {c:Cx} {R:Exit->Act->World->Prop} {k:List Cl} {σ σ':St}
theorem ZC (j:c.Ok) {ops:Array Oper} {rest:List Oper} {d n:Nat} {t:TypeId} {m:Operand} {ty:TypeId} {pos:String} {after:Array Edge} {s vt:Ty} {l:List (s.den×vt.den)} {L x:TypeId}
  (D:Ae σ m=some (.mp n)) (r:lk n σ.objs=some (.mapo s vt l)) (J:c.P.underlying t=some (.map L x)) (C:l.length<=AN)
  (A:Cu c R k ops rest ⟨(d,.p (.int .i64) (l.length:Int)) :: σ.env,σ.objs⟩) :
  Cu c R k ops (⟨some d,.call ⟨.builtin .len,#[m],#[t]⟩,ty,pos,after,none⟩ :: rest) σ:=by
 intro q B a w H;unfold wpListIn;rw[At (by simp[Region.wanted])];obtain⟨ρ,g⟩:=H;have z:EI (vw w c.O0 σ ρ) σ a.eval:=Ck g.env;have S:d<c.nt:=BB (q _ AAc) d rfl;obtain⟨N,b,i,E⟩:=z m _ D;have i:ρ n=_:=Md (g.objs n _ r) i;obtain⟨b',es,cl,f,h,y,Q⟩:=g.objs n _ r;rw[i]at f;injection f with f
 injection f with f
 subst f;have h:w.heap[b]?=some (.map es cl):=h;have I:es.size=l.length:=by rw[<-AAL];exact(KZ y).1
 have G:(Builtin.len_ #[t] ty #[.map (some b)]).run c.P w=.ok (.int .i64 (l.length:Int)) w:=by
  simp[Builtin.len_,On J,AAi h,goInt,I]
 refine Aa (u:=.int .i64 (l.length:Int)) (w':=w) (by simp[execOp,resolve,invoke,builtin,E,G]) (A (λo F=>q o (by simp[F])) B _ _ ⟨ρ,?_⟩);refine g.add j.K j.O (dst:=some d) (λM e=>by injection e with e;omega) (v:=.p (.int .i64) (l.length:Int)) (obs:=[]) (ρ':=ρ) rfl (QS.still ?_);exact BD (by simp only[AN]at C;simp only[Fz];omega)
theorem A1j (e:c.Ok) {ops:Array Oper} {rest:List Oper} {d n:Nat} {t:TypeId} {m:Operand} {ty:TypeId} {pos:String} {after:Array Edge} {a vt:Ty} {l:List (a.den×vt.den)} {o b:TypeId}
  (j:c.P.underlying t=some (.map o b)) (g:l.length<=AN) (f:Cu c R k ops rest ⟨(d,.p (.int .i64) (l.length:Int)) :: σ.env,σ.objs⟩) (h:Ae σ m=some (.mp n):=by simp only[go_sem,Nat.reduceEqDiff,reduceCtorEq,Nat.reduceAdd,Nat.reduceSub,Nat.reduceMul,Nat.reduceLeDiff,Nat.reduceLT,Int.reduceLE,Int.reduceToNat,Int.reduceNeg,↓reduceIte];rfl) (i:lk n σ.objs=some (.mapo a vt l):=by simp only[go_sem,Nat.reduceEqDiff,reduceCtorEq,Nat.reduceAdd,Nat.reduceSub,Nat.reduceMul,Nat.reduceLeDiff,Nat.reduceLT,Int.reduceLE,Int.reduceToNat,Int.reduceNeg,↓reduceIte];rfl) :
  Cu c R k ops (⟨some d,.call ⟨.builtin .len,#[m],#[t]⟩,ty,pos,after,none⟩ :: rest) σ:=ZC e h i j g f
end
end
section
open Go Go.RowKit
theorem bL {O:Nat->Prop} {σ:St} {ρ ρ':Nat->Value} {b:Nat} (h:¬own O σ ρ b):¬own O ⟨[],[]⟩ ρ' b:=by
 rintro (q|⟨n,⟨o,a⟩,-⟩)
 .exact h (.inl q)
 cases a
theorem lW {w:World} {O:Nat->Prop} {ρ:Nat->Value} {t:Ty} {v:Value} {d:t.den} (h:BG w O t v d):Bn (vw w O ⟨[],[]⟩ ρ) (.p t d) v:=by
 refine BG.mono (λb _ q=>?_) (λ_ _ _=>rfl) h;rintro (c|⟨n,⟨o,a⟩,-⟩)
 .exact q c
 cases a
theorem W0 {w:World} {O:Nat->Prop} {σ:St} {ρ ρ':Nat->Value}:∀ {outs:List RV} {nm:Nat} {a:List Value},(∀r∈outs,∃t d,r=.p t d)->G4 (vw w O σ ρ) (Gx nm outs) a->G4 (vw w O ⟨[],[]⟩ ρ') (Gx nm outs) a
 | [],_,_,_,h=>h
 | r :: l,nm,a,hp,h=>by
  obtain⟨t,d,rfl⟩:=hp r sa;obtain⟨v,l',rfl,c,e⟩:=h;exact⟨v,l',rfl,BG.mono (λb _ q=>bL q) (λ_ _ _=>rfl) (show BG _ _ t v d from c),W0 (λr f=>hp r (AAp _ f)) e⟩
theorem Ka:∀ {outs:List RV} {nm:Nat},(∀r∈outs,∃t d,r=.p t d)->Cv nm outs=[]
 | [],_,_=>rfl
 | r :: l,nm,hp=>by
  obtain⟨t,d,rfl⟩:=hp r sa;exact Ka (outs:=l) (λr a=>hp r (AAp _ a))
theorem Q4:∀ {outs:List RV} {nm nm':Nat},(∀r∈outs,∃t d,r=.p t d)->Gx nm outs=Gx nm' outs
 | [],_,_,_=>rfl
 | r :: l,nm,nm',hp=>by
  obtain⟨t,d,rfl⟩:=hp r sa;show AV.p t d :: _=AV.p t d :: _;rw[Q4 (outs:=l) λr a=>hp r (AAp _ a)]
theorem ZD {w:World} {O:Nat->Prop} {σ:St} {ρ ρ':Nat->Value} {nm:Nat} {u:Value}:∀ {outs:List RV},(∀r∈outs,∃t d,r=.p t d)->Bn (vw w O σ ρ) (F3 0 outs) u->Bn (vw w O ⟨[],[]⟩ ρ') (F3 nm outs) u
 | [],_,h=>h
 | [r],hp,h=>by
  obtain⟨t,d,rfl⟩:=hp r sa;exact BG.mono (λb _ q=>bL q) (λ_ _ _=>rfl) (show BG _ _ t u d from h)
 | r :: q :: l,hp,h=>by
  obtain⟨c,rfl,a⟩:=h;refine⟨c,rfl,?_⟩;have a:G4 (vw w O σ ρ) (Gx 0 (r :: q :: l)) c:=a;rw[Q4 (nm':=nm) hp]at a;exact W0 hp a
theorem Sd {P : Program} {f : FuncId} {c : Spec} (x : ∃ fn : Func, P.funcs[f]? = some fn /\ (fn.name == "runtime.NumGoroutine") = false /\ fn.body.isNone = false)
  (h:∀ds,c.pre ds->∃args,(∀w O g,Lr w O c.ins g ds->KR (vw w O ⟨[],[]⟩ λ_=>undef) args g)/\Aj P f args [] [] (λres _=>res=F3 0 (c.out ds)))
  (hp:∀ds,∀r∈c.out ds,∃t d,r=.p t d):Ap P f c:=by
 refine⟨x,λw O g ds j hG B y=>?_⟩;obtain⟨args,k,-,s⟩:=h ds y;have i:=s w (λb=>b<w.heap.size) O (λ_=>undef) g (λb q=>q) j hG ⟨λn o q=>(by cases q),λn b q=>(by obtain⟨o,q⟩:=q;cases q),λn m b q=>(by obtain⟨o,q⟩:=q;cases q)⟩ (k w O g B);refine i.mono λe w' z=>?_;obtain⟨u,v,res,F,ρ',A,a,D,l,-⟩:=z;refine⟨u,v,λnm=>⟨λ_=>undef,?_⟩⟩;subst A;have C:=ZD (ρ':=λ_=>undef) (nm:=nm) (hp ds) l;rw[Ka (hp ds)];exact⟨⟨a.os,a.tape,a.output,a.size,λb q=>a.block b q⟩,λ_ _=>rfl,C,λn o q=>(by cases q),λn o b q=>(by cases q),λn m o E b q=>(by cases q)⟩
end
section
open Go Go.RowKit
def qs2 (a:List (List Nat×Nat×List Nat)) (D:List Nat):List Nat:=(a.flatMap (·.1))++D
end
section
open Go Go.RowKit
theorem U9:IntKind.i32.min=-2147483648:=by decide
theorem VA:IntKind.i32.max=2147483647:=by decide
theorem bM (n:Int):Gm .i32 n↔-2147483648<=n/\n<=2147483647:=by unfold Gm;rw[U9,VA]
section
variable {c:Cx} {R:Exit->Act->World->Prop} {k:List Cl} {σ σ':St}
theorem sA (g:c.Ok) {ops:Array Oper} {rest:List Oper} {d:Nat} {T:TypeId} {x:Operand} {ty:TypeId} {pos:String} {after:Array Edge} {s:ByteArray}
  (A:Ae σ x=some (.p .str s)) (hT:c.P.underlying T=some .string) (m:lk d σ.objs=none) (q:Cu c R k ops rest ⟨(d,.bp d [] 0) :: σ.env,(d,.sit s 0) :: σ.objs⟩) :
  Cu c R k ops (⟨some d,.range T x,ty,pos,after,none⟩ :: rest) σ:=by
 intro h r a w z;unfold wpListIn;rw[At (by simp[Region.wanted])];obtain⟨ρ,i⟩:=z;have l:EI (vw w c.O0 σ ρ) σ a.eval:=Ck i.env;obtain⟨cs,⟨rfl,D⟩,f⟩:=l x _ A;have f:a.eval x=.string s:=f;have C:d<c.nt:=BB (h _ AAc) d rfl;have y:(Instr.range T (.string s)).run c.P w=.ok (.pointer (some ⟨w.heap.size,0,none⟩)) (w.alloc (.stringIter s 0)):=run_range_string w T s hT;have n:BS [(d,Obj.sit s 0)] σ=true:=by simp[BS,m]
 refine Aa (u:=.pointer (some ⟨w.heap.size,0,none⟩)) (w':=w.alloc (.stringIter s 0)) (by simp[execOp,f,y]) (q (λo t=>h o (by simp[t])) r _ _ ⟨DQ ρ d (.pointer (some ⟨w.heap.size,0,none⟩)),?_⟩);refine i.add g.K g.O (dst:=some d) (λB e=>by injection e with e;omega) (v:=.bp d [] 0) (obs:=[(d,.sit s 0)]) (u:=.pointer (some ⟨w.heap.size,0,none⟩)) (w':=w.alloc (.stringIter s 0)) n ?_;refine QS.one (DR w _) (λb j=>by simp[bk,blk]at j;omega) ?_ ?_
 .refine⟨⟨.sit s 0,by simp[Du,lk]⟩,w.heap.size,by rw[show (vw (w.alloc (.stringIter s 0)) c.O0 (Du σ [(d,.sit s 0)]) (DQ ρ d (.pointer (some ⟨w.heap.size,0,none⟩)))).ρ d=DQ ρ d (.pointer (some ⟨w.heap.size,0,none⟩)) d from rfl,BV],rfl⟩
 exact⟨w.heap.size,rfl,AC0 w _⟩
theorem sB {P:Program} (w:World) (ty:TypeId) (r:Nat) (s:ByteArray) (p:Nat) (a:w.heap[r]?=some (.stringIter s p)) :
  (¬p<s.size->(Instr.next (.pointer (some ⟨r,0,none⟩)) true ty).run P w=.ok (.tuple #[.bool false]) w) /\
  (p<s.size->(Instr.next (.pointer (some ⟨r,0,none⟩)) true ty).run P w=.ok (.tuple #[.bool true,.int .i64 p,.int .i32 (Utf8.decode s p).1]) (w.putObj r (.stringIter s (p+(Utf8.decode s p).2)))):=by
 constructor
 .intro h;simp[Instr.next,getObj,Sem.run,a,h]
 intro h;simp[Instr.next,getObj,setObj,Sem.run,a,h,goInt,World.putObj]
theorem sC (j:c.Ok) {ops:Array Oper} {rest:List Oper} {d n:Nat} {x:Operand} {ty:TypeId} {pos:String} {after:Array Edge} {s:ByteArray} {p:Nat}
  (Q:Ae σ x=some (.bp n [] 0)) (C:lk n σ.objs=some (.sit s p)) (N:s.size<=AN) (F:¬p<s.size->Cu c R k ops rest ⟨(d,.tup [.p .bool false]) :: σ.env,σ.objs⟩)
  (G:∀h:p<s.size,∀(q:Nat) (r:Int),p<q->((s[p]'h).toNat<128->q=p+1/\r=((s[p]'h).toNat:Int))->(128<=(s[p]'h).toNat->128<=r)->Gm .i32 r->Cu c R k ops rest ⟨(d,.tup [.p .bool true,.p (.int .i64) (p:Int),.p (.int .i32) r]) :: σ.env,upd n (.sit s q) σ.objs⟩) :
  Cu c R k ops (⟨some d,.next x true,ty,pos,after,none⟩ :: rest) σ:=by
 intro y B a w M;unfold wpListIn;rw[At (by simp[Region.wanted])];obtain⟨ρ,t⟩:=M;have I:EI (vw w c.O0 σ ρ) σ a.eval:=Ck t.env;have V:d<c.nt:=BB (y _ AAc) d rfl;obtain⟨U,b,l,D⟩:=I x _ Q;have l:ρ n=_:=l;obtain⟨b',f,m⟩:=t.objs n _ C;rw[l]at f;injection f with f
 injection f with f
 injection f with f
 subst f;have m:w.heap[b]?=some (.stringIter s p):=m;have H:=Au m;obtain⟨S,T⟩:=sB (P:=c.P) w ty b s p m;by_cases hp:p<s.size
 .have A:=T hp;have J:p<p+(Utf8.decode s p).2:=by
   by_cases i:128<=(s[p]'hp).toNat
   .have:=(decode_high s p hp i).2;omega
   rw[decode_ascii s p hp oa];simp
  have hi:Gm .i32 ((Utf8.decode s p).1:Int):=by
   have:=decode_le s p;constructor
   .show (-2147483648:Int)<=_;omega
   show _<=(2147483647:Int);omega
  refine Aa (u:=.tuple #[.bool true,.int .i64 p,.int .i32 (Utf8.decode s p).1]) (w':=w.putObj b (.stringIter s (p+(Utf8.decode s p).2))) (by simp[execOp,D,A]) ?_;refine G hp (p+(Utf8.decode s p).2) (Utf8.decode s p).1 J (λi=>by rw[decode_ascii s p hp i];exact⟨rfl,rfl⟩) (λi=>by have:=(decode_high s p hp i).1;omega) hi (λo z=>y o (by simp[z])) B _ _ ⟨ρ,?_⟩;have L:Bx c.w0 c.K c.O0 c.nt c.ds ⟨σ.env,upd n (.sit s (p+(Utf8.decode s p).2)) σ.objs⟩ ρ a (w.putObj b (.stringIter s (p+(Utf8.decode s p).2))):=by
   refine t.upd j.K C (g:=b) (by rw[l];rfl) (grownBy_putObj' w b _) ?_;exact⟨b,l,World.putObj_heap_same H⟩
  refine L.add j.K j.O (dst:=some d) (λE e=>by injection e with e;omega) (v:=.tup [.p .bool true,.p (.int .i64) (p:Int),.p (.int .i32) ((Utf8.decode s p).1:Int)]) (obs:=[]) (ρ':=ρ) rfl (QS.still ?_);refine⟨[.bool true,.int .i64 p,.int .i32 (Utf8.decode s p).1],rfl,_,_,rfl,⟨[.bool true],rfl,rfl⟩,_,_,rfl,⟨[.int .i64 p],⟨rfl,?_⟩,rfl⟩,_,_,rfl,⟨[.int .i32 (Utf8.decode s p).1],⟨rfl,hi⟩,rfl⟩,rfl⟩;simp only[AN]at N;constructor
  .show (-9223372036854775808:Int)<=_;omega
  show _<=(9223372036854775807:Int);omega
 have A:=S hp;refine Aa (u:=.tuple #[.bool false]) (w':=w) (by simp[execOp,D,A]) (F hp (λo z=>y o (by simp[z])) B _ _ ⟨ρ,?_⟩);refine t.add j.K j.O (dst:=some d) (λE e=>by injection e with e;omega) (v:=.tup [.p .bool false]) (obs:=[]) (ρ':=ρ) rfl (QS.still ?_);exact⟨[.bool false],rfl,_,_,rfl,⟨[.bool false],rfl,rfl⟩,rfl⟩
theorem A0m (a:c.Ok) {ops:Array Oper} {rest:List Oper} {d:Nat} {T:TypeId} {x:Operand} {ty:TypeId} {pos:String} {after:Array Edge} {s:ByteArray}
  (hT:c.P.underlying T=some .string) (e:Cu c R k ops rest ⟨(d,.bp d [] 0) :: σ.env,(d,.sit s 0) :: σ.objs⟩) (f:Ae σ x=some (.p .str s):=by simp only[go_sem,Nat.reduceEqDiff,reduceCtorEq,Nat.reduceAdd,Nat.reduceSub,Nat.reduceMul,Nat.reduceLeDiff,Nat.reduceLT,Int.reduceLE,Int.reduceToNat,Int.reduceNeg,↓reduceIte];rfl) (b:lk d σ.objs=none:=by simp only[go_sem,Nat.reduceEqDiff,reduceCtorEq,Nat.reduceAdd,Nat.reduceSub,Nat.reduceMul,Nat.reduceLeDiff,Nat.reduceLT,Int.reduceLE,Int.reduceToNat,Int.reduceNeg,↓reduceIte]) :
  Cu c R k ops (⟨some d,.range T x,ty,pos,after,none⟩ :: rest) σ:=sA a f hT b e
theorem A0n (e:c.Ok) {ops:Array Oper} {rest:List Oper} {d n:Nat} {x:Operand} {ty:TypeId} {pos:String} {after:Array Edge} {s:ByteArray} {p:Nat} (g:s.size<=AN)
  (a:¬p<s.size->Cu c R k ops rest ⟨(d,.tup [.p .bool false]) :: σ.env,σ.objs⟩)
  (b:∀h:p<s.size,∀(q:Nat) (r:Int),p<q->((s[p]'h).toNat<128->q=p+1/\r=((s[p]'h).toNat:Int))->(128<=(s[p]'h).toNat->128<=r)->Gm .i32 r->Cu c R k ops rest ⟨(d,.tup [.p .bool true,.p (.int .i64) (p:Int),.p (.int .i32) r]) :: σ.env,upd n (.sit s q) σ.objs⟩)
  (i:Ae σ x=some (.bp n [] 0):=by simp only[go_sem,Nat.reduceEqDiff,reduceCtorEq,Nat.reduceAdd,Nat.reduceSub,Nat.reduceMul,Nat.reduceLeDiff,Nat.reduceLT,Int.reduceLE,Int.reduceToNat,Int.reduceNeg,↓reduceIte];rfl) (f:lk n σ.objs=some (.sit s p):=by simp only[go_sem,Nat.reduceEqDiff,reduceCtorEq,Nat.reduceAdd,Nat.reduceSub,Nat.reduceMul,Nat.reduceLeDiff,Nat.reduceLT,Int.reduceLE,Int.reduceToNat,Int.reduceNeg,↓reduceIte];rfl) :
  Cu c R k ops (⟨some d,.next x true,ty,pos,after,none⟩ :: rest) σ:=sC e i f g a b
end
end
section
open Go Go.RowKit
def vW (w:World) (O:Nat->Prop):Vw:=⟨w,O,λ_=>False,λ_=>undef⟩
structure Pl (iet:TypeId) (k e:Ty) (l:List (k.den×List e.den)) (w:World) (O:Nat->Prop) (b:Nat) (es:Array MapEntry) (cl:Nat):Prop where
 heap:w.heap[b]?=some (.map es cl)
 born:Pg es cl
 len:es.size=l.length
 row:∀(i:Nat) (me:MapEntry) (x:k.den×List e.den),es[i]?=some me->l[i]?=some x->BG w O k me.key x.1/\Lf (vW w O) iet e x.2 me.val
 dist:∀(i j b':Nat) (u v:MapEntry),es[i]?=some u->es[j]?=some v->blk u.val=some b'->blk v.val=some b'->i=j
 out:∀(i:Nat) (u:MapEntry),es[i]?=some u->blk u.val≠some b
def EX (b:Nat) (es:Array MapEntry):Value:=.tuple (.map (some b) :: es.toList.map (·.val)).toArray
theorem Ds {b b':Nat} {es:Array MapEntry}:bk (EX b es) b'↔b=b'\/∃(i:Nat) (u:MapEntry),es[i]?=some u/\blk u.val=some b':=by
 unfold EX;rw[A8];constructor
 .rintro (h|⟨i,u,a,c⟩)
  .left;simpa[blk] using h
  right;rw[AAr,AAW,GO]at a;obtain⟨e,d,rfl⟩:=a;exact⟨i,e,d,c⟩
 rintro (rfl|⟨i,u,a,c⟩)
 .left;rfl
 exact .inr ⟨i,u.val,by rw[AAr,AAW,a];rfl,c⟩
theorem ZE {w w':World} {O O':Nat->Prop} (a:∀b,b<w.heap.size->¬O b->¬O' b) (c:∀b,b<w.heap.size->¬O b->w'.heap[b]?=w.heap[b]?):CG (vW w O) (vW w' O'):=⟨a,λ_ h=>h.elim,λ_ h=>h.elim,c⟩
theorem Pl.lt {c:TypeId} {k e:Ty} {l:List (k.den×List e.den)} {w:World} {O:Nat->Prop} {b cl:Nat} {es:Array MapEntry} (h:Pl c k e l w O b es cl) {b':Nat} (f:bk (EX b es) b'):b'<w.heap.size:=by
 rcases Ds.1 f with rfl|⟨i,u,a,d⟩
 .exact Au h.heap
 have hi:i<l.length:=by rw[<-h.len];exact(oS.1 a).1
 exact Av.block_lt (o:=.arr c e (l[i]).2) (h.row i u _ a (DO hi)).2 (.inl d)
theorem Pl.move {m:TypeId} {k e:Ty} {l:List (k.den×List e.den)} {w w':World} {O O':Nat->Prop} {b cl:Nat} {es:Array MapEntry} (h:Pl m k e l w O b es cl) (f:∀b,b<w.heap.size->¬O b->¬O' b) (j:∀b,b<w.heap.size->¬O b->w'.heap[b]?=w.heap[b]?)
  (g:∀b',bk (EX b es) b'->w'.heap[b']?=w.heap[b']?):Pl m k e l w' O' b es cl :=
 ⟨(g b (Ds.2 (.inl rfl))).trans h.heap,h.born,h.len,λi c x a d=>⟨(h.row i c x a d).1.mono f j,(h.row i c x a d).2.keeps (ZE f j) λb' n=>g b' (Ds.2 (.inr ⟨i,c,a,n⟩))⟩,h.dist,h.out⟩
def C2 (iet:TypeId) (k e:Ty) (l:List (k.den×List e.den)):z7 where
 S w O loc:=∃(b:Nat) (es:Array MapEntry) (cl:Nat),loc=EX b es/\Pl iet k e l w O b es cl
 keeps:=by
  rintro w w' O O' loc hO hw hb ⟨b,es,cl,rfl,h⟩;exact⟨b,es,cl,rfl,h.move hO hw hb⟩
 lt:=by
  rintro w O loc b' ⟨b,es,cl,rfl,h⟩ hb;exact h.lt hb
 mp:=by
  rintro w O loc ⟨b,es,cl,rfl,h⟩;exact⟨b,rfl⟩
 inn:=by
  rintro w O vs i a m c ⟨b,es,cl,hl,h⟩ hv;injection hl with hl
  subst hl;simp only[AC4,ABS,AAr,AAW,GO]at hv;obtain⟨me,h1,h2⟩:=hv;have hi:i<l.length:=by rw[<-h.len];exact(oS.1 h1).1
  obtain⟨hm,cells,how,_⟩:=(h.row i me _ h1 (DO hi)).2;rw[h2]at how;rw[Gc how];exact hm
theorem bN {w:World} {O:Nat->Prop} {k v:Ty}:∀ {es:List MapEntry} {l:List (k.den×v.den)},es.length=l.length->(∀(i:Nat) (a:MapEntry) (x:k.den×v.den),es[i]?=some a->l[i]?=some x->BG w O k a.key x.1/\BG w O v a.val x.2)->Jy w O k v es l
 | [],[],_,_=>trivial
 | [],_ :: _,h,_=>by simp at h
 | _ :: _,[],h,_=>by simp at h
 | e :: es,x :: l,h,b=>⟨(b 0 e x rfl rfl).1,(b 0 e x rfl rfl).2,bN (by simpa using h) λi a x c d=>b (i+1) a x (by simpa using c) (by simpa using d)⟩
theorem Pl.ents {o:TypeId} {k e:Ty} {l:List (k.den×List e.den)} {w:World} {O:Nat->Prop} {b cl:Nat} {es:Array MapEntry} (h:Pl o k e l w O b es cl) {O':Nat->Prop} (f:∀b,¬O b->¬O' b) (n:∀(i:Nat) (a:MapEntry) (b':Nat),es[i]?=some a->blk a.val=some b'->¬O' b'):Jy w O' k (.slice e) es.toList l :=
 bN (by rw[AAL];exact h.len) λi a x d g=>by
  rw[AAW]at d;obtain⟨j,m⟩:=h.row i a x d g;exact⟨j.mono (λb _ c=>f b c) (λ_ _ _=>rfl),[a.val],Nv (V:=vW w O) (λb c=>f b c) (λb' c=>n i a b' d c) m,rfl⟩
def Eg (k:Ty) {α:Type} (kd:k.den):List (k.den×α)->Nat->Option Nat
 | [],_=>none
 | x :: r,i=>if L2 k kd x.1=true then some i else Eg k kd r (i+1)
theorem M7 {k v:Ty} {kd:k.den}:∀ {es:List MapEntry} {l:List (k.den×v.den)} {i:Nat},es.length=l.length->(Hk k v kd es l i).map (·.1)=Eg k kd l i
 | [],[],_,_=>rfl
 | [],_ :: _,_,h=>by simp at h
 | _ :: _,[],_,h=>by simp at h
 | e :: es,x :: l,i,h=>by
  unfold Hk Eg;split
  .rfl
  exact M7 (by simpa using h)
theorem LL {k:Ty} {α:Type} {kd:k.den}:∀ {l:List (k.den×α)} {i j:Nat},Eg k kd l i=some j->i<=j/\j<i+l.length
 | [],_,_,h=>by cases h
 | x :: r,i,j,h=>by
  unfold Eg at h;split at h
  .injection h with h;simp;omega
  have:=LL h;simp;omega
section
variable {c:Cx} {R:Exit->Act->World->Prop} {kk:List Cl} {σ:St}
theorem fS (r:c.Ok) {ops:Array Oper} {rest:List Oper} {d n:Nat} {T S E:TypeId} {m x:Operand} {ty:TypeId} {pos:String} {after:Array Edge} {an:TypeId} {k e:Ty} {l:List (k.den×List e.den)} {xv:AV} {kd:k.den} {D:TypeDesc}
  (ah:Ae σ m=some (.mp n)) (al:Ae σ x=some xv) (M:lk n σ.objs=some (.gen (C2 an k e l))) (ag:IQ false σ k xv=some kd) (N:c.P.underlying T=some (.map S E)) (ae:Jp k=some D) (af:c.P.underlying S=some D)
  (am:∀w,(zeroValue E).run c.P w=.ok (.slice none 0 0) w)
  (Z:AQ k (.slice e) kd l=none->Cu c R kk ops rest ⟨(d,.raw (.slice none 0 0)) :: σ.env,σ.objs⟩)
  (aa:∀(i:Nat) (row:List e.den),AQ k (.slice e) kd l=some row->Eg k kd l 0=some i->Cu c R kk ops rest ⟨(d,.nin n e i row.length) :: σ.env,σ.objs⟩) :
  Cu c R kk ops (⟨some d,.lookup T m x false,ty,pos,after,none⟩ :: rest) σ:=by
 intro z J a w aj;unfold wpListIn;rw[At (by simp[Region.wanted])];obtain⟨ρ,g⟩:=aj;have G:EI (vw w c.O0 σ ρ) σ a.eval:=Ck g.env;have ap:d<c.nt:=BB (z _ AAc) d rfl;obtain⟨ao,b,f,L⟩:=G m _ ah;have f:plc (ρ n)=_:=f;have p:=Hh (V:=vw w c.O0 σ ρ) (O':=own c.O0 σ ρ) (λ_ h=>h) (λh=>by cases h) g.objs ag (G x _ al);obtain⟨b',es,cl,t,y⟩:=g.objs n _ M;have t:ρ n=EX b' es:=t;rw[t]at f;obtain rfl:b'=b:=by have f:Value.map (some b')=_:=f;injection f with f;injection f
 have I:w.heap[b']?=some (.map es cl):=y.heap;have s:=Dr ae af;have p:BG w (own c.O0 σ ρ) k (a.eval x) kd:=p;have Q:BG w (λ_=>False) k (a.eval x) kd:=p.mono (λ_ _ _ h=>h) (λ_ _ _=>rfl);have F:=y.ents (O':=λ_=>False) (λ_ _ h=>h) (λ_ _ _ _ _ h=>h);have H:=s.find Q F;rcases E4 s Q F 0 with ⟨g1,q,-⟩|⟨j,C,v0,g1,q,X,Y,-,-⟩
 .have B:(Instr.lookup T (.map (some b')) (a.eval x) false).run c.P w=.ok (.slice none 0 0) w:=by
   simp[Instr.lookup,On N,AAi I,s.check _ p,H,q,am]
  refine Aa (u:=.slice none 0 0) (w':=w) (by simp[execOp,L,B]) (Z g1 (λo A=>z o (by simp[A])) J _ _ ⟨ρ,?_⟩);refine g.add r.K r.O (dst:=some d) (λW e=>by injection e with e;omega) (v:=.raw (.slice none 0 0)) (obs:=[]) (ρ':=ρ) rfl (QS.still ?_);rfl
 have B:(Instr.lookup T (.map (some b')) (a.eval x) false).run c.P w=.ok C.val w:=by
  simp[Instr.lookup,On N,AAi I,s.check _ p,H,q]
 have ab:Eg k kd l 0=some j:=by
  rw[<-M7 (v:=.slice e) (es:=es.toList) (by rw[AAL];exact y.len),q];simp
 refine Aa (u:=C.val) (w':=w) (by simp[execOp,L,B]) (aa j v0 g1 ab (λo A=>z o (by simp[A])) J _ _ ⟨ρ,?_⟩);refine g.add r.K r.O (dst:=some d) (λW e=>by injection e with e;omega) (v:=.nin n e j v0.length) (obs:=[]) (ρ':=ρ) rfl (QS.still ?_);obtain⟨cs,ai,ak⟩:=Y;obtain⟨ad,U,rfl,-⟩:=ai;refine⟨⟨_,M⟩,_,ad,U,C.val,t,?_,.inl rfl,ak⟩;rw[AC4,ABS,AAr,X];rfl
theorem lX (A:c.Ok) {ops:Array Oper} {rest:List Oper} {d n:Nat} {T I y:TypeId} {m x:Operand} {ty:TypeId} {pos:String} {after:Array Edge} {ad:TypeId} {k e:Ty} {l:List (k.den×List e.den)} {xv:AV} {kd:k.den} {t:TypeDesc}
  (S:Ae σ m=some (.mp n)) (aa:Ae σ x=some xv) (W:lk n σ.objs=some (.gen (C2 ad k e l))) (Q:IQ false σ k xv=some kd) (G:c.P.underlying T=some (.map I y)) (L:Jp k=some t) (N:c.P.underlying I=some t)
  (ab:∀w,(zeroValue y).run c.P w=.ok (.slice none 0 0) w)
  (J:Cu c R kk ops rest ⟨(d,.tup [.top,.p .bool (AQ k (.slice e) kd l).isSome]) :: σ.env,σ.objs⟩) :
  Cu c R kk ops (⟨some d,.lookup T m x true,ty,pos,after,none⟩ :: rest) σ:=by
 intro B M a w Z;unfold wpListIn;rw[At (by simp[Region.wanted])];obtain⟨ρ,q⟩:=Z;have D:EI (vw w c.O0 σ ρ) σ a.eval:=Ck q.env;have aj:d<c.nt:=BB (B _ AAc) d rfl;obtain⟨ai,b,f,U⟩:=D m _ S;have f:plc (ρ n)=_:=f;have g:=Hh (V:=vw w c.O0 σ ρ) (O':=own c.O0 σ ρ) (λ_ h=>h) (λh=>by cases h) q.objs Q (D x _ aa);obtain⟨b',es,cl,s,z⟩:=q.objs n _ W;have s:ρ n=EX b' es:=s;rw[s]at f;obtain rfl:b'=b:=by have f:Value.map (some b')=_:=f;injection f with f;injection f
 have F:w.heap[b']?=some (.map es cl):=z.heap;have i:=Dr L N;have g:BG w (own c.O0 σ ρ) k (a.eval x) kd:=g;have H:BG w (λ_=>False) k (a.eval x) kd:=g.mono (λ_ _ _ h=>h) (λ_ _ _=>rfl);have C:=z.ents (O':=λ_=>False) (λ_ _ h=>h) (λ_ _ _ _ _ h=>h);have E:=i.find H C;obtain⟨u,Y⟩:∃u,(Instr.lookup T (.map (some b')) (a.eval x) true).run c.P w=.ok (.tuple #[u,.bool (AQ k (.slice e) kd l).isSome]) w:=by
  rcases E4 i H C 0 with ⟨g1,r,-⟩|⟨j,ae,v0,g1,r,ag,ah,-,-⟩
  .exact⟨.slice none 0 0,by simp[Instr.lookup,On G,AAi F,i.check _ g,E,r,ab,g1]⟩
  exact⟨ae.val,by simp[Instr.lookup,On G,AAi F,i.check _ g,E,r,g1]⟩
 refine Aa (u:=.tuple #[u,.bool (AQ k (.slice e) kd l).isSome]) (w':=w) (by simp[execOp,U,Y]) (J (λo X=>B o (by simp[X])) M _ _ ⟨ρ,?_⟩);refine q.add A.K A.O (dst:=some d) (λaf e=>by injection e with e;omega) (v:=.tup [.top,.p .bool (AQ k (.slice e) kd l).isSome]) (obs:=[]) (ρ':=ρ) rfl (QS.still ?_);exact⟨[u,.bool (AQ k (.slice e) kd l).isSome],rfl,u,_,rfl,trivial,.bool _,[],rfl,⟨[_],rfl,rfl⟩,rfl⟩
end
end
section
open Go Go.RowKit
theorem W1 {a:Act} {d:Nat} {u:Value} {x:Operand} (b:d<a.tmps.size) (c:x≠.tmp d):(a.put (some d) u).eval x=a.eval x:=by
 cases x with
 | tmp t =>
  show (a.put (some d) u).tmps.getD t undef=a.tmps.getD t undef;rw[Gb _ _ _ _ b,As (λe=>c (by rw[e]))]
 | const v=>rfl
 | global g=>rfl
 | func f=>rfl
theorem fT {a:Act} {d:Nat} {u:Value} (b:d<a.tmps.size):(a.put (some d) u).eval (.tmp d)=u:=by
 show (a.put (some d) u).tmps.getD d undef=u;rw[Gb _ _ _ _ b,At rfl]
theorem OA {k v:Ty} {kd:k.den} {x:v.den}:∀ {l:List (k.den×v.den)},AQ k v kd l=none->Bm k v kd x l=l++[(kd,x)]
 | [],_=>rfl
 | y :: l,h=>by
  unfold AQ at h;unfold Bm;split at h
  .cases h
  rename_i a;rw[As a,OA h];rfl
theorem Q5 {k v:Ty} {kd:k.den} {x:v.den}:∀ {l:List (k.den×v.den)} {i j:Nat},Eg k kd l i=some j->Bm k v kd x l=l.set (j-i) (kd,x)
 | [],_,_,h=>by cases h
 | y :: l,i,j,h=>by
  unfold Eg at h;unfold Bm;split at h
  .rename_i a;injection h with h
   rw[At a,h,ABy];rfl
  rename_i a;have b:=(LL h).1;rw[As a,Q5 h,show j-i=(j-(i+1))+1 by omega];rfl
theorem TN {k v:Ty} {kd:k.den}:∀ {l:List (k.den×v.den)} {i j:Nat},Eg k kd l i=some j->∃x,l[j-i]?=some x/\AQ k v kd l=some x.2
 | [],_,_,h=>by cases h
 | y :: l,i,j,h=>by
  unfold Eg at h;unfold AQ;split at h
  .rename_i a;injection h with h
   rw[At a];subst h;exact⟨y,by simp,rfl⟩
  rename_i a;have d:=(LL h).1;obtain⟨x,b,c⟩:=TN (v:=v) h;rw[As a];exact⟨x,by rw[show j-i=(j-(i+1))+1 by omega];simpa using b,c⟩
theorem Q6 {k v:Ty} {kd:k.den}:∀ {l:List (k.den×v.den)} {i:Nat},AQ k v kd l=none->Eg k kd l i=none
 | [],_,_=>rfl
 | y :: l,i,h=>by
  unfold AQ at h;unfold Eg;split at h
  .cases h
  rename_i a;rw[As a,Q6 h]
def Q7 (es:Array MapEntry) (cl:Nat) (a z:Value):Option Nat->Array MapEntry
 | some i=>es.modify i λe=>{ e with key:=a,val:=z }
 | none=>es.push ⟨a,z,cl⟩
def ZF (cl:Nat):Option Nat->Nat
 | some _=>cl
 | none=>cl+1
theorem lY {es:Array MapEntry} {cl:Nat} {b z:Value} {a:Option Nat} (c:∀i,a=some i->i<es.size) {j:Nat} {u:MapEntry} (h:(Q7 es cl b z a)[j]?=some u):(j=a.getD es.size/\u.key=b/\u.val=z)\/(j≠a.getD es.size/\es[j]?=some u):=by
 cases a with
 | none=>simp only[Q7]at h;grind
 | some i=>have:=c i rfl;simp only[Q7]at h;grind
theorem fU {es:Array MapEntry} {cl:Nat} (h:Pg es cl) (a z:Value) (b:Option Nat):Pg (Q7 es cl a z b) (ZF cl b):=by
 cases b with
 | none=>exact Sx h a z
 | some i=>exact Oz h i a z
section
variable {P:Program} {tb:Tb} {w0:World} {K O0:Nat->Prop} {nt:Nat} {ds:Fp} {σ:St} {ρ:Nat->Value} {a:Act} {w:World}
theorem W2 (hs:Bx w0 K O0 nt ds σ ρ a w) (ca:∀b,K b->b<w0.heap.size) (cb:∀b,O0 b->b<w0.heap.size) {n:Nat} {aq:TypeId} {k e:Ty} {l:List (k.den×List e.den)} (ai:lk n σ.objs=some (.gen (C2 aq k e l))) (ch:EV n=false)
  {b cl:Nat} {es:Array MapEntry} (ay:ρ n=EX b es) (q:Pl aq k e l w (own O0 σ ρ) b es cl) {T ar bw:TypeId} (bs:P.underlying T=some (.map ar bw)) {bi:TypeDesc} (ag:Jp k=some bi) (ax:P.underlying ar=some bi) {kd:k.den} {y:Value} (bo:BG w (own O0 σ ρ) k y kd)
  {z:Value} {w1:World} {row:List e.den} (bf:∀(b':Nat),b'<w.heap.size->(∀i u,Eg k kd l 0=some i->es[i]?=some u->blk u.val≠some b')->w1.heap[b']?=w.heap[b']?) (co:w1.os=w.os) (cu:w1.tape=w.tape) (cp:w1.output=w.output) (ct:w.heap.size<=w1.heap.size)
  (ba:(∃(i:Nat) (u:MapEntry),Eg k kd l 0=some i/\es[i]?=some u/\blk z=blk u.val)\/∀b',blk z=some b'->w.heap.size<=b') (cq:∀O':Nat->Prop,(∀b',b'<w.heap.size->¬own O0 σ ρ b'->¬O' b')->Lf (vW w1 O') aq e row z) :
  ∃w2,(Instr.mapUpdate T (.map (some b)) y z).run P w1=.ok () w2/\∀(dst:Option Nat) (u:Value),(∀d,dst=some d->d<nt)->∃ρ',Bx w0 K O0 nt ds ⟨(match dst with|some d=>(d,.top) :: Bw n [] σ.env|none=>Bw n [] σ.env),(n,.gen (C2 aq k e (Bm k (.slice e) kd row l))) :: Ba n [] σ.objs⟩ ρ' (a.put dst u) w2:=by
 obtain⟨p,F⟩:∃p,Eg k kd l 0=p:=⟨_,rfl⟩;have cn:∀i,p=some i->i<es.size:=λi h=>by
  have:=(LL (F.trans h)).2;rw[q.len];omega
 have cd:b<w.heap.size:=Au q.heap;have af:w1.heap[b]?=some (.map es cl):=(bf b cd λi u _ g=>q.out i u g).trans q.heap;have bh:=Dr ag ax;have Y:BG w (λ_=>False) k y kd:=bo.mono (λ_ _ _ h=>h) (λ_ _ _=>rfl);have av:=q.ents (O':=λ_=>False) (λ_ _ h=>h) (λ_ _ _ _ _ h=>h);have cg:=Nx ag Y av 0;have bn:(Instr.findKey ar y es.toList).run P w1=.ok (Hk k (.slice e) kd es.toList l 0) w1:=MapKept.run_findKey ax cg;have da:(Instr.checkKey es.toList.isEmpty 10000 ar y).run P w1=.ok () w1:=ACi ax (Ff ag Y) _ 9999;have bm:(Instr.checkKey false 10000 ar y).run P w1=.ok () w1:=ACi ax (Ff ag Y) _ 9999;have cs:(Instr.keyThatStays y y).run P w1=.ok y w1:=MapKept.run_keyThatStays (Ff ag Y);have cr:(Instr.mapUpdate T (.map (some b)) y z).run P w1=.ok () { w1 with heap:=w1.heap.setIfInBounds b (.map (Q7 es cl y z p) (ZF cl p)) }:=by
  rcases E4 bh Y av 0 with ⟨g1,L,-⟩|⟨j,Q,v0,g1,L,C,-,bx,-⟩
  .have:p=none:=by rw[<-F];exact Q6 g1
   subst this;simp[Instr.mapUpdate,On bs,AAi af,bm,bn,L,ABw _ af,Q7,ZF]
  have:p=some j:=by
   rw[<-F,<-M7 (v:=.slice e) (es:=es.toList) (by rw[AAL];exact q.len),L];simp
  subst this;have ci:es[j]?=some Q:=by simpa using C
  simp[Instr.mapUpdate,On bs,AAi af,bm,bn,L,ci,bx,cs,ABw _ af,Q7,ZF]
 refine⟨_,cr,λdst u cf=>?_⟩;generalize be:Q7 es cl y z p=R at *
 let w2:World:={ w1 with heap:=w1.heap.setIfInBounds b (.map R (ZF cl p)) }
 have cv:w2.heap[b]?=some (.map R (ZF cl p)):=by
  show (w1.heap.setIfInBounds b _)[b]?=_;rw[ABh];simp[Au af]
 have az:∀b',b'≠b->w2.heap[b']?=w1.heap[b']?:=λb' aj=>by
  show (w1.heap.setIfInBounds b _)[b']?=_;rw[ABh,As (λe=>aj e.symm)]
 have cw:w.heap.size<=w2.heap.size:=by
  show _<=(w1.heap.setIfInBounds b _).size;rw[Array.size_setIfInBounds];exact ct
 have M:∀b',bk (ρ n) b'↔b=b'\/∃(i:Nat) (u:MapEntry),es[i]?=some u/\blk u.val=some b':=λb'=>by rw[ay];exact Ds
 have bu:blk z≠some b:=λh=>by
  rcases ba with ⟨i,u,_,g,r⟩|c
  .exact q.out i u g (r▸h)
  have:=c b h;omega
 have bg:∀b',b'<w.heap.size->¬bk (ρ n) b'->w2.heap[b']?=w.heap[b']?:=λb' Z B=>by
  rw[az b' (λe=>B ((M b').2 (.inl e.symm)))];exact bf b' Z λi u _ g r=>B ((M b').2 (.inr ⟨i,u,g,r⟩))
 have ah:∀ {j:Nat} {u:MapEntry},R[j]?=some u->(j=p.getD es.size/\u.key=y/\u.val=z)\/(j≠p.getD es.size/\es[j]?=some u):=λh=>lY (cl:=cl) cn (be ▸ h);have bq:∀b',bk (EX b R) b'->bk (ρ n) b'\/w.heap.size<=b':=λb' D=>by
  rcases Ds.1 D with c|⟨j,u,c,g⟩
  .exact .inl ((M b').2 (.inl c))
  rcases ah c with ⟨_,_,s⟩|⟨_,s⟩
  .rw[s]at g;rcases ba with ⟨i,aa,_,W,X⟩|U
   .exact .inl ((M b').2 (.inr ⟨i,aa,W,by rw[<-X];exact g⟩))
   exact .inr (U b' g)
  exact .inl ((M b').2 (.inr ⟨j,u,s,g⟩))
 have Z:∀b',bk (ρ n) b'->b'<w.heap.size:=λb' I=>(hs.objs n _ ai).block_lt I
 let ρ':Nat->Value:=DQ ρ n (EX b R)
 have ao:ρ' n=EX b R:=BV _ _ _;have bb:∀m,m≠n->ρ' m=ρ m:=λm h=>by simp[ρ',DQ,h]
 generalize hG:Obj.gen (C2 aq k e (Bm k (.slice e) kd row l))=G
 let E:List (Nat×AV):=match dst with|some d=>(d,.top) :: Bw n [] σ.env|none=>Bw n [] σ.env
 let S:St:=⟨E,(n,G) :: Ba n [] σ.objs⟩
 have bd:∀m J,lk m S.objs=some J->(m=n/\J=G)\/(m≠n/\∃t,lk m σ.objs=some t/\J=t.trn n []):=by
  intro m J f;simp only[S,lk]at f;split at f
  .rename_i H;cases f;exact .inl ⟨H,rfl⟩
  rename_i H;rw[CW]at f;split at f
  .cases f
  simp only[GO]at f;obtain⟨t,c,rfl⟩:=f;exact .inr ⟨H,t,c,rfl⟩
 have bj:∀m,m≠n->∀t,lk m σ.objs=some t->lk m S.objs=some (t.trn n []):=by grind [lk,CW,Ac]
 have al:∀b',b'<w.heap.size->¬own O0 σ ρ b'->¬own O0 S ρ' b':=by
  intro b' I B cy;rcases cy with bz|⟨m,⟨J,cm⟩,au⟩
  .exact B (.inl bz)
  rcases bd m J cm with ⟨rfl,_⟩|⟨c,t,r,_⟩
  .rw[ao]at au;rcases bq b' au with A|A
   .exact B (.inr ⟨_,⟨_,ai⟩,A⟩)
   omega
  rw[bb m c]at au;exact B (.inr ⟨m,⟨t,r⟩,au⟩)
 have aw:∀b',b'<w.heap.size->¬own O0 σ ρ b'->w2.heap[b']?=w.heap[b']?:=λb' Z B=>bg b' Z λI=>B (.inr ⟨n,⟨_,ai⟩,I⟩);have bl:Lg (vw w O0 σ ρ) (vw w2 O0 S ρ') n []:=by
  refine⟨al,λm f _=>?_,λm f _ aj=>bb m aj,⟨_,ay⟩,?_,aw⟩
  .obtain⟨t,c⟩:=f;by_cases O:m=n
   .subst O;exact⟨G,by simp[S,lk]⟩
   exact⟨_,bj m O t c⟩
  show plc (ρ' n)=plc (ρ n);rw[ao,ay];rfl
 have bp:(Bm k (.slice e) kd row l).length=l.length+(if p.isSome=true then 0 else 1):=by
  cases ak:p with
  | none =>
   have:AQ k (.slice e) kd l=none:=by
    cases f:AQ k (.slice e) kd l with
    | none=>rfl
    | some v =>
     rcases E4 bh Y av 0 with ⟨g1,_⟩|⟨j,Q,v0,_,L,_⟩
     .rw[g1]at f;cases f
     have s:=M7 (v:=.slice e) (kd:=kd) (es:=es.toList) (l:=l) (i:=0) (by rw[AAL];exact q.len);rw[L,F,ak]at s;cases s
   rw[OA this];simp
  | some i=>rw[Q5 (F.trans ak)];simp
 refine⟨ρ',hs.swap ca cb (T:=λm=>m=n) (λm f=>by obtain rfl:m=n:=f;exact⟨ch,_,ai,.inr ⟨_,ay⟩⟩) (new:=[(n,G)]) co cu cp cw ?_ ?_ ?_ ?_ ?_ ?_ ?_ ?_⟩
 .exact λb' I B=>bg b' I (B n rfl)
 .intro m o f ck;have O:m≠n:=λe=>by subst e;simp[lk]at ck
  rcases bd m o f with ⟨c,_⟩|⟨_,t,g,_⟩
  .exact absurd c O
  exact⟨O,t,g⟩
 .intro m o f aj;have O:m≠n:=aj;exact⟨by simp[lk,O],_,bj m O o f⟩
 .intro m f;exact bb m λe=>by subst e;simp[lk]at f
 .intro m o b' f D;simp only[lk]at f;split at f
  .rename_i H;subst H;rw[ao]at D;rcases bq b' D with h|h
   .exact .inl ⟨m,rfl,h⟩
   exact .inr h
  cases f
 .intro m db o dc b' c g _ _;simp only[lk]at c g;split at c
  .split at g
   .rename_i H bv;rw[H,bv]
   cases g
  cases c
 .intro m J f;show Av (vw w2 O0 S ρ') J (ρ' m);rcases bd m J f with ⟨c,g⟩|⟨c,t,r,rfl⟩
  .rw[c,g,ao,<-hG];refine⟨b,R,ZF cl p,rfl,cv,?_,?_,λi Q x c g=>?_,λi j b' u v c g r A=>?_,λi u c g=>?_⟩
   .rw[<-be];exact fU q.born y z p
   .have ae:(Q7 es cl y z p).size=es.size+(if p.isSome=true then 0 else 1):=by
     clear bp;cases p with
     | none=>simp[Q7]
     | some i=>simp[Q7]
    rw[bp,<-q.len,<-ae,be]
   .have bt:(i=p.getD es.size/\x=(kd,row))\/(i≠p.getD es.size/\l[i]?=some x):=by
     cases ak:p with
     | none =>
      have cj:AQ k (.slice e) kd l=none:=by
       rcases E4 bh Y av 0 with ⟨g1,_⟩|⟨j,Q,v0,_,L,_⟩
       .exact g1
       have s:=M7 (v:=.slice e) (kd:=kd) (es:=es.toList) (l:=l) (i:=0) (by rw[AAL];exact q.len);rw[L,F,ak]at s;cases s
      rw[OA cj]at g;have:=q.len;simp only[Option.getD_none];grind
     | some i0 =>
      rw[Q5 (F.trans ak)]at g;have:=q.len;simp only[ABJ,AC2]at g ⊢;grind
    rcases ah c with ⟨A,s,U⟩|⟨A,s⟩
    .rcases bt with ⟨_,rfl⟩|⟨W,_⟩
     .refine⟨by rw[s];exact bo.mono al aw,?_⟩;rw[U];exact Lf.keeps (V:=vW w1 (own O0 S ρ')) (V':=vW w2 (own O0 S ρ')) ⟨λ_ _ h=>h,λ_ h=>h.elim,λ_ h=>h.elim,λb' D B=>az b' λe=>B (by subst e;exact .inr ⟨n,⟨G,by simp[S,lk]⟩,by rw[ao];exact Ds.2 (.inl rfl)⟩)⟩ (λb' D=>az b' λe=>bu (by rw[D,e])) (cq _ al)
     exact absurd A W
    rcases bt with ⟨W,_⟩|⟨_,W⟩
    .exact absurd W A
    obtain⟨X,ae⟩:=q.row i Q x s W;refine⟨X.mono al aw,ae.keeps (ZE al aw) λb' D=>?_⟩;have ce:b'≠b:=λe=>q.out i Q s (e▸D);rw[show (vW w2 (own O0 S ρ')).w.heap[b']?=w2.heap[b']? from rfl,az b' ce];refine bf b' (Z b' ((M b').2 (.inr ⟨i,Q,s,D⟩))) λap aa N an cc=>A ?_;have:=q.dist i ap b' Q aa s an D cc;rw[F]at N;rw[N,this];rfl
   .rcases ah c with ⟨g1,_,C⟩|⟨g1,C⟩<;>rcases ah g with ⟨bc,_,ad⟩|⟨bc,ad⟩
    .rw[g1,bc]
    .exfalso;rw[C]at r;rcases ba with ⟨ap,aa,N,an,X⟩|U
     .have:=q.dist j ap b' v aa ad an A (X▸r);rw[F]at N;exact bc (by rw[N,this];rfl)
     have ae:=U b' r;have:=Z b' ((M b').2 (.inr ⟨j,v,ad,A⟩));omega
    .exfalso;rw[ad]at A;rcases ba with ⟨ap,aa,N,an,X⟩|U
     .have:=q.dist i ap b' u aa C an r (X▸A);rw[F]at N;exact g1 (by rw[N,this];rfl)
     have ae:=U b' A;have:=Z b' ((M b').2 (.inr ⟨i,u,C,r⟩));omega
    exact q.dist i j b' u v C ad r A
   rcases ah c with ⟨_,_,C⟩|⟨_,C⟩
   .exact bu (C▸g)
   exact q.out i u C g
  rw[bb m c];refine Ps bl (λb' I=>bg b' ((hs.objs m t r).block_lt I) λH=>c (hs.dist m n b' ⟨_,r⟩ ⟨_,ai⟩ I H)) (hs.objs m t r)
 intro s2 ab am;have br:∀ab,lk s2 (Bw n [] σ.env)=some ab->Bn (vw w2 O0 S ρ') ab (a.tmps.getD s2 undef):=λab h=>by
  rw[E5]at h;simp only[GO]at h;obtain⟨cz,cx,rfl⟩:=h;exact Mo bl (hs.env s2 cz cx)
 cases dst with
 | none=>exact br ab am
 | some d =>
  rw[Gb a d u s2 (by rw[hs.nt];exact cf d rfl)];simp only[lk]at am;split at am
  .cases am;split<;>trivial
  rename_i es;rw[As es];exact br ab am
end
section
variable {c:Cx} {R:Exit->Act->World->Prop} {kk:List Cl} {σ:St}
theorem W3 (F:c.Ok) {ops:Array Oper} {rest:List Oper} {d n:Nat} {t T ba bd ty ty2:TypeId} {D Z m s:Operand} {pos cr:String} {after bc:Array Edge} {B:TypeId} {k e:Ty} {l:List (k.den×List e.den)} {xv v:AV} {kd:k.den} {ap:TypeDesc} {ys:List e.den} {te:TI}
  (J:(∃i len,Ae σ D=some (.nin n e i len)/\Eg k kd l 0=some i)\/(Ae σ D=some (.raw (.slice none 0 0))/\AQ k (.slice e) kd l=none))
  (aj:Ae σ m=some (.mp n)) (ci:Ae σ s=some xv) (al:lk n σ.objs=some (.gen (C2 B k e l))) (bo:IQ false σ k xv=some kd) (cg:c.P.underlying T=some (.map ba bd)) (bh:Jp k=some ap) (bn:c.P.underlying ba=some ap)
  (cm:Ae σ Z=some v) (cp:K5 σ e v=some ys) (cn:ys.isEmpty=false) (X:c.P.underlying t=some (.slice B)) (U:lk B c.tb.ty=some te) (W:te.ty=e) (I:(((AQ k (.slice e) kd l).getD []:List e.den).length+ys.length)*te.bytes<=AN) (bj:EV n=false) (bq:m≠.tmp d) (cd:s≠.tmp d)
  (av:Cu c R kk ops rest ⟨(d,.top) :: Bw n [] σ.env,(n,.gen (C2 B k e (Bm k (.slice e) kd (((AQ k (.slice e) kd l).getD []:List e.den)++ys) l))) :: Ba n [] σ.objs⟩) :
  Cu c R kk ops (⟨some d,.call ⟨.builtin .append,#[D,Z],#[t,t]⟩,ty,pos,after,none⟩ :: ⟨none,.mapUpdate T m s (.tmp d),ty2,cr,bc,none⟩ :: rest) σ:=by
 intro au bm a w cc;unfold wpListIn;rw[At (by simp[Region.wanted])];obtain⟨ρ,hs⟩:=cc;have S:EI (vw w c.O0 σ ρ) σ a.eval:=Ck hs.env;have bi:d<c.nt:=BB (au _ AAc) d rfl;obtain⟨cv,b,C,br⟩:=S m _ aj;have C:plc (ρ n)=_:=C;have ai:=Hh (V:=vw w c.O0 σ ρ) (O':=own c.O0 σ ρ) (λ_ h=>h) (λh=>by cases h) hs.objs bo (S s _ ci);have ai:BG w (own c.O0 σ ρ) k (a.eval s) kd:=ai;obtain⟨b',es,cl,L,aa⟩:=hs.objs n _ al;have L:ρ n=EX b' es:=L;rw[L]at C;obtain rfl:b'=b:=by have C:Value.map (some b')=_:=C;injection C with C;injection C
 have aa:Pl B k e l w (own c.O0 σ ρ) b' es cl:=aa;obtain⟨an,H⟩:=Mk hs.objs cp (S Z _ cm);obtain⟨row,A⟩:∃row:List e.den,((AQ k (.slice e) kd l).getD []:List e.den)=row:=⟨_,rfl⟩;rw[A]at I av;obtain⟨z,w1,y,x,ab,bl,q,f,G,cq⟩:∃(z:Value) (w1:World) (y:List Value),(Builtin.append_ #[t,t] ty #[a.eval D,a.eval Z]).run c.P w=.ok z w1/\DE w (own c.O0 σ ρ) e y row/\y.length=row.length*e.size/\w1.ownsRow 0 B e.size z (row.length+ys.length) (y++an) /\
   (w1.os=w.os/\w1.tape=w.tape/\w1.output=w.output/\w.heap.size<=w1.heap.size/\∀(j:Nat),j<w.heap.size->(∀i u,Eg k kd l 0=some i->es[i]?=some u->blk u.val≠some j)->w1.heap[j]?=w.heap[j]?)/\row.length+ys.length<=AN /\
   ((∃(i:Nat) (u:MapEntry),Eg k kd l 0=some i/\es[i]?=some u/\blk z=blk u.val)\/∀j,blk z=some j->w.heap.size<=j):=by
  rcases J with ⟨i,len,am,af⟩|⟨am,bs⟩
  .obtain⟨bb,az,cj⟩:=TN (v:=.slice e) af;rw[cj]at A;have A:bb.2=row:=A;obtain⟨-,cs,ad,ct,cx,M,ay,bp,cw⟩:=S D _ am;have M:ρ n=.tuple cs:=M;rw[L]at M;injection M with M
   subst M;rw[AC4,ABS,AAr,AAW,GO]at ay;obtain⟨N,ak,rfl⟩:=ay;rw[AC2]at az;obtain⟨-,aj,y,p,ab⟩:=aa.row i N bb ak az;rw[A]at aj p ab;have p:w.ownsRow 0 B e.size N.val row.length y:=p;obtain⟨z,w',x,q,f,G,Y⟩:∃z w',(Builtin.append_ #[t,t] ty #[a.eval D,a.eval Z]).run c.P w=.ok z w'/\w'.ownsRow 0 B e.size z (row.length+ys.length) (y++an)/\w.grownBy w' (blk N.val)/\row.length+ys.length<=AN/\(blk z=blk N.val\/∀b,blk z=some b->w.heap.size<=b):=by
    rcases bp with ah|⟨ah,a0,ch⟩
    .rw[ah];obtain⟨z,w',x,q,f,G⟩:=EA (ty:=ty) F.T X U W p H I (BY _);have Y:=EK (ty:=ty) F.T X U W p H I x;rw[Mq p]at f;exact⟨z,w',x,q,f,G,Y⟩
    rw[ah]at p ⊢;have ax:=Gc p;have bx:row=[]:=dO ax.symm;have bk:y=[]:=dO (by rw[p.1,<-ax,ACo]);subst bk;have co:0<ys.length:=by
     cases ys with
     | nil=>simp at cn
     | cons _ _=>simp
    rw[ch];rw[bx]at I ⊢;obtain⟨z,w',x,q,f⟩:=KG (ty:=ty) F.T X U W (xs:=([]:List e.den)) (a:=a0) (Mj w (own c.O0 σ ρ) e a0 0) H co I;refine⟨z,w',x,⟨q.1,q.2.imp (λh=>h) λ⟨g,cap,ao,e,_,r⟩=>⟨g,cap,ao,e,BY _,r⟩⟩,f,by simpa using H.max,.inr λb J=>?_⟩;rcases q.2 with ⟨Q,_⟩|⟨g,cap,ao,Q,aq,_⟩
    .rw[Q]at J;simp[blk]at J
    rw[Q]at J;simp[blk]at J;omega
   refine⟨z,w',y,x,ab,p.1,q,⟨f.os,f.tape,f.output,f.size,λj E bt=>f.block j E λae=>bt i N af ak ae.symm⟩,G,?_⟩;rcases Y with h|h
   .exact .inl ⟨i,N,af,ak,h⟩
   exact .inr h
  rw[bs]at A;have A:([]:List e.den)=row:=A;subst A;have ck:a.eval D=.slice none 0 0:=S D _ am;have p:=AB5 w 0 B e.size;rw[ck];obtain⟨z,w',x,q,f,G⟩:=EA (ty:=ty) F.T X U W p H I (BY _);have Y:=EK (ty:=ty) F.T X U W p H I x;refine⟨z,w',[],x,E3 _ _ _ _,by simp,q,⟨f.os,f.tape,f.output,f.size,λj E _=>f.block j E λae=>by cases ae⟩,G,.inr λj E=>?_⟩;rcases Y with h|h
  .rw[h]at E;cases E
  exact h j E
 obtain⟨bv,cf,bw,ce,ar⟩:=f;refine Aa (u:=z) (w':=w1) (by simp[execOp,resolve,invoke,builtin,x]) ?_;unfold wpListIn;rw[At (by simp[Region.wanted])];have ag:d<a.tmps.size:=by rw[hs.nt];exact bi
 have aw:(row++ys).length=row.length+ys.length:=by simp
 obtain⟨w2,bz,ca⟩:=W2 hs F.K F.O al bj L aa cg bh bn ai (z:=z) (w1:=w1) (row:=row++ys) ar bv cf bw ce cq λO' bg=>by
  refine⟨by rw[aw];exact G,y++an,by rw[aw];exact q,?_⟩;refine DE.keeps (V:=vW w (own c.O0 σ ρ)) (V':=vW w1 O') (ZE bg λj Q aq=>ar j Q λi u _ be bf=>aq (.inr ⟨n,⟨_,al⟩,by rw[L];exact Ds.2 (.inr ⟨i,u,be,bf⟩)⟩)) ?_;exact Gd ab H.elems bl
 obtain⟨ρ',cb⟩:=ca (some d) z (λcu e=>by injection e with e;omega);refine Mp (w':=w2) ?_ (av (λo bu=>au o (by simp[bu])) bm _ _ ⟨ρ',cb⟩);show (execOp (a.put (some d) z).eval _).run c.P w1=_;simp[execOp,W1 ag bq,W1 ag cd,fT ag,br,bz]
theorem lZ (q:c.Ok) {ops:Array Oper} {rest:List Oper} {n:Nat} {T u x ty2:TypeId} {m s:Operand} {U:String} {v:Array Edge} {g:TypeId} {k e:Ty} {l:List (k.den×List e.den)} {xv:AV} {kd:k.den} {p:TypeDesc}
  (G:Ae σ m=some (.mp n)) (S:Ae σ s=some xv) (t:lk n σ.objs=some (.gen (C2 g k e l))) (F:IQ false σ k xv=some kd) (Q:c.P.underlying T=some (.map u x)) (y:Jp k=some p) (E:c.P.underlying u=some p) (B:EV n=false)
  (C:Cu c R kk ops rest ⟨Bw n [] σ.env,(n,.gen (C2 g k e (Bm k (.slice e) kd [] l))) :: Ba n [] σ.objs⟩) :
  Cu c R kk ops (⟨none,.mapUpdate T m s (.const (.slice none 0 0)),ty2,U,v,none⟩ :: rest) σ:=by
 intro A D a w N;unfold wpListIn;rw[At (by simp[Region.wanted])];obtain⟨ρ,hs⟩:=N;have r:EI (vw w c.O0 σ ρ) σ a.eval:=Ck hs.env;obtain⟨Y,b,d,H⟩:=r m _ G;have d:plc (ρ n)=_:=d;have j:=Hh (V:=vw w c.O0 σ ρ) (O':=own c.O0 σ ρ) (λ_ h=>h) (λh=>by cases h) hs.objs F (r s _ S);have j:BG w (own c.O0 σ ρ) k (a.eval s) kd:=j;obtain⟨b',es,cl,f,i⟩:=hs.objs n _ t;have f:ρ n=EX b' es:=f;rw[f]at d;obtain rfl:b'=b:=by have d:Value.map (some b')=_:=d;injection d with d;injection d
 have i:Pl g k e l w (own c.O0 σ ρ) b' es cl:=i;obtain⟨w2,J,L⟩:=W2 hs q.K q.O t B f i Q y E j (z:=.slice none 0 0) (w1:=w) (row:=([]:List e.den)) (λ_ _ _=>rfl) rfl rfl rfl (If _) (.inr λW h=>by cases h) λO' _=>⟨by simp[AN],[],AB5 _ 0 g e.size,E3 _ _ _ _⟩;obtain⟨ρ',M⟩:=L none undef (λX e=>by cases e);refine Mp (w':=w2) ?_ (C (λo I=>A o (by simp[I])) D _ _ ⟨ρ',M⟩);show (execOp a.eval _).run c.P w=_;simp[execOp,H,show a.eval (.const (.slice none 0 0))=.slice none 0 0 from rfl,J]
theorem fV (m:c.Ok) {ops:Array Oper} {rest:List Oper} {d:Nat} {T L t l:TypeId} {h:Option Operand} {ty:TypeId} {pos:String} {after:Array Edge} {k e:Ty} (H:c.P.underlying T=some (.map L t)) (B:∀x,h=some x->∃kk n,Ae σ x=some (.p (.int kk) n)) (z:lk d σ.objs=none)
  (C:Cu c R kk ops rest ⟨(d,.mp d) :: σ.env,(d,.gen (C2 l k e [])) :: σ.objs⟩):Cu c R kk ops (⟨some d,.makeMap T h,ty,pos,after,none⟩ :: rest) σ:=by
 intro q D a w G;unfold wpListIn;rw[At (by simp[Region.wanted])];obtain⟨ρ,hs⟩:=G;have y:EI (vw w c.O0 σ ρ) σ a.eval:=Ck hs.env;have N:d<c.nt:=BB (q _ AAc) d rfl;have r:(Instr.makeMap T none).run c.P w=.ok (.map (some w.heap.size)) (w.alloc (.map #[] 0)):=by simp[Instr.makeMap,Result.andThen]
 have F:(Instr.makeMap T (h.map a.eval)).run c.P w=.ok (.map (some w.heap.size)) (w.alloc (.map #[] 0)):=by
  cases h with
  | none=>exact r
  | some x =>
   obtain⟨Q,U,J⟩:=B x rfl;obtain⟨I,-⟩:=A3 (y x _ J);have s:(Instr.makeMap T (some (a.eval x))).run c.P w=(Instr.makeMap T none).run c.P w:=by
    rw[I];simp only[Instr.makeMap,AAF,On H,AAh,asInt,asIntOf,ABm]
   exact s.trans r
 have A:BS [(d,Obj.gen (C2 l k e []))] σ=true:=by simp[BS,z]
 refine Aa (u:=.map (some w.heap.size)) (w':=w.alloc (.map #[] 0)) (by simp[execOp,F]) (C (λo E=>q o (by simp[E])) D _ _ ⟨DQ ρ d (EX w.heap.size #[]),?_⟩);refine hs.add m.K m.O (dst:=some d) (λM e=>by injection e with e;omega) (v:=.mp d) (obs:=[(d,.gen (C2 l k e []))]) (u:=.map (some w.heap.size)) (w':=w.alloc (.map #[] 0)) A (QS.one (loc:=EX w.heap.size #[]) ((Below.refl _ w).alloc (If _) _) ?_ ?_ ?_)
 .intro b g;rcases Ds.1 g with f|⟨i,u,f,_⟩
  .omega
  simp at f
 .refine⟨⟨_,by simp only[Du,ABe,lk,AAH];rfl⟩,w.heap.size,?_,rfl⟩;show plc (DQ ρ d _ d)=_;rw[BV];rfl
 exact⟨w.heap.size,#[],0,rfl,(MapKept.heap_alloc w _).1,⟨List.Pairwise.nil,λb g=>by cases g⟩,rfl,λi S x f=>by simp at f,λi j b' u v f=>by simp at f,λi u f=>by simp at f⟩
theorem l0 {n:Nat} {W:TypeId} {k e:Ty} {l:List (k.den×List e.den)} (E:lk n σ.objs=some (.gen (C2 W k e l))) (Z:(c.ds.pin.all λp=>!Ac p.1 [n])=true):qC c σ ⟨Bw n [] σ.env,(n,.mapo k (.slice e) l) :: Ba n [] σ.objs⟩:=by
 rintro a w ⟨ρ,hs⟩;obtain⟨b,es,cl,u,t⟩:=hs.objs n _ E;have u:ρ n=EX b es:=u;have t:Pl W k e l w (own c.O0 σ ρ) b es cl:=t
 let ρ':Nat->Value:=DQ ρ n (.map (some b))
 have G:ρ' n=.map (some b):=BV _ _ _;have A:∀m,m≠n->ρ' m=ρ m:=λm h=>by simp[ρ',DQ,h]
 let S:St:=⟨Bw n [] σ.env,(n,.mapo k (.slice e) l) :: Ba n [] σ.objs⟩
 have P:∀m q,lk m S.objs=some q->(m=n/\q=.mapo k (.slice e) l)\/(m≠n/\∃j,lk m σ.objs=some j/\q=j.trn n []):=by
  intro m q f;simp only[S,lk]at f;split at f
  .rename_i g;cases f;exact .inl ⟨g,rfl⟩
  rename_i g;rw[CW]at f;split at f
  .cases f
  simp only[GO]at f;obtain⟨j,d,rfl⟩:=f;exact .inr ⟨g,j,d,rfl⟩
 have O:∀m,m≠n->∀j,lk m σ.objs=some j->lk m S.objs=some (j.trn n []):=by grind [lk,CW,Ac]
 have D:∀m b',bk (ρ' m) b'->bk (ρ m) b':=λm b' r=>by
  by_cases g:m=n
  .subst g;rw[G]at r;rw[u];exact Ds.2 (.inl (by simpa[blk] using jS.1 r))
  rwa [A m g]at r
 have z:∀m,GL S m->GL σ m:=λm ⟨q,h⟩=>by
  rcases P m q h with ⟨rfl,_⟩|⟨_,j,d,_⟩
  .exact⟨_,E⟩
  exact⟨_,d⟩
 have V:∀b',¬own c.O0 σ ρ b'->¬own c.O0 S ρ' b':=λb' U L=>by
  rcases L with I|⟨m,J,r⟩
  .exact U (.inl I)
  exact U (.inr ⟨m,z m J,D m b' r⟩)
 have Q:Lg (vw w c.O0 σ ρ) (vw w c.O0 S ρ') n []:=by
  refine⟨λb' _ h=>V b' h,λm f _=>?_,λm f _ F=>A m F,⟨_,u⟩,?_,λ_ _ _=>rfl⟩
  .obtain⟨j,d⟩:=f;by_cases T:m=n
   .subst T;exact⟨.mapo k (.slice e) l,by simp[S,lk]⟩
   exact⟨_,O m T j d⟩
  show plc (ρ' n)=plc (ρ n);rw[G,u];rfl
 refine⟨ρ',hs.frm,hs.nt,hs.defers,λp hp=>?_,λm q f=>?_,λm b' J r=>hs.free m b' (z m J) (D m b' r),λm M b' d x y B=>hs.dist m M b' (z m d) (z M x) (D m b' y) (D M b' B),λs v K=>?_⟩
 .obtain⟨⟨o,d⟩,x,y⟩:=hs.pin p hp;have F:p.1≠n:=λg=>by
   have:=(IS.1 Z) p hp;simp[Ac,g]at this
  exact⟨⟨_,O p.1 F o d⟩,(A _ F).trans x,y⟩
 .show Av (vw w c.O0 S ρ') q (ρ' m);rcases P m q f with ⟨d,x⟩|⟨d,j,y,rfl⟩
  .rw[d,x,G];refine⟨b,es,cl,rfl,t.heap,t.ents V λi X b' B N L=>?_,t.born⟩;have R:bk (ρ n) b':=by rw[u];exact Ds.2 (.inr ⟨i,X,B,N⟩)
   rcases L with I|⟨H,Y,C⟩
   .exact(hs.free n b' ⟨_,E⟩ R).2 I
   by_cases g:H=n
   .subst g;rw[G]at C;have:b=b':=by simpa[blk] using jS.1 C
    exact t.out i X B (this▸N)
   rw[A H g]at C;exact g (hs.dist H n b' (z H Y) ⟨_,E⟩ C R)
  rw[A m d];exact Ps Q (λ_ _=>rfl) (hs.objs m j y)
 rw[E5]at K;simp only[GO]at K;obtain⟨ab,aa,rfl⟩:=K;exact Mo Q (hs.env s ab aa)
theorem ZG (b:c.Ok) {ops:Array Oper} {rest:List Oper} {t:TypeId} {m x y:Operand} {ty:TypeId} {pos:String} {after:Array Edge} {vc:Prop} {σ1:St} (h:G2 c.tb σ (lk t c.tb.ty) (Ae σ m) (Ae σ x) (Ae σ y)=some (vc,σ1)) (g:Cu c R kk ops rest σ1) :
  Cu c R kk ops (⟨none,.insert t m x y,ty,pos,after,none⟩ :: rest) σ:=by
 intro f i a w k;unfold wpListIn;rw[At (by simp[Region.wanted])];obtain⟨ρ,hs⟩:=k;obtain⟨w',d,e⟩:=S2 (P:=c.P) hs b.K b.T h;exact Mp (w':=w') (by simp[execOp,d]) (g (λo j=>f o (by simp[j])) i _ _ ⟨ρ,e⟩)
end
end
section
open Go Go.RowKit
section
variable {c:Cx} {R:Exit->Act->World->Prop} {k:List Cl} {σ σ1:St}
theorem sD (h:c.Ok) {ops:Array Oper} {rest:List Oper} {d n:Nat} {T b a:TypeId} {m x:Operand} {ty:TypeId} {pos:String} {after:Array Edge} {u:TypeId} {e:Ty} {l:List (ByteArray×List e.den)} {xv:AV} {kd:ByteArray}
  (r:c.P.underlying T=some (.map b a)) (j:c.P.underlying b=some .string) (t:∀w,(zeroValue a).run c.P w=.ok (.slice none 0 0) w)
  (f:AQ .str (.slice e) kd l=none->Cu c R k ops rest ⟨(d,.raw (.slice none 0 0)) :: σ.env,σ.objs⟩)
  (g:∀(i:Nat) (row:List e.den),AQ .str (.slice e) kd l=some row->Eg .str kd l 0=some i->Cu c R k ops rest ⟨(d,.nin n e i row.length) :: σ.env,σ.objs⟩)
  (p:Ae σ m=some (.mp n):=by simp only[go_sem,Nat.reduceEqDiff,reduceCtorEq,Nat.reduceAdd,Nat.reduceSub,Nat.reduceMul,Nat.reduceLeDiff,Nat.reduceLT,Int.reduceLE,Int.reduceToNat,Int.reduceNeg,↓reduceIte]<;>rfl) (s:Ae σ x=some xv:=by simp only[go_sem,Nat.reduceEqDiff,reduceCtorEq,Nat.reduceAdd,Nat.reduceSub,Nat.reduceMul,Nat.reduceLeDiff,Nat.reduceLT,Int.reduceLE,Int.reduceToNat,Int.reduceNeg,↓reduceIte]<;>rfl) (q:lk n σ.objs=some (.gen (C2 u .str e l)):=by simp only[go_sem,Nat.reduceEqDiff,reduceCtorEq,Nat.reduceAdd,Nat.reduceSub,Nat.reduceMul,Nat.reduceLeDiff,Nat.reduceLT,Int.reduceLE,Int.reduceToNat,Int.reduceNeg,↓reduceIte]<;>rfl) (o:IQ false σ .str xv=some kd:=by simp only[go_sem,Nat.reduceEqDiff,reduceCtorEq,Nat.reduceAdd,Nat.reduceSub,Nat.reduceMul,Nat.reduceLeDiff,Nat.reduceLT,Int.reduceLE,Int.reduceToNat,Int.reduceNeg,↓reduceIte]<;>rfl) :
  Cu c R k ops (⟨some d,.lookup T m x false,ty,pos,after,none⟩ :: rest) σ:=fS h p s q o r rfl j t f g
theorem A1k (g:c.Ok) {ops:Array Oper} {rest:List Oper} {d n:Nat} {T b a:TypeId} {m x:Operand} {ty:TypeId} {pos:String} {after:Array Edge} {t:TypeId} {e:Ty} {l:List (ByteArray×List e.den)} {xv:AV} {kd:ByteArray}
  (q:c.P.underlying T=some (.map b a)) (h:c.P.underlying b=some .string) (s:∀w,(zeroValue a).run c.P w=.ok (.slice none 0 0) w)
  (f:Cu c R k ops rest ⟨(d,.tup [.top,.p .bool (AQ .str (.slice e) kd l).isSome]) :: σ.env,σ.objs⟩)
  (j:Ae σ m=some (.mp n):=by simp only[go_sem,Nat.reduceEqDiff,reduceCtorEq,Nat.reduceAdd,Nat.reduceSub,Nat.reduceMul,Nat.reduceLeDiff,Nat.reduceLT,Int.reduceLE,Int.reduceToNat,Int.reduceNeg,↓reduceIte]<;>rfl) (r:Ae σ x=some xv:=by simp only[go_sem,Nat.reduceEqDiff,reduceCtorEq,Nat.reduceAdd,Nat.reduceSub,Nat.reduceMul,Nat.reduceLeDiff,Nat.reduceLT,Int.reduceLE,Int.reduceToNat,Int.reduceNeg,↓reduceIte]<;>rfl) (o:lk n σ.objs=some (.gen (C2 t .str e l)):=by simp only[go_sem,Nat.reduceEqDiff,reduceCtorEq,Nat.reduceAdd,Nat.reduceSub,Nat.reduceMul,Nat.reduceLeDiff,Nat.reduceLT,Int.reduceLE,Int.reduceToNat,Int.reduceNeg,↓reduceIte]<;>rfl) (i:IQ false σ .str xv=some kd:=by simp only[go_sem,Nat.reduceEqDiff,reduceCtorEq,Nat.reduceAdd,Nat.reduceSub,Nat.reduceMul,Nat.reduceLeDiff,Nat.reduceLT,Int.reduceLE,Int.reduceToNat,Int.reduceNeg,↓reduceIte]<;>rfl) :
  Cu c R k ops (⟨some d,.lookup T m x true,ty,pos,after,none⟩ :: rest) σ:=lX g j r o i q rfl h s f
theorem bO (p:c.Ok) {ops:Array Oper} {rest:List Oper} {d n:Nat} {t T f o ty ty2:TypeId} {g i m s:Operand} {pos M:String} {after j:Array Edge} {a:TypeId} {e:Ty} {l:List (ByteArray×List e.den)} {xv v:AV} {kd:ByteArray} {ys:List e.den} {te:TI}
  (D:c.P.underlying T=some (.map f o)) (u:c.P.underlying f=some .string) (E:c.P.underlying t=some (.slice a)) (b:AQ .str (.slice e) kd l=none) (F:ys.length*te.bytes<=AN)
  (r:Cu c R k ops rest σ1)
  (H:Ae σ g=some (.raw (.slice none 0 0)):=by simp only[go_sem,Nat.reduceEqDiff,reduceCtorEq,Nat.reduceAdd,Nat.reduceSub,Nat.reduceMul,Nat.reduceLeDiff,Nat.reduceLT,Int.reduceLE,Int.reduceToNat,Int.reduceNeg,↓reduceIte]<;>rfl)
  (x:Ae σ m=some (.mp n):=by simp only[go_sem,Nat.reduceEqDiff,reduceCtorEq,Nat.reduceAdd,Nat.reduceSub,Nat.reduceMul,Nat.reduceLeDiff,Nat.reduceLT,Int.reduceLE,Int.reduceToNat,Int.reduceNeg,↓reduceIte]<;>rfl) (G:Ae σ s=some xv:=by simp only[go_sem,Nat.reduceEqDiff,reduceCtorEq,Nat.reduceAdd,Nat.reduceSub,Nat.reduceMul,Nat.reduceLeDiff,Nat.reduceLT,Int.reduceLE,Int.reduceToNat,Int.reduceNeg,↓reduceIte]<;>rfl) (z:lk n σ.objs=some (.gen (C2 a .str e l)):=by simp only[go_sem,Nat.reduceEqDiff,reduceCtorEq,Nat.reduceAdd,Nat.reduceSub,Nat.reduceMul,Nat.reduceLeDiff,Nat.reduceLT,Int.reduceLE,Int.reduceToNat,Int.reduceNeg,↓reduceIte]<;>rfl) (w:IQ false σ .str xv=some kd:=by simp only[go_sem,Nat.reduceEqDiff,reduceCtorEq,Nat.reduceAdd,Nat.reduceSub,Nat.reduceMul,Nat.reduceLeDiff,Nat.reduceLT,Int.reduceLE,Int.reduceToNat,Int.reduceNeg,↓reduceIte]<;>rfl)
  (I:Ae σ i=some v:=by simp only[go_sem,Nat.reduceEqDiff,reduceCtorEq,Nat.reduceAdd,Nat.reduceSub,Nat.reduceMul,Nat.reduceLeDiff,Nat.reduceLT,Int.reduceLE,Int.reduceToNat,Int.reduceNeg,↓reduceIte]<;>rfl) (K:K5 σ e v=some ys:=by simp only[go_sem,Nat.reduceEqDiff,reduceCtorEq,Nat.reduceAdd,Nat.reduceSub,Nat.reduceMul,Nat.reduceLeDiff,Nat.reduceLT,Int.reduceLE,Int.reduceToNat,Int.reduceNeg,↓reduceIte]<;>rfl) (J:ys.isEmpty=false:=by rfl) (B:lk a c.tb.ty=some te:=by rfl) (C:te.ty=e:=by rfl) (q:EV n=false:=by rfl) (y:m≠.tmp d:=by intro h;cases h) (A:s≠.tmp d:=by intro h;cases h)
  (L:⟨(d,.top) :: Bw n [] σ.env,(n,.gen (C2 a .str e (Bm .str (.slice e) kd (((AQ .str (.slice e) kd l).getD []:List e.den)++ys) l))) :: Ba n [] σ.objs⟩=σ1:=by simp only[go_sem,Nat.reduceEqDiff,reduceCtorEq,Nat.reduceAdd,Nat.reduceSub,Nat.reduceMul,Nat.reduceLeDiff,Nat.reduceLT,Int.reduceLE,Int.reduceToNat,Int.reduceNeg,↓reduceIte]<;>rfl) :
  Cu c R k ops (⟨some d,.call ⟨.builtin .append,#[g,i],#[t,t]⟩,ty,pos,after,none⟩ :: ⟨none,.mapUpdate T m s (.tmp d),ty2,M,j,none⟩ :: rest) σ :=
 W3 p (.inr ⟨H,b⟩) x G z w D rfl u I K J E B C (by rw[b];simpa using F) q y A (L▸r)
theorem bP (r:c.Ok) {ops:Array Oper} {rest:List Oper} {d n i len:Nat} {t T b o ty ty2:TypeId} {f g m s:Operand} {pos O:String} {after j:Array Edge} {a:TypeId} {e:Ty} {l:List (ByteArray×List e.den)} {xv v:AV} {kd:ByteArray} {row ys:List e.den} {te:TI}
  (F:c.P.underlying T=some (.map b o)) (x:c.P.underlying b=some .string) (G:c.P.underlying t=some (.slice a)) (q:AQ .str (.slice e) kd l=some row) (p:Eg .str kd l 0=some i) (H:(row.length+ys.length)*te.bytes<=AN)
  (w:Cu c R k ops rest σ1)
  (J:Ae σ f=some (.nin n e i len):=by simp only[go_sem,Nat.reduceEqDiff,reduceCtorEq,Nat.reduceAdd,Nat.reduceSub,Nat.reduceMul,Nat.reduceLeDiff,Nat.reduceLT,Int.reduceLE,Int.reduceToNat,Int.reduceNeg,↓reduceIte]<;>rfl)
  (z:Ae σ m=some (.mp n):=by simp only[go_sem,Nat.reduceEqDiff,reduceCtorEq,Nat.reduceAdd,Nat.reduceSub,Nat.reduceMul,Nat.reduceLeDiff,Nat.reduceLT,Int.reduceLE,Int.reduceToNat,Int.reduceNeg,↓reduceIte]<;>rfl) (I:Ae σ s=some xv:=by simp only[go_sem,Nat.reduceEqDiff,reduceCtorEq,Nat.reduceAdd,Nat.reduceSub,Nat.reduceMul,Nat.reduceLeDiff,Nat.reduceLT,Int.reduceLE,Int.reduceToNat,Int.reduceNeg,↓reduceIte]<;>rfl) (B:lk n σ.objs=some (.gen (C2 a .str e l)):=by simp only[go_sem,Nat.reduceEqDiff,reduceCtorEq,Nat.reduceAdd,Nat.reduceSub,Nat.reduceMul,Nat.reduceLeDiff,Nat.reduceLT,Int.reduceLE,Int.reduceToNat,Int.reduceNeg,↓reduceIte]<;>rfl) (y:IQ false σ .str xv=some kd:=by simp only[go_sem,Nat.reduceEqDiff,reduceCtorEq,Nat.reduceAdd,Nat.reduceSub,Nat.reduceMul,Nat.reduceLeDiff,Nat.reduceLT,Int.reduceLE,Int.reduceToNat,Int.reduceNeg,↓reduceIte]<;>rfl)
  (K:Ae σ g=some v:=by simp only[go_sem,Nat.reduceEqDiff,reduceCtorEq,Nat.reduceAdd,Nat.reduceSub,Nat.reduceMul,Nat.reduceLeDiff,Nat.reduceLT,Int.reduceLE,Int.reduceToNat,Int.reduceNeg,↓reduceIte]<;>rfl) (M:K5 σ e v=some ys:=by simp only[go_sem,Nat.reduceEqDiff,reduceCtorEq,Nat.reduceAdd,Nat.reduceSub,Nat.reduceMul,Nat.reduceLeDiff,Nat.reduceLT,Int.reduceLE,Int.reduceToNat,Int.reduceNeg,↓reduceIte]<;>rfl) (L:ys.isEmpty=false:=by rfl) (D:lk a c.tb.ty=some te:=by rfl) (E:te.ty=e:=by rfl) (u:EV n=false:=by rfl) (A:m≠.tmp d:=by intro h;cases h) (C:s≠.tmp d:=by intro h;cases h)
  (N:⟨(d,.top) :: Bw n [] σ.env,(n,.gen (C2 a .str e (Bm .str (.slice e) kd (((AQ .str (.slice e) kd l).getD []:List e.den)++ys) l))) :: Ba n [] σ.objs⟩=σ1:=by simp only[go_sem,Nat.reduceEqDiff,reduceCtorEq,Nat.reduceAdd,Nat.reduceSub,Nat.reduceMul,Nat.reduceLeDiff,Nat.reduceLT,Int.reduceLE,Int.reduceToNat,Int.reduceNeg,↓reduceIte]<;>rfl) :
  Cu c R k ops (⟨some d,.call ⟨.builtin .append,#[f,g],#[t,t]⟩,ty,pos,after,none⟩ :: ⟨none,.mapUpdate T m s (.tmp d),ty2,O,j,none⟩ :: rest) σ :=
 W3 r (.inl ⟨i,len,J,p⟩) z I B y F rfl x K M L G D E (by rw[q];simpa using H) u A C (N▸w)
theorem A1l (g:c.Ok) {ops:Array Oper} {rest:List Oper} {n:Nat} {T b f ty2:TypeId} {m s:Operand} {v:String} {d:Array Edge} {a:TypeId} {e:Ty} {l:List (ByteArray×List e.den)} {xv:AV} {kd:ByteArray}
  (r:c.P.underlying T=some (.map b f)) (j:c.P.underlying b=some .string)
  (i:Cu c R k ops rest σ1)
  (p:Ae σ m=some (.mp n):=by simp only[go_sem,Nat.reduceEqDiff,reduceCtorEq,Nat.reduceAdd,Nat.reduceSub,Nat.reduceMul,Nat.reduceLeDiff,Nat.reduceLT,Int.reduceLE,Int.reduceToNat,Int.reduceNeg,↓reduceIte]<;>rfl) (t:Ae σ s=some xv:=by simp only[go_sem,Nat.reduceEqDiff,reduceCtorEq,Nat.reduceAdd,Nat.reduceSub,Nat.reduceMul,Nat.reduceLeDiff,Nat.reduceLT,Int.reduceLE,Int.reduceToNat,Int.reduceNeg,↓reduceIte]<;>rfl) (q:lk n σ.objs=some (.gen (C2 a .str e l)):=by simp only[go_sem,Nat.reduceEqDiff,reduceCtorEq,Nat.reduceAdd,Nat.reduceSub,Nat.reduceMul,Nat.reduceLeDiff,Nat.reduceLT,Int.reduceLE,Int.reduceToNat,Int.reduceNeg,↓reduceIte]<;>rfl) (o:IQ false σ .str xv=some kd:=by simp only[go_sem,Nat.reduceEqDiff,reduceCtorEq,Nat.reduceAdd,Nat.reduceSub,Nat.reduceMul,Nat.reduceLeDiff,Nat.reduceLT,Int.reduceLE,Int.reduceToNat,Int.reduceNeg,↓reduceIte]<;>rfl) (h:EV n=false:=by rfl)
  (u:⟨Bw n [] σ.env,(n,.gen (C2 a .str e (Bm .str (.slice e) kd [] l))) :: Ba n [] σ.objs⟩=σ1:=by simp only[go_sem,Nat.reduceEqDiff,reduceCtorEq,Nat.reduceAdd,Nat.reduceSub,Nat.reduceMul,Nat.reduceLeDiff,Nat.reduceLT,Int.reduceLE,Int.reduceToNat,Int.reduceNeg,↓reduceIte]<;>rfl) :
  Cu c R k ops (⟨none,.mapUpdate T m s (.const (.slice none 0 0)),ty2,v,d,none⟩ :: rest) σ:=lZ g p t q o r rfl j h (u▸i)
theorem A0o {d:Nat} {T m a:TypeId} {h:Option Operand} {ty:TypeId} {pos:String} {after:Array Edge} (e:Ty) (l:TypeId) (b:c.Ok) {ops:Array Oper} {rest:List Oper} (j:c.P.underlying T=some (.map m a)) (g:∀x,h=some x->∃kk n,Ae σ x=some (.p (.int kk) n))
  (i:Cu c R k ops rest ⟨(d,.mp d) :: σ.env,(d,.gen (C2 l .str e [])) :: σ.objs⟩) (f:lk d σ.objs=none:=by simp only[go_sem,Nat.reduceEqDiff,reduceCtorEq,Nat.reduceAdd,Nat.reduceSub,Nat.reduceMul,Nat.reduceLeDiff,Nat.reduceLT,Int.reduceLE,Int.reduceToNat,Int.reduceNeg,↓reduceIte]):Cu c R k ops (⟨some d,.makeMap T h,ty,pos,after,none⟩ :: rest) σ:=fV b j g f i
theorem A0p {a:Yn} (n:Nat) {h:TypeId} {e:Ty} {l:List (ByteArray×List e.den)} (b:Ev c R a k σ1) (d:lk n σ.objs=some (.gen (C2 h .str e l)):=by simp only[go_sem,Nat.reduceEqDiff,reduceCtorEq,Nat.reduceAdd,Nat.reduceSub,Nat.reduceMul,Nat.reduceLeDiff,Nat.reduceLT,Int.reduceLE,Int.reduceToNat,Int.reduceNeg,↓reduceIte]<;>rfl) (f:(c.ds.pin.all λp=>!Ac p.1 [n])=true:=by rfl)
  (g:⟨Bw n [] σ.env,(n,.mapo .str (.slice e) l) :: Ba n [] σ.objs⟩=σ1:=by simp only[go_sem,Nat.reduceEqDiff,reduceCtorEq,Nat.reduceAdd,Nat.reduceSub,Nat.reduceMul,Nat.reduceLeDiff,Nat.reduceLT,Int.reduceLE,Int.reduceToNat,Int.reduceNeg,↓reduceIte]<;>rfl):Ev c R a k σ:=Ev.ent (g▸b) (l0 d f)
theorem A1m (a:c.Ok) {ops:Array Oper} {rest:List Oper} {t:TypeId} {m x y:Operand} {ty:TypeId} {pos:String} {after:Array Edge} {vc:Prop} (d:vc) (b:Cu c R k ops rest σ1) (h:G2 c.tb σ (lk t c.tb.ty) (Ae σ m) (Ae σ x) (Ae σ y)=some (vc,σ1):=by simp only[go_sem,Nat.reduceEqDiff,reduceCtorEq,Nat.reduceAdd,Nat.reduceSub,Nat.reduceMul,Nat.reduceLeDiff,Nat.reduceLT,Int.reduceLE,Int.reduceToNat,Int.reduceNeg,↓reduceIte]<;>rfl) :
  Cu c R k ops (⟨none,.insert t m x y,ty,pos,after,none⟩ :: rest) σ:=ZG a h b
theorem A1n (f:c.Ok) {ops:Array Oper} {rest:List Oper} {d:Nat} {s t ty:TypeId} {x:Operand} {pos:String} {after:Array Edge} {i b:IntKind} {a:Int} (y:c.P.underlying s=some (.int i)) (z:c.P.underlying t=some (.int b))
  (l:Cu c R k ops rest ⟨(d,.p (.int b) (b.wrap a)) :: σ.env,σ.objs⟩) (A:Ae σ x=some (.p (.int i) a):=by simp only[go_sem,Nat.reduceEqDiff,reduceCtorEq,Nat.reduceAdd,Nat.reduceSub,Nat.reduceMul,Nat.reduceLeDiff,Nat.reduceLT,Int.reduceLE,Int.reduceToNat,Int.reduceNeg,↓reduceIte]<;>rfl) :
  Cu c R k ops (⟨some d,.convert s t x,ty,pos,after,none⟩ :: rest) σ:=by
 intro g m ac w r;unfold wpListIn;rw[At (by simp[Region.wanted])];obtain⟨ρ,h⟩:=r;have j:EI (vw w c.O0 σ ρ) σ ac.eval:=Ck h.env;have E:d<c.nt:=BB (g _ AAc) d rfl;obtain⟨B,D⟩:=A3 (j x _ A);have q:(convert s t (ac.eval x)).run c.P w=.ok (.int b (b.wrap a)) w:=by
  rw[B];simp[convert,On y,On z,Conv.intToInt]
 refine Aa (u:=.int b (b.wrap a)) (w':=w) (by simp[execOp,q]) (l (λo n=>g o (by simp[n])) m _ _ ⟨ρ,?_⟩);refine h.add f.K f.O (dst:=some d) (λC e=>by injection e with e;omega) (v:=.p (.int b) (b.wrap a)) (obs:=[]) (ρ':=ρ) rfl (QS.still ?_);exact BD (Hj b a)
theorem A1o (a:c.Ok) {ops:Array Oper} {rest:List Oper} {d:Nat} {T ty el:TypeId} {x y:Operand} {pos:String} {after:Array Edge} {e:Ty} {offs:List (Nat×Nat)} {b:Nat} {te:TI} {m:Int}
  (s:0<=m) (aa:m.toNat*te.bytes<=AN)
  (C:Cu c R k ops rest ⟨(d,.sr d e 0 0) :: σ.env,(d,.arr el e []) :: σ.objs⟩) (f:Ae σ x=some (.p (.int .i64) 0):=by simp only[go_sem,Nat.reduceEqDiff,reduceCtorEq,Nat.reduceAdd,Nat.reduceSub,Nat.reduceMul,Nat.reduceLeDiff,Nat.reduceLT,Int.reduceLE,Int.reduceToNat,Int.reduceNeg,↓reduceIte]<;>rfl) (Q:Ae σ y=some (.p (.int .i64) m):=by simp only[go_sem,Nat.reduceEqDiff,reduceCtorEq,Nat.reduceAdd,Nat.reduceSub,Nat.reduceMul,Nat.reduceLeDiff,Nat.reduceLT,Int.reduceLE,Int.reduceToNat,Int.reduceNeg,↓reduceIte]<;>rfl)
  (L:lk T c.tb.ty=some ⟨.slice e,offs,el,b⟩:=by rfl) (q:lk el c.tb.ty=some te:=by rfl) (B:lk d σ.objs=none:=by simp only[go_sem,Nat.reduceEqDiff,reduceCtorEq,Nat.reduceAdd,Nat.reduceSub,Nat.reduceMul,Nat.reduceLeDiff,Nat.reduceLT,Int.reduceLE,Int.reduceToNat,Int.reduceNeg,↓reduceIte]) :
  Cu c R k ops (⟨some d,.makeSlice T x y,ty,pos,after,none⟩ :: rest) σ:=by
 intro g D ac w I;unfold wpListIn;rw[At (by simp[Region.wanted])];obtain⟨ρ,n⟩:=I;have h:EI (vw w c.O0 σ ρ) σ ac.eval:=Ck n.env;have Z:d<c.nt:=BB (g _ AAc) d rfl;obtain⟨N,-⟩:=A3 (h x _ f);obtain⟨S,-⟩:=A3 (h y _ Q);obtain⟨M,hs,ad,r,rfl⟩:=CA (a.T _ _ L) a.T;rw[q]at r;cases r;obtain⟨⟨⟨_,A,_⟩,i,z,hi,J,Y,U,ab⟩,_⟩:=a.T _ _ q;have E:m.toNat<=AN:=by
  have:m.toNat*1<=m.toNat*te.bytes:=AB2 _ A;omega
 have t:(i.bytes:Int)*m<=281474976710656:=by grind [AN]
 have H:=run_make (P:=c.P) w T el i z M hi U .i64 .i64 0 m (ACN _) s t (by simp only[AN]at E;omega);have G:(w.alloc (.cells (madeCells z.cells (m.toNat*i.size)) el)).ownsRow w.heap.size el te.ty.size (.slice (some ⟨w.heap.size,0,none⟩) 0 m.toNat) 0 [] :=
  ⟨by simp,.inr ⟨w.heap.size,m.toNat,_,rfl,If _,AC0 w _,BY _,by have W:AN=140737488355328:=rfl;have X:maxLen=9223372036854775807:=rfl;omega,by rw[size_madeCells,J],by simp⟩⟩
 have l:BS [(d,Obj.arr el te.ty [])] σ=true:=by simp[BS,B]
 refine Aa (u:=.slice (some ⟨w.heap.size,0,none⟩) 0 m.toNat) (w':=w.alloc (.cells (madeCells z.cells (m.toNat*i.size)) el)) ?_ (C (λo F=>g o (by simp[F])) D _ _ ⟨DQ ρ d (.slice (some ⟨w.heap.size,0,none⟩) 0 m.toNat),?_⟩)
 .show (execOp ac.eval _).run c.P w=_;simp[execOp,N,S,H]
 exact n.add a.K a.O (dst:=some d) (λV e=>by injection e with e;omega) (v:=.sr d te.ty 0 0) (obs:=[(d,.arr el te.ty [])]) l (QS.arr l (DR w _) G sa (λj x f=>by simp at f) rfl)
end
end
end Go.Proofs.YtaoonfcjbmcmpaaGreatDoor.Fw
