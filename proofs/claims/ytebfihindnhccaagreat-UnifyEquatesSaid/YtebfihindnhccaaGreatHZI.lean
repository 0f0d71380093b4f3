/- Range over a function; scopes; several steps in one. -/
/- Range over a function: a call of yield; a round; the statement; the end of a function that holds one. -/
import Derived.Test.YtebfihindnhccaaGreatHZH
import Derived.RangeFuncFrom
import Derived.Scope
set_option linter.unusedVariables false
set_option linter.unusedSimpArgs false
namespace Go.Proofs.YtebfihindnhccaaGreat.Fw
section
open Go Go.RowKit
/-! ### A call of yield -/
section
variable {c:Cx} {R:Exit→Act→World→Prop} {k:List EY} {σ:St}
def yJ (n:Nat):Option AV→Bool
 | some (.yl m)=>m==n
 | _=>false
end
/-! ### A round -/
def SM:List Nat→List AV→List (Nat×AV)→List (Nat×AV)
 | p :: ps,x :: xs,e=>SM ps xs ((p,x) :: e)
 | _,_,e=>e
def cY (P:Program) (tb:Tb) (w0:World) (K O0:Nat→Prop) (nt l:Nat) (pin:List (Nat×Value)):Cx:={ P:=P,tb:=tb,w0:=w0,K:=K,O0:=O0,nt:=nt,ds:={ pin:=pin },r:=some l }
theorem e7 {P:Program} {tb:Tb} {w0:World} {K O0:Nat→Prop} {nt l:Nat} {pin:List (Nat×Value)}:(cY P tb w0 K O0 nt l pin).tb=tb:=rfl
section
variable {P:Program} {tb:Tb} {w0:World} {K O0:Nat→Prop} {nt l:Nat} {stay:List Nat} {ρ0:Nat→Value} {post:AV→List (Nat×Obj)→Prop} {σ:St} {pin:List (Nat×Value)}
end
end
/- Range over a function, second part: the statement; the end of a function that holds one. -/
section
open Go Go.RowKit
def Cx.marked (c:Cx) (dn b:Nat):Cx:={ c with ds:={ ds:=⟨.collected b,#[]⟩ :: c.ds.ds,pin:=(dn,.pointer (some ⟨b,0,none⟩)) :: c.ds.pin } }
theorem LV {c:Cx} {dn b:Nat}:(c.marked dn b).tb=c.tb:=rfl
def RI (σ:St) (yn dn fr:Nat) (L:Go.Loop) (tm:Array Value):St:=⟨σ.env,(yn,.loop L) :: (dn,.dfr) :: (fr,.frame tm σ.env) :: σ.objs⟩
section
variable {c:Cx} {R:Exit→Act→World→Prop} {k:List EY} {σ:St}
/-! ### The end of a function that holds such a loop -/
end
end
/- The rules in their shortest form: what is reckoned is reckoned by themselves. -/
section
open Go Go.RowKit
section
variable {c:Cx} {R:Exit→Act→World→Prop} {k:List EY} {σ σ':St}
theorem rP (lv:List Nat) (hc:c.Ok) {id:Nat} {l:List Oper} {vc:Prop} (hvc:vc) (hk:Ev c R (.out .normal) k σ') (h0:(l.all fun o=>o.guard.isNone)=true:=by rfl)
  (h:DP lv (Bd c.tb l l σ)=some (vc,σ'):=by simp only[go_sem,Nat.reduceEqDiff,reduceCtorEq,Nat.reduceAdd,Nat.reduceSub,Nat.reduceMul,Nat.reduceLeDiff,Nat.reduceLT,Int.reduceLE,Int.reduceToNat,Int.reduceNeg,↓reduceIte];rfl):Ev c R (.run (.region id l.toArray false)) k σ:=QO lv hc h0 h hvc hk
theorem rC {o:Operand} {x y:Code} {b:Bool} {p q:Prop} (ht:p→Ev c R (.run x) k σ) (hf:q→Ev c R (.run y) k σ) (h:Ap σ o=some (.p .bool b):=by simp only[go_sem,Nat.reduceEqDiff,reduceCtorEq,Nat.reduceAdd,Nat.reduceSub,Nat.reduceMul,Nat.reduceLeDiff,Nat.reduceLT,Int.reduceLE,Int.reduceToNat,Int.reduceNeg,↓reduceIte];rfl)
  (hp:(b=true)=p:=by first|(simp only[decide_eq_true_eq,decide_eq_false_iff_not,Bool.and_eq_true,Bool.or_eq_true,Bool.and_eq_false_imp,Bool.or_eq_false_iff,Bool.not_eq_true',Bool.not_eq_false',beq_iff_eq,beq_eq_false_iff_ne,bne_iff_ne,Bool.not_eq_eq_eq_not,Bool.not_true,Bool.not_false,Int.not_lt,Int.not_le,ne_eq];rfl)|rfl) (hq:(b=false)=q:=by first|(simp only[decide_eq_true_eq,decide_eq_false_iff_not,Bool.and_eq_true,Bool.or_eq_true,Bool.and_eq_false_imp,Bool.or_eq_false_iff,Bool.not_eq_true',Bool.not_eq_false',beq_iff_eq,beq_eq_false_iff_ne,bne_iff_ne,Bool.not_eq_eq_eq_not,Bool.not_true,Bool.not_false,Int.not_lt,Int.not_le,ne_eq];rfl)|rfl):Ev c R (.run (.cond o x y)) k σ :=
 rV h (fun e=>ht (hp▸e)) (fun e=>hf (hq▸e))
theorem rL (lv:List Nat) (hc:c.Ok) {ops:List Oper} {l:List Oper} {vc:Prop} (hvc:vc) (hk:Ev c R (.out .normal) k σ') (h:DP lv (Bd c.tb ops l σ)=some (vc,σ'):=by simp only[go_sem,Nat.reduceEqDiff,reduceCtorEq,Nat.reduceAdd,Nat.reduceSub,Nat.reduceMul,Nat.reduceLeDiff,Nat.reduceLT,Int.reduceLE,Int.reduceToNat,Int.reduceNeg,↓reduceIte];rfl):QM c R k ops.toArray l σ:=Nr lv hc h hvc hk
theorem rN (n:Nat) (hc:c.Ok) {ops:List Oper} {l:List Oper} {vc:Prop} (hvc:vc) (hk:QM c R k ops.toArray (l.drop n) σ') (h:Bd c.tb ops (l.take n) σ=some (vc,σ'):=by simp only[List.take_succ_cons,List.take_zero,go_sem,Nat.reduceEqDiff,reduceCtorEq,Nat.reduceAdd,Nat.reduceSub,Nat.reduceMul,Nat.reduceLeDiff,Nat.reduceLT,Int.reduceLE,Int.reduceToNat,Int.reduceNeg,↓reduceIte];rfl):QM c R k ops.toArray l σ:=RF hc n (by simpa using h) hvc hk
theorem cP (n:Nat) (hc:c.Ok) {id:Nat} {l:List Oper} {vc:Prop} (hvc:vc) (hk:QM c R k l.toArray (l.drop n) σ') (h0:(l.all fun o=>o.guard.isNone)=true:=by rfl) (h:Bd c.tb l (l.take n) σ=some (vc,σ'):=by simp only[List.take_succ_cons,List.take_zero,go_sem,Nat.reduceEqDiff,reduceCtorEq,Nat.reduceAdd,Nat.reduceSub,Nat.reduceMul,Nat.reduceLeDiff,Nat.reduceLT,Int.reduceLE,Int.reduceToNat,Int.reduceNeg,↓reduceIte];rfl) :
  Ev c R (.run (.region id l.toArray false)) k σ:=sK hc n h0 h hvc hk
theorem rM (hc:c.Ok) {ops:Array Oper} {rest:List Oper} {dst:Option Nat} {g:Operand} {xs:List Operand} {ts:Array TypeId} {ty:TypeId} {pos:String} {after:Array Edge}
  {f:FuncId} {capn:List Nat} {as:List AV} {A:List AV} {objs:List (Nat×Obj)} {stay:List Nat} {post:AV→List (Nat×Obj)→Prop} (hM:FI c.P f A objs stay post)
  (ren:List (Nat×B7)) (hs:List Nat) (hA:BW σ ren (as++capn.map fun n=>AV.bp n [] 0) A) (hO:Au σ.objs ren objs)
  (hk:∀res objs',post res objs'→∃(ren2:List (Nat×B7)) (res2:AV) (objs2:List (Nat×Obj)),Cu ren2=true∧DZ objs2 ren2=true∧Au objs' ren2 objs2∧CB ren2 res res2 ∧
   Nq ren ren2 stay hs=true∧Hz (Av ren) objs2 σ.objs=true∧QM c R k ops rest (EO σ (Av ren) hs dst res2 objs2))
  (hg:Cj (Ap σ g)=some (f,capn):=by simp only[go_sem,Nat.reduceEqDiff,reduceCtorEq,Nat.reduceAdd,Nat.reduceSub,Nat.reduceMul,Nat.reduceLeDiff,Nat.reduceLT,Int.reduceLE,Int.reduceToNat,Int.reduceNeg,↓reduceIte];rfl) (has:JF σ xs=some as:=by simp only[go_sem,Nat.reduceEqDiff,reduceCtorEq,Nat.reduceAdd,Nat.reduceSub,Nat.reduceMul,Nat.reduceLeDiff,Nat.reduceLT,Int.reduceLE,Int.reduceToNat,Int.reduceNeg,↓reduceIte];rfl)
  (h1:Cu ren=true:=by rfl) (h2:DZ objs ren=true:=by rfl) (hpin:(c.ds.pin.all fun p=>!AZ p.1 hs)=true:=by rfl) :
  QM c R k ops (⟨dst,.call ⟨.value g,xs.toArray,ts⟩,ty,pos,after,none⟩ :: rest) σ:=sJ hc hg has hM ren hs h1 h2 hpin hA hO hk
end
end
/- Code with labels that nothing jumps to: a scope, a label. -/
section
open Go Go.RowKit
section
variable {P:Program} {b:Frame} {a:Act} {k:List Item} {cs:List Frame} {w:World}
end
section
variable {c:Cx} {R:Exit→Act→World→Prop} {k:List EY} {σ:St}
end
end
/- Several steps of control in one. -/
section
open Go Go.RowKit
def e8:d9→List EY→Option (d9×List EY)
 | .run (.seq x y),k=>some (.run x,.seq y :: k)
 | .run .skip,k=>some (.out .normal,k)
 | .run .ret,k=>some (.out .ret,k)
 | .run (.exit id),k=>some (.out (.exit id),k)
 | .run (.block id b),k=>some (.run b,.blk id :: k)
 | .out .normal,.seq y :: k=>some (.run y,k)
 | .out .normal,.blk _ :: k=>some (.out .normal,k)
 | .out (.exit id),.seq _ :: k=>some (.out (.exit id),k)
 | .out (.exit id'),.blk id :: k=>if id'=id then some (.out .normal,k) else some (.out (.exit id'),k)
 | .out (.exit id),.inv _ :: k=>some (.out (.exit id),k)
 | .out .ret,.seq _ :: k=>some (.out .ret,k)
 | .out .ret,.blk _ :: k=>some (.out .ret,k)
 | .out .ret,.inv _ :: k=>some (.out .ret,k)
 | _,_=>none
def SO:Nat→d9→List EY→d9×List EY
 | 0,n,k=>(n,k)
 | m+1,n,k=>match e8 n k with
  | some (n',k')=>SO m n' k'
  | none=>(n,k)
def e9 (n:d9) (k:List EY):Option (d9×List EY):=match e8 n k with
 | some (n',k')=>some (SO 200 n' k')
 | none=>none
section
variable {c:Cx} {R:Exit→Act→World→Prop} {σ:St}
theorem YN {n n':d9} {k k':List EY} (e:e8 n k=some (n',k')) (h:Ev c R n' k' σ):Ev c R n k σ:=by
 unfold e8 at e
 split at e<;>first
  | (cases e;done)
  | (split at e<;>(cases e;first|(rename_i hid;rw[hid];exact aK h)|exact aL (by assumption) h))
  | (cases e;first|exact A21 h|exact yB h|exact A22 h|exact yC h|exact rS h|exact aE h|exact aG h|exact Xx h|exact Xy h|exact aF h|exact aH h|exact aI h)
theorem Up:∀(m:Nat) {n:d9} {k:List EY},Ev c R (SO m n k).1 (SO m n k).2 σ→Ev c R n k σ
 | 0,_,_,h=>h
 | m+1,n,k,h=>by
  unfold SO at h
  split at h
  ·rename_i n' k' e
   exact YN e (Up m h)
  ·exact h
theorem eS {n n':d9} {k k':List EY} (e:e9 n k=some (n',k')) (h:Ev c R n' k' σ):Ev c R n k σ:=by
 unfold e9 at e
 split at e
 ·rename_i n1 k1 e1
  refine YN e1 (Up 200 ?_)
  have:=Option.some.inj e
  rw[this]
  exact h
 ·cases e
end
inductive RX (c:Cx) (lv:List Nat) (σ:St) (vc:Prop) (σ':St):Array Oper→Bool→Prop
 | p {l:List Oper} (h0:(l.all fun o=>o.guard.isNone)=true) (h:DP lv (Bd c.tb l l σ)=some (vc,σ')):RX c lv σ vc σ' l.toArray false
 | a {l:List Oper} (h0:n6 l l.length=true) (h:DP lv (KL c.tb l true σ.objs [] l 0 [] [] σ)=some (vc,σ')):RX c lv σ vc σ' l.toArray false
 | d {l:List Oper} (h0:Ni l l.length=true) (hm:c.P.follows .mixedOrders=true) (h:DP lv (KL c.tb l false σ.objs [] l 0 [] [] σ)=some (vc,σ')):RX c lv σ vc σ' l.toArray true
 | t {l:List Oper} (m:Nat) (h0:Ni l (l.take (l.length-m)).length=true) (hm:c.P.follows .mixedOrders=true) (h:DP lv (KL c.tb l false σ.objs (l.drop (l.length-m)) (l.take (l.length-m)) 0 [] [] σ)=some (vc,σ')):RX c lv σ vc σ' l.toArray true
theorem A30 {c:Cx} {R:Exit→Act→World→Prop} {k:List EY} {σ σ':St} {lv:List Nat} (hc:c.Ok) {id:Nat} {ops:Array Oper} {dr:Bool} {vc:Prop} (hvc:vc) (hk:Ev c R (.out .normal) k σ') (h:RX c lv σ vc σ' ops dr):Ev c R (.run (.region id ops dr)) k σ:=by
 cases h with
 | p h0 h=>exact QO lv hc h0 h hvc hk
 | a h0 h=>exact YD lv hc h0 h hvc hk
 | d h0 hm h=>exact oB lv hm hc h0 h hvc hk
 | t m h0 hm h=>exact oC lv m hm hc h0 h hvc hk
theorem rX {c:Cx} {R:Exit→Act→World→Prop} {k:List EY} {σ σ':St} (lv:List Nat) (hc:c.Ok) {id:Nat} {ops:Array Oper} {dr:Bool} {vc:Prop} (hvc:vc) (hk:Ev c R (.out .normal) k σ')
  (h:RX c lv σ vc σ' ops dr:=by
   first
   | exact .p rfl (by simp only[go_sem,Nat.reduceEqDiff,reduceCtorEq,Nat.reduceAdd,Nat.reduceSub,Nat.reduceMul,Nat.reduceLeDiff,Nat.reduceLT,Int.reduceLE,Int.reduceToNat,Int.reduceNeg,↓reduceIte];rfl)
   | exact .a (by kernel_rfl) (by simp only[go_sem,Nat.reduceEqDiff,reduceCtorEq,Nat.reduceAdd,Nat.reduceSub,Nat.reduceMul,Nat.reduceLeDiff,Nat.reduceLT,Int.reduceLE,Int.reduceToNat,Int.reduceNeg,↓reduceIte];rfl)
   | exact .d (by kernel_rfl) (by exact drawsAny) (by simp only[go_sem,Nat.reduceEqDiff,reduceCtorEq,Nat.reduceAdd,Nat.reduceSub,Nat.reduceMul,Nat.reduceLeDiff,Nat.reduceLT,Int.reduceLE,Int.reduceToNat,Int.reduceNeg,↓reduceIte];rfl)
   | exact .t 1 (by kernel_rfl) (by exact drawsAny) (by simp only[List.take_succ_cons,List.drop_succ_cons,List.take_zero,List.drop_zero,go_sem,Nat.reduceEqDiff,reduceCtorEq,Nat.reduceAdd,Nat.reduceSub,Nat.reduceMul,Nat.reduceLeDiff,Nat.reduceLT,Int.reduceLE,Int.reduceToNat,Int.reduceNeg,↓reduceIte];rfl)
   | exact .t 2 (by kernel_rfl) (by exact drawsAny) (by simp only[List.take_succ_cons,List.drop_succ_cons,List.take_zero,List.drop_zero,go_sem,Nat.reduceEqDiff,reduceCtorEq,Nat.reduceAdd,Nat.reduceSub,Nat.reduceMul,Nat.reduceLeDiff,Nat.reduceLT,Int.reduceLE,Int.reduceToNat,Int.reduceNeg,↓reduceIte];rfl)
   | exact .t 3 (by kernel_rfl) (by exact drawsAny) (by simp only[List.take_succ_cons,List.drop_succ_cons,List.take_zero,List.drop_zero,go_sem,Nat.reduceEqDiff,reduceCtorEq,Nat.reduceAdd,Nat.reduceSub,Nat.reduceMul,Nat.reduceLeDiff,Nat.reduceLT,Int.reduceLE,Int.reduceToNat,Int.reduceNeg,↓reduceIte];rfl)):Ev c R (.run (.region id ops dr)) k σ:=A30 hc hvc hk h
/-! What is reckoned, in one word -/
theorem eN {p:Prop} (h:p:=by simp only[go_sem,Nat.reduceEqDiff,reduceCtorEq,Nat.reduceAdd,Nat.reduceSub,Nat.reduceMul,Nat.reduceLeDiff,Nat.reduceLT,Int.reduceLE,Int.reduceToNat,Int.reduceNeg,↓reduceIte]<;>fail):p:=h
theorem eM {p q:Prop} (hq:q) (h:p=q:=by simp only[go_sem,Nat.reduceEqDiff,reduceCtorEq,Nat.reduceAdd,Nat.reduceSub,Nat.reduceMul,Nat.reduceLeDiff,Nat.reduceLT,Int.reduceLE,Int.reduceToNat,Int.reduceNeg,↓reduceIte];rfl):p:=h▸hq
theorem eR {p:Prop} (h:p:=by simp only[Nb,KG,I7,LJ,LK,I8,IR,go_sem,Nat.reduceEqDiff,reduceCtorEq,Nat.reduceAdd,Nat.reduceSub,Nat.reduceMul,Nat.reduceLeDiff,Nat.reduceLT,Int.reduceLE,Int.reduceToNat,Int.reduceNeg,↓reduceIte]<;>fail):p:=h
theorem Ax {p q:Prop} (hq:q) (h:p=q:=by simp only[Nb,KG,I7,LJ,LK,I8,IR,go_sem,Nat.reduceEqDiff,reduceCtorEq,Nat.reduceAdd,Nat.reduceSub,Nat.reduceMul,Nat.reduceLeDiff,Nat.reduceLT,Int.reduceLE,Int.reduceToNat,Int.reduceNeg,↓reduceIte];rfl):p:=h▸hq
theorem eV {p:Prop} (h:p:=by (try dsimp only[Ty.den]at *)<;>(repeat'(first|apply And.intro|intro _))<;>omega):p:=h
end
/- A call by contract under a guard that holds. -/
section
open Go Go.RowKit
section
variable {c:Cx} {R:Exit→Act→World→Prop} {k:List EY} {σ σ':St}
theorem s4 (hc:c.Ok) {id:Nat} {l:List Oper} (n:Nat) {vc:Prop} (h:Bd c.tb l (l.take n) σ=some (vc,σ')) (hvc:vc) (hk:QM c R k l.toArray (l.drop n) σ') :
  Ev c R (.run (.region id l.toArray false)) k σ:=by
 intro h1 h2 a w hs
 simp only[KF,CZ,List.all_eq_true]at h1
 exact wpIn_region_list (RF hc n (by simpa using h) hvc hk (fun o ho=>h1 o ho) h2 a w hs)
theorem oK (hc:c.Ok) {ops:Array Oper} {rest:List Oper} {dst:Option Nat} {g:Operand} {xs:List Operand} {ts:Array TypeId} {ty:TypeId} {pos:String} {after:Array Edge} {gd:Option (Nat×Bool)}
  (hgd:D8 ops.toList σ gd=some true)
  {f:FuncId} {capn:List Nat} (hg:Cj (Ap σ g)=some (f,capn)) {as:List AV} (has:JF σ xs=some as)
  {A:List AV} {objs:List (Nat×Obj)} {stay:List Nat} {post:AV→List (Nat×Obj)→Prop} (hM:FI c.P f A objs stay post)
  (ren:List (Nat×B7)) (hs:List Nat) (h1:Cu ren=true) (h2:DZ objs ren=true) (hpin:(c.ds.pin.all fun p=>!AZ p.1 hs)=true) (hA:BW σ ren (as++capn.map fun n=>AV.bp n [] 0) A) (hO:Au σ.objs ren objs)
  (hk:∀res objs',post res objs'→∃(ren2:List (Nat×B7)) (res2:AV) (objs2:List (Nat×Obj)),Cu ren2=true∧DZ objs2 ren2=true∧Au objs' ren2 objs2∧CB ren2 res res2 ∧
   Nq ren ren2 stay hs=true∧Hz (Av ren) objs2 σ.objs=true∧QM c R k ops rest (EO σ (Av ren) hs dst res2 objs2)) :
  QM c R k ops (⟨dst,.call ⟨.value g,xs.toArray,ts⟩,ty,pos,after,gd⟩ :: rest) σ:=by
 intro hd hko a w hsat
 unfold wpListIn
 rw[if_pos (GZ (o:=⟨dst,.call ⟨.value g,xs.toArray,ts⟩,ty,pos,after,gd⟩) hsat hgd)]
 refine WS hc (xs:=xs) (ts:=ts) rfl rfl hg has hM ren h1 h2 hA hO hs hpin hsat (Ct (hd _ (by simp))) fun res objs' hp=>?_
 obtain⟨ren2,res2,objs2,g1,g2,g3,g4,g5,g6,hE⟩:=hk res objs' hp
 exact⟨ren2,res2,objs2,g1,g2,g3,g4,g5,g6,fun a' w' hs'=>hE (fun o ho=>hd o (by simp[ho])) hko a' w' hs'⟩
end
end
/- The rules of mixed and guarded regions in their shortest form. -/
section
open Go Go.RowKit
section
variable {c:Cx} {ops:List Oper} {Kf:St→Prop} {τ:St} {ens:EN} {vc:Prop}
theorem Uq {A D:List Nat} {l:Nat} {ps:List (List Nat×Nat)} {o:Oper} {σ1:St} {ens1:EN} (hvc:vc) (hL:Qy c o σ1 ens1 (fun τ'=>sL c ops Kf ps D ens1 τ')) (h:aX c.tb ops τ.objs (A++qs ps D) [] τ.env=some (vc,ens):=by simp only[go_sem,Nat.reduceEqDiff,reduceCtorEq,Nat.reduceAdd,Nat.reduceSub,Nat.reduceMul,Nat.reduceLeDiff,Nat.reduceLT,Int.reduceLE,Int.reduceToNat,Int.reduceNeg,↓reduceIte];rfl) (hfr:O3 ens τ.objs=true:=by rfl) (ho:ops[l]?=some o:=by rfl)
  (hσ:KO (ens.take A.length) τ=σ1:=by simp only[go_sem,Nat.reduceEqDiff,reduceCtorEq,Nat.reduceAdd,Nat.reduceSub,Nat.reduceMul,Nat.reduceLeDiff,Nat.reduceLT,Int.reduceLE,Int.reduceToNat,Int.reduceNeg,↓reduceIte];rfl) (he:ens.drop A.length=ens1:=by simp only[go_sem,Nat.reduceEqDiff,reduceCtorEq,Nat.reduceAdd,Nat.reduceSub,Nat.reduceMul,Nat.reduceLeDiff,Nat.reduceLT,Int.reduceLE,Int.reduceToNat,Int.reduceNeg,↓reduceIte];rfl):sL c ops Kf ((A,l) :: ps) D ens τ:=sZ h hvc hfr ho hσ he hL
theorem qN {R:Exit→Act→World→Prop} {k:List EY} {σ':St} (lv:List Nat) (hc:c.Ok) {D:List Nat} {l:List Oper} {vc2:Prop} (hvc:vc) (hvc2:vc2) (hk:Ev c R (.out .normal) k σ') (h:aX c.tb ops τ.objs D [] τ.env=some (vc,ens):=by simp only[go_sem,Nat.reduceEqDiff,reduceCtorEq,Nat.reduceAdd,Nat.reduceSub,Nat.reduceMul,Nat.reduceLeDiff,Nat.reduceLT,Int.reduceLE,Int.reduceToNat,Int.reduceNeg,↓reduceIte];rfl) (hfr:O3 ens τ.objs=true:=by rfl)
  (h2:DP lv (Bd c.tb ops l (KO ens τ))=some (vc2,σ'):=by simp only[go_sem,Nat.reduceEqDiff,reduceCtorEq,Nat.reduceAdd,Nat.reduceSub,Nat.reduceMul,Nat.reduceLeDiff,Nat.reduceLT,Int.reduceLE,Int.reduceToNat,Int.reduceNeg,↓reduceIte];rfl):sL c ops (fun τ=>QM c R k ops.toArray l τ) [] D ens τ:=sY h hvc hfr (Nr lv hc h2 hvc2 hk)
end
section
variable {c:Cx} {o:Oper} {σ:St} {ens:EN} {N:St→Prop} {R:Exit→Act→World→Prop} {k:List EY} {σ':St}
theorem fA (hc:c.Ok) {τ:St} {vc:Prop} (ns:List Nat) (hvc:vc) (hN:N τ) (h:FC c.tb o σ=some (vc,τ):=by simp only[go_sem,Nat.reduceEqDiff,reduceCtorEq,Nat.reduceAdd,Nat.reduceSub,Nat.reduceMul,Nat.reduceLeDiff,Nat.reduceLT,Int.reduceLE,Int.reduceToNat,Int.reduceNeg,↓reduceIte];rfl) (hns:tn σ o.op=ns:=by simp only[go_sem,Nat.reduceEqDiff,reduceCtorEq,Nat.reduceAdd,Nat.reduceSub,Nat.reduceMul,Nat.reduceLeDiff,Nat.reduceLT,Int.reduceLE,Int.reduceToNat,Int.reduceNeg,↓reduceIte]) (hsl:H6 o ens=true:=by rfl) (hn:Fi ns σ.objs ens=true:=by rfl) (hfr:MA τ.objs ens=true:=by rfl)
  (hf:GR ns ens=ens:=by simp only[go_sem,Nat.reduceEqDiff,reduceCtorEq,Nat.reduceAdd,Nat.reduceSub,Nat.reduceMul,Nat.reduceLeDiff,Nat.reduceLT,Int.reduceLE,Int.reduceToNat,Int.reduceNeg,↓reduceIte]) (hd:GQ c.nt o=true:=by rfl):Qy c o σ ens N:=Uo hc ns h hns hsl hn hfr hf hd hvc hN
theorem mxF (m:Nat) (hc:c.Ok) {τ σ1:St} {vc:Prop} (ns:List Nat) (hvc:vc) (hN:N σ1) (h:FC c.tb o σ=some (vc,τ):=by simp only[go_sem,Nat.reduceEqDiff,reduceCtorEq,Nat.reduceAdd,Nat.reduceSub,Nat.reduceMul,Nat.reduceLeDiff,Nat.reduceLT,Int.reduceLE,Int.reduceToNat,Int.reduceNeg,↓reduceIte];rfl) (hns:tn σ o.op=ns:=by simp only[go_sem,Nat.reduceEqDiff,reduceCtorEq,Nat.reduceAdd,Nat.reduceSub,Nat.reduceMul,Nat.reduceLeDiff,Nat.reduceLT,Int.reduceLE,Int.reduceToNat,Int.reduceNeg,↓reduceIte]) (hsl:H6 o ens=true:=by rfl) (hn:Fi ns σ.objs ens=true:=by rfl) (hfr:MA τ.objs ens=true:=by rfl)
  (hf:GR ns ens=ens:=by simp only[go_sem,Nat.reduceEqDiff,reduceCtorEq,Nat.reduceAdd,Nat.reduceSub,Nat.reduceMul,Nat.reduceLeDiff,Nat.reduceLT,Int.reduceLE,Int.reduceToNat,Int.reduceNeg,↓reduceIte]) (hd:GQ c.nt o=true:=by rfl) (hn2:Fi [m] τ.objs ens=true:=by rfl) (hf2:GR [m] ens=ens:=by simp only[go_sem,Nat.reduceEqDiff,reduceCtorEq,Nat.reduceAdd,Nat.reduceSub,Nat.reduceMul,Nat.reduceLeDiff,Nat.reduceLT,Int.reduceLE,Int.reduceToNat,Int.reduceNeg,↓reduceIte]) (hz:frz m τ=σ1:=by simp only[go_sem,Nat.reduceEqDiff,reduceCtorEq,Nat.reduceAdd,Nat.reduceSub,Nat.reduceMul,Nat.reduceLeDiff,Nat.reduceLT,Int.reduceLE,Int.reduceToNat,Int.reduceNeg,↓reduceIte];rfl):Qy c o σ ens N:=sW m (Uo hc ns h hns hsl hn hfr hf hd hvc rfl) hn2 hf2 hz hN
theorem mxC (hc:c.Ok) {dst:Option Nat} {g:Operand} {xs:List Operand} {ts:Array TypeId} {ty:TypeId} {pos:String} {after:Array Edge} {f:FuncId} {capn:List Nat} {as:List AV}
  {A:List AV} {objs:List (Nat×Obj)} {stay:List Nat} {post:AV→List (Nat×Obj)→Prop} (hM:FI c.P f A objs stay post) (ren:List (Nat×B7)) (hs:List Nat)
  (hA:BW σ ren (as++capn.map fun n=>AV.bp n [] 0) A) (hO:Au σ.objs ren objs)
  (hk:∀res objs',post res objs'→∃(ren2:List (Nat×B7)) (res2:AV) (objs2:List (Nat×Obj)),Cu ren2=true∧DZ objs2 ren2=true∧Au objs' ren2 objs2∧CB ren2 res res2 ∧
   Nq ren ren2 stay hs=true∧Hz (Av ren) objs2 σ.objs=true∧MA objs2 ens=true∧N (EO σ (Av ren) hs dst res2 objs2))
  (hg:Cj (Ap σ g)=some (f,capn):=by simp only[go_sem,Nat.reduceEqDiff,reduceCtorEq,Nat.reduceAdd,Nat.reduceSub,Nat.reduceMul,Nat.reduceLeDiff,Nat.reduceLT,Int.reduceLE,Int.reduceToNat,Int.reduceNeg,↓reduceIte];rfl) (has:JF σ xs=some as:=by simp only[go_sem,Nat.reduceEqDiff,reduceCtorEq,Nat.reduceAdd,Nat.reduceSub,Nat.reduceMul,Nat.reduceLeDiff,Nat.reduceLT,Int.reduceLE,Int.reduceToNat,Int.reduceNeg,↓reduceIte];rfl) (h1:Cu ren=true:=by rfl) (h2:DZ objs ren=true:=by rfl) (hpin:(c.ds.pin.all fun p=>!AZ p.1 hs)=true:=by rfl)
  (hsl:H6 ⟨dst,.call ⟨.value g,xs.toArray,ts⟩,ty,pos,after,none⟩ ens=true:=by rfl) (hn:Fi (Av ren) σ.objs ens=true:=by rfl) (hf:GR hs ens=ens:=by simp only[go_sem,Nat.reduceEqDiff,reduceCtorEq,Nat.reduceAdd,Nat.reduceSub,Nat.reduceMul,Nat.reduceLeDiff,Nat.reduceLT,Int.reduceLE,Int.reduceToNat,Int.reduceNeg,↓reduceIte]) (hd:GQ c.nt ⟨dst,.call ⟨.value g,xs.toArray,ts⟩,ty,pos,after,none⟩=true:=by rfl) :
  Qy c ⟨dst,.call ⟨.value g,xs.toArray,ts⟩,ty,pos,after,none⟩ σ ens N:=oJ hc hg has hM ren hs h1 h2 hpin hsl hn hf hd hA hO hk
theorem evP (hc:c.Ok) {id:Nat} {l:List Oper} (n:Nat) {vc:Prop} (hvc:vc) (hk:QM c R k l.toArray (l.drop n) σ') (h:Bd c.tb l (l.take n) σ=some (vc,σ'):=by simp only[List.take_succ_cons,List.take_zero,go_sem,Nat.reduceEqDiff,reduceCtorEq,Nat.reduceAdd,Nat.reduceSub,Nat.reduceMul,Nat.reduceLeDiff,Nat.reduceLT,Int.reduceLE,Int.reduceToNat,Int.reduceNeg,↓reduceIte];rfl):Ev c R (.run (.region id l.toArray false)) k σ:=s4 hc n h hvc hk
theorem clG (hc:c.Ok) {ops:Array Oper} {rest:List Oper} {dst:Option Nat} {g:Operand} {xs:List Operand} {ts:Array TypeId} {ty:TypeId} {pos:String} {after:Array Edge} {gd:Option (Nat×Bool)} {f:FuncId} {capn:List Nat} {as:List AV}
  {A:List AV} {objs:List (Nat×Obj)} {stay:List Nat} {post:AV→List (Nat×Obj)→Prop} (hM:FI c.P f A objs stay post) (ren:List (Nat×B7)) (hs:List Nat) (hA:BW σ ren (as++capn.map fun n=>AV.bp n [] 0) A) (hO:Au σ.objs ren objs)
  (hk:∀res objs',post res objs'→∃(ren2:List (Nat×B7)) (res2:AV) (objs2:List (Nat×Obj)),Cu ren2=true∧DZ objs2 ren2=true∧Au objs' ren2 objs2∧CB ren2 res res2 ∧
   Nq ren ren2 stay hs=true∧Hz (Av ren) objs2 σ.objs=true∧QM c R k ops rest (EO σ (Av ren) hs dst res2 objs2))
  (hgd:D8 ops.toList σ gd=some true:=by simp only[go_sem,Nat.reduceEqDiff,reduceCtorEq,Nat.reduceAdd,Nat.reduceSub,Nat.reduceMul,Nat.reduceLeDiff,Nat.reduceLT,Int.reduceLE,Int.reduceToNat,Int.reduceNeg,↓reduceIte]) (hg:Cj (Ap σ g)=some (f,capn):=by simp only[go_sem,Nat.reduceEqDiff,reduceCtorEq,Nat.reduceAdd,Nat.reduceSub,Nat.reduceMul,Nat.reduceLeDiff,Nat.reduceLT,Int.reduceLE,Int.reduceToNat,Int.reduceNeg,↓reduceIte];rfl) (has:JF σ xs=some as:=by simp only[go_sem,Nat.reduceEqDiff,reduceCtorEq,Nat.reduceAdd,Nat.reduceSub,Nat.reduceMul,Nat.reduceLeDiff,Nat.reduceLT,Int.reduceLE,Int.reduceToNat,Int.reduceNeg,↓reduceIte];rfl) (h1:Cu ren=true:=by rfl) (h2:DZ objs ren=true:=by rfl) (hpin:(c.ds.pin.all fun p=>!AZ p.1 hs)=true:=by rfl) :
  QM c R k ops (⟨dst,.call ⟨.value g,xs.toArray,ts⟩,ty,pos,after,gd⟩ :: rest) σ:=oK hc hgd hg has hM ren hs h1 h2 hpin hA hO hk
theorem Gb (l:List Nat) {n:d9} {σ1:St} (hk:Ev c R n k σ1) (h:CO l σ=σ1:=by simp only[go_sem,Nat.reduceEqDiff,reduceCtorEq,Nat.reduceAdd,Nat.reduceSub,Nat.reduceMul,Nat.reduceLeDiff,Nat.reduceLT,Int.reduceLE,Int.reduceToNat,Int.reduceNeg,↓reduceIte];rfl):Ev c R n k σ:=Ev.ent hk (eF l h fun _ _ h=>h)
theorem A64 (l:List Nat) {σ1:St} (he:yA c σ1 σ') (h:CO l σ=σ1:=by simp only[go_sem,Nat.reduceEqDiff,reduceCtorEq,Nat.reduceAdd,Nat.reduceSub,Nat.reduceMul,Nat.reduceLeDiff,Nat.reduceLT,Int.reduceLE,Int.reduceToNat,Int.reduceNeg,↓reduceIte];rfl):yA c σ σ':=eF l h he
end
theorem eT {p:Prop} (h:p:=by simp only[eO,sG,R7,YC,I7,LJ,I8,go_sem,Nat.reduceEqDiff,reduceCtorEq,Nat.reduceAdd,Nat.reduceSub,Nat.reduceMul,Nat.reduceLeDiff,Nat.reduceLT,Int.reduceLE,Int.reduceToNat,Int.reduceNeg,↓reduceIte]<;>fail):p:=h
end
/- append to a nested array's row in the midst of a statement: what looks at the rows from outside may float around it. -/
section
open Go Go.RowKit
structure SP (X σ:St) (n:Nat):Prop where
 env:∀s v,lk s X.env=some v→v.trn n []=v
 arr:∀m o,lk m X.objs=some o→KQ o=true
 new:∀m o,lk m X.objs=some o→lk m σ.objs=none
 nm:∀m o,lk m X.objs=some o→m≠n
section
variable {σ σ' X:St} {n:Nat}
theorem SP.obs (hx:Lx σ σ' X) (ha:SP X σ n):XY σ σ':=by
 intro m o hn
 rw[hx.objs]
 cases hX:lk m X.objs with
 | none=>exact hn
 | some o'=>rw[ha.new m o' hX]at hn;cases hn
theorem A65 (hx:Lx σ σ' X) (ha:SP X σ n) {en:List (Nat×AV)} {new:List (Nat×Obj)} (hd:∀s v,lk s en=some v→lk s X.env=none) (hnn:∀m o,lk m new=some o→lk m X.objs=none) :
  Lx ⟨en++Dg n [] σ.env,new++B9 n [] σ.objs⟩ ⟨en++Dg n [] σ'.env,new++B9 n [] σ'.objs⟩ X:=by
 refine⟨fun s=>?_,fun m=>?_⟩
 ·simp only[Ar]
  cases hs:lk s en with
  | some v=>rw[hd s v hs];rfl
  | none =>
   rw[Eu,Eu,hx.env]
   cases hX:lk s X.env with
   | none=>rfl
   | some w=>simp[ha.env s w hX]
 ·simp only[Ar]
  cases hm:lk m new with
  | some o=>rw[hnn m o hm];rfl
  | none =>
   rw[Cs,Cs,hx.objs]
   cases hX:lk m X.objs with
   | none=>rfl
   | some w =>
    rw[if_neg fun h=>ha.nm m w hX (by simpa using (Ae _ _).1 h)]
    exact congrArg some (Un (ha.arr m w hX))
def bC (σ:St):Op→Option Nat
 | .call c=>match c.callee,c.args.toList,c.argTypes.toList with
  | .builtin .append,[x,_],[_,_]=>(match Ap σ x with|some (.nin n _ _ _)=>some n|_=>none)
  | _,_,_=>none
 | _=>none
theorem yK {tb:Tb} {op:Op} {d:Option Nat} {vc:Prop} {τ:St} (hx:Lx σ σ' X) (ha:SP X σ n) (hops:bA σ σ' op.operands.toList) (hnn:bC σ op=some n) (hd:∀t,d=some t→lk t X.env=none) (hXt:∀n,(∃u,lk n τ.objs=some u)→lk n X.objs=none) (h:Er tb σ d op=some (vc,τ)) :
  (∃τ',Er tb σ' d op=some (vc,τ')∧Lx τ τ' X)∧(∀k,aq tb σ' k op=none)∧(∀k,aq tb σ k op=none)∧Bv σ op=[]∧Bv σ' op=[]:=by
 have hobs:=ha.obs hx
 cases op<;>try(cases hnn;done)
 rename_i cl
 obtain⟨callee,⟨args⟩,⟨argTypes⟩⟩:=cl
 simp only[bC]at hnn
 split at hnn
 ·rename_i x y t u
  cases hxv:Ap σ x with
  | none=>rw[hxv]at hnn;cases hnn
  | some xv =>
   rw[hxv]at hnn
   cases xv<;>try(cases hnn;done)
   rename_i n' e i len
   cases hnn
   have hx1:Ap σ' x=Ap σ x:=hops x (by simp[Op.operands,Call.operands])
   have hy1:Ap σ' y=Ap σ y:=hops y (by simp[Op.operands,Call.operands])
   refine⟨?_,fun k=>by simp[aq,CU,Cd,CA,hx1,hxv],fun k=>by simp[aq,CU,Cd,CA,hxv],rfl,rfl⟩
   simp only[Er,Cf,Cy,hxv]at h
   simp only[Er,Cf,Cy,Ce,hx1,hxv,hy1]
   cases hyv:Ap σ y with
   | none=>rw[hyv]at h;unfold Ce at h;cases h
   | some v =>
    rw[hyv]at h
    simp only[Ce]at h
    split at h
    ·rename_i d'
     have hd':=hd d' rfl
     simp only
     split at h
     ·rename_i htu
      rw[if_pos htu]
      unfold L3 at h ⊢
      split at h
      ·rename_i e2 o2 el b2 htb
       try rw[htb]
       try simp only
       split at h
       ·rename_i hee
        rw[if_pos hee]
        unfold NC at h ⊢
        split at h
        ·rename_i ti et iet k e1 xs h1 hl
         try rw[h1]
         try rw[hobs _ _ hl]
         try simp only
         split at h
         ·rename_i hc
          rw[if_pos hc]
          unfold J5 at h ⊢
          split at h
          ·rename_i ys h3
           rw[Nf hobs h3]
           try simp only
           split at h
           ·rename_i hdn
            have hXd:lk d' X.objs=none:=by
             refine hXt d' ?_
             cases h
             exact⟨_,by simp only[lk,if_true];rfl⟩
            have hdn':(lk d' σ'.objs).isNone=true:=by rw[hx.objs,hXd];exact hdn
            rw[if_pos hdn']
            cases h
            refine⟨_,rfl,A65 (en:=[(d',_)]) (new:=[(d',_),(n,_)]) hx ha (fun s v h=>?_) (fun q o hq=>?_)⟩
            ·simp only[lk]at h
             split at h
             ·rename_i e1;rw[e1];exact hd'
             ·cases h
            ·simp only[lk]at hq
             split at hq
             ·rename_i e1;rw[e1];exact hXd
             ·split at hq
              ·rename_i e1
               rw[e1]
               cases hX:lk n X.objs with
               | none=>rfl
               | some w=>exact absurd rfl (ha.nm n w hX)
              ·cases hq
           ·cases h
          ·cases h
         ·cases h
        ·cases h
       ·cases h
      ·cases h
     ·cases h
    ·cases h
 ·cases hnn
end
def SQ (n:Nat):EN→EN
 | []=>[]
 | (d,v,obs) :: r=>(d,v.trn n [],obs) :: SQ n r
theorem SR {n:Nat}:∀ {ens:EN},SQ n ens=ens→∀e∈ens,e.2.1.trn n []=e.2.1
 | [],_,e,he=>by cases he
 | (d,v,obs) :: r,h,e,he=>by
  simp only[SQ,List.cons.injEq,Prod.mk.injEq,and_true,true_and]at h
  rcases List.mem_cons.1 he with rfl|he
  ·exact h.1
  ·exact SR h.2 e he
section
variable {c:Cx} {o:Oper} {σ:St} {ens:EN} {N:St→Prop}
theorem s5 (hc:c.Ok) {τ:St} {vc:Prop} (n:Nat) (h:FC c.tb o σ=some (vc,τ)) (hns:bC σ o.op=some n) (hsl:H6 o ens=true) (hn:Fi [n] σ.objs ens=true) (hfr:MA τ.objs ens=true) (hf:SQ n ens=ens) (hd:GQ c.nt o=true) (hvc:vc) (hN:N τ):Qy c o σ ens N:=by
 intro X σ' hx hin a w next Q hs hk
 have ha:SP X σ n:=by
  refine⟨fun s v hs=>?_,fun m o ho=>?_,fun m o ho=>?_,fun m o ho=>?_⟩
  ·obtain⟨obs,hm⟩:=hin.env s v hs
   exact SR hf _ hm
  all_goals
   obtain⟨e,he,hp⟩:=hin.objs m o ho
   have:=Ey hn e he _ hp
  ·exact this.2.2
  ·exact this.1
  ·exact fun e1=>this.2.1 (by simp[e1])
 have hXs:∀t∈F2 o.op,lk t X.env=none:=fun t ht=>by
  cases hX:lk t X.env with
  | none=>rfl
  | some v=>obtain⟨obs,hm⟩:=hin.env t v hX;exact absurd ht (Dx hsl _ hm).1
 have hXd:∀t,o.dst=some t→lk t X.env=none:=fun t ht=>by
  cases hX:lk t X.env with
  | none=>rfl
  | some v=>obtain⟨obs,hm⟩:=hin.env t v hX;exact absurd ht (Dx hsl _ hm).2
 have hXt:∀n,(∃u,lk n τ.objs=some u)→lk n X.objs=none:=fun n hu=>by
  cases hX:lk n X.objs with
  | none=>rfl
  | some v =>
   obtain⟨e,he,hp⟩:=hin.objs n v hX
   obtain⟨u,hu⟩:=hu
   rw[JJ hfr e he _ hp]at hu;cases hu
 have hops:=RG hx hXs
 have key:∃τ',FC c.tb o σ'=some (vc,τ')∧Lx τ τ' X:=by
  have hl:Bv σ o.op=[]∧Bv σ' o.op=[]:=by
   obtain⟨dst,op,ty,pos,after,gd⟩:=o
   simp only at hns ⊢
   cases op<;>first|exact⟨rfl,rfl⟩|cases hns
  unfold FC NF at h ⊢
  rw[hl.1]at h
  rw[hl.2]
  simp only[CO]at h ⊢
  cases hq:aq c.tb σ (o.dst.getD 0) o.op with
  | some r =>
   obtain⟨dst,op,ty,pos,after,gd⟩:=o
   simp only at hns hq
   exfalso
   cases op<;>try(cases hns;done)
   rename_i cl
   obtain⟨callee,⟨args⟩,⟨argTypes⟩⟩:=cl
   simp only[bC]at hns
   split at hns
   ·rename_i x y t u
    cases hxv:Ap σ x with
    | none=>rw[hxv]at hns;cases hns
    | some xv =>
     rw[hxv]at hns
     cases xv<;>try(cases hns;done)
     simp[aq,CU,Cd,CA,hxv]at hq
   ·cases hns
  | none =>
   rw[hq]at h
   simp only[Jj]at h
   obtain⟨⟨τ',h1,h2⟩,h3,_⟩:=yK hx ha hops hns hXd hXt h
   rw[h3]
   simp only[Jj]
   exact⟨τ',h1,h2⟩
 obtain⟨τ',h1,h2⟩:=key
 exact NZ hc hs h1 hvc (Ct hd) fun a' w' hs'=>hk τ hN a' w' τ' h2 hs'
theorem mxN (hc:c.Ok) {τ:St} {vc:Prop} (n:Nat) (hvc:vc) (hN:N τ) (h:FC c.tb o σ=some (vc,τ):=by simp only[go_sem,Nat.reduceEqDiff,reduceCtorEq,Nat.reduceAdd,Nat.reduceSub,Nat.reduceMul,Nat.reduceLeDiff,Nat.reduceLT,Int.reduceLE,Int.reduceToNat,Int.reduceNeg,↓reduceIte];rfl) (hns:bC σ o.op=some n:=by simp only[go_sem,Nat.reduceEqDiff,reduceCtorEq,Nat.reduceAdd,Nat.reduceSub,Nat.reduceMul,Nat.reduceLeDiff,Nat.reduceLT,Int.reduceLE,Int.reduceToNat,Int.reduceNeg,↓reduceIte]) (hsl:H6 o ens=true:=by rfl) (hn:Fi [n] σ.objs ens=true:=by rfl) (hfr:MA τ.objs ens=true:=by rfl)
  (hf:SQ n ens=ens:=by simp only[go_sem,Nat.reduceEqDiff,reduceCtorEq,Nat.reduceAdd,Nat.reduceSub,Nat.reduceMul,Nat.reduceLeDiff,Nat.reduceLT,Int.reduceLE,Int.reduceToNat,Int.reduceNeg,↓reduceIte]) (hd:GQ c.nt o=true:=by rfl):Qy c o σ ens N:=s5 hc n h hns hsl hn hfr hf hd hvc hN
end
end
end Go.Proofs.YtebfihindnhccaaGreat.Fw
