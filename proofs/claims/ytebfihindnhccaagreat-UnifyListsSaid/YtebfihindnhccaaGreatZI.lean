/- Range over a function; scopes; several steps in one. -/
/- Range over a function: a call of yield; a round; the statement; the end of a function that holds one. -/
import Derived.Test.YtebfihindnhccaaGreatZH
import Derived.RangeFuncFrom
import Derived.Scope
set_option linter.unusedVariables false
set_option linter.unusedSimpArgs false
section
namespace Go.Proofs.YtebfihindnhccaaGreat.Fw
open Go Go.RowKit
/-! ### A call of yield -/
section
variable {c:Cx} {R:Exit→Act→World→Prop} {k:List Kont} {σ:St}
def isYl (n:Nat):Option AV→Bool
 | some (.yl m)=>m == n
 | _=>false
end
/-! ### A round -/
def parEnv:List Nat→List AV→List (Nat×AV)→List (Nat×AV)
 | p :: ps,x :: xs,e=>parEnv ps xs ((p,x) :: e)
 | _,_,e=>e
def cY (P:Program) (tb:Tb) (w0:World) (K O0:Nat→Prop) (nt l:Nat) (pin:List (Nat×Value)):Cx:={ P:=P,tb:=tb,w0:=w0,K:=K,O0:=O0,nt:=nt,ds:={ pin:=pin },r:=some l }
theorem cY_tb {P:Program} {tb:Tb} {w0:World} {K O0:Nat→Prop} {nt l:Nat} {pin:List (Nat×Value)}:(cY P tb w0 K O0 nt l pin).tb=tb:=rfl
section
variable {P:Program} {tb:Tb} {w0:World} {K O0:Nat→Prop} {nt l:Nat} {stay:List Nat} {ρ0:Nat→Value} {post:AV→List (Nat×Obj)→Prop} {σ:St} {pin:List (Nat×Value)}
end
end Go.Proofs.YtebfihindnhccaaGreat.Fw
end
/- Range over a function, second part: the statement; the end of a function that holds one. -/
section
namespace Go.Proofs.YtebfihindnhccaaGreat.Fw
open Go Go.RowKit
def Cx.marked (c:Cx) (dn b:Nat):Cx:={ c with ds:={ ds:=⟨.collected b,#[]⟩ :: c.ds.ds,pin:=(dn,.pointer (some ⟨b,0,none⟩)) :: c.ds.pin } }
theorem marked_tb {c:Cx} {dn b:Nat}:(c.marked dn b).tb=c.tb:=rfl
def rangeSt (σ:St) (yn dn fr:Nat) (L:Go.Loop) (tm:Array Value):St:=⟨σ.env,(yn,.loop L) :: (dn,.dfr) :: (fr,.frame tm σ.env) :: σ.objs⟩
section
variable {c:Cx} {R:Exit→Act→World→Prop} {k:List Kont} {σ:St}
/-! ### The end of a function that holds such a loop -/
end
end Go.Proofs.YtebfihindnhccaaGreat.Fw
end
/- The rules in their shortest form: what is reckoned is reckoned by themselves. -/
section
namespace Go.Proofs.YtebfihindnhccaaGreat.Fw
open Go Go.RowKit
section
variable {c:Cx} {R:Exit→Act→World→Prop} {k:List Kont} {σ σ':St}
theorem rP (lv:List Nat) (hc:c.Ok) {id:Nat} {l:List Oper} {vc:Prop} (hvc:vc) (hk:Ev c R (.out .normal) k σ') (h0:(l.all fun o=>o.guard.isNone)=true:=by rfl)
  (h:pruneR lv (evSeq c.tb l l σ)=some (vc,σ'):=by simp only [go_sem,Nat.reduceEqDiff,reduceCtorEq,Nat.reduceAdd,Nat.reduceSub,Nat.reduceMul,Nat.reduceLeDiff,Nat.reduceLT,Int.reduceLE,Int.reduceToNat,Int.reduceNeg,↓reduceIte];rfl):Ev c R (.run (.region id l.toArray false)) k σ:=evp_regionP lv hc h0 h hvc hk
theorem rC {o:Operand} {x y:Code} {b:Bool} {p q:Prop} (ht:p→Ev c R (.run x) k σ) (hf:q→Ev c R (.run y) k σ) (h:opv σ o=some (.p .bool b):=by simp only [go_sem,Nat.reduceEqDiff,reduceCtorEq,Nat.reduceAdd,Nat.reduceSub,Nat.reduceMul,Nat.reduceLeDiff,Nat.reduceLT,Int.reduceLE,Int.reduceToNat,Int.reduceNeg,↓reduceIte];rfl)
  (hp:(b=true)=p:=by first | (simp only [decide_eq_true_eq,decide_eq_false_iff_not,Bool.and_eq_true,Bool.or_eq_true,Bool.and_eq_false_imp,Bool.or_eq_false_iff,Bool.not_eq_true',Bool.not_eq_false',beq_iff_eq,beq_eq_false_iff_ne,bne_iff_ne,Bool.not_eq_eq_eq_not,Bool.not_true,Bool.not_false,Int.not_lt,Int.not_le,ne_eq];rfl) | rfl) (hq:(b=false)=q:=by first | (simp only [decide_eq_true_eq,decide_eq_false_iff_not,Bool.and_eq_true,Bool.or_eq_true,Bool.and_eq_false_imp,Bool.or_eq_false_iff,Bool.not_eq_true',Bool.not_eq_false',beq_iff_eq,beq_eq_false_iff_ne,bne_iff_ne,Bool.not_eq_eq_eq_not,Bool.not_true,Bool.not_false,Int.not_lt,Int.not_le,ne_eq];rfl) | rfl):Ev c R (.run (.cond o x y)) k σ :=
 ev_condE h (fun e=>ht (hp ▸ e)) (fun e=>hf (hq ▸ e))
theorem rL (lv:List Nat) (hc:c.Ok) {ops:List Oper} {l:List Oper} {vc:Prop} (hvc:vc) (hk:Ev c R (.out .normal) k σ') (h:pruneR lv (evSeq c.tb ops l σ)=some (vc,σ'):=by simp only [go_sem,Nat.reduceEqDiff,reduceCtorEq,Nat.reduceAdd,Nat.reduceSub,Nat.reduceMul,Nat.reduceLeDiff,Nat.reduceLT,Int.reduceLE,Int.reduceToNat,Int.reduceNeg,↓reduceIte];rfl):EvL c R k ops.toArray l σ:=evLp_all lv hc h hvc hk
theorem rN (n:Nat) (hc:c.Ok) {ops:List Oper} {l:List Oper} {vc:Prop} (hvc:vc) (hk:EvL c R k ops.toArray (l.drop n) σ') (h:evSeq c.tb ops (l.take n) σ=some (vc,σ'):=by simp only [List.take_succ_cons,List.take_zero,go_sem,Nat.reduceEqDiff,reduceCtorEq,Nat.reduceAdd,Nat.reduceSub,Nat.reduceMul,Nat.reduceLeDiff,Nat.reduceLT,Int.reduceLE,Int.reduceToNat,Int.reduceNeg,↓reduceIte];rfl):EvL c R k ops.toArray l σ:=evL_seq hc n (by simpa using h) hvc hk
theorem cP (n:Nat) (hc:c.Ok) {id:Nat} {l:List Oper} {vc:Prop} (hvc:vc) (hk:EvL c R k l.toArray (l.drop n) σ') (h0:(l.all fun o=>o.guard.isNone)=true:=by rfl) (h:evSeq c.tb l (l.take n) σ=some (vc,σ'):=by simp only [List.take_succ_cons,List.take_zero,go_sem,Nat.reduceEqDiff,reduceCtorEq,Nat.reduceAdd,Nat.reduceSub,Nat.reduceMul,Nat.reduceLeDiff,Nat.reduceLT,Int.reduceLE,Int.reduceToNat,Int.reduceNeg,↓reduceIte];rfl) :
  Ev c R (.run (.region id l.toArray false)) k σ:=ev_callP hc n h0 h hvc hk
theorem rM (hc:c.Ok) {ops:Array Oper} {rest:List Oper} {dst:Option Nat} {g:Operand} {xs:List Operand} {ts:Array TypeId} {ty:TypeId} {pos:String} {after:Array Edge}
  {f:FuncId} {capn:List Nat} {as:List AV} {A:List AV} {objs:List (Nat×Obj)} {stay:List Nat} {post:AV→List (Nat×Obj)→Prop} (hM:CallM c.P f A objs stay post)
  (ren:List (Nat×From)) (hs:List Nat) (hA:matchArgs σ ren (as++capn.map fun n=>AV.bp n [] 0) A) (hO:matchObjs σ.objs ren objs)
  (hk:∀ res objs',post res objs'→∃ (ren2:List (Nat×From)) (res2:AV) (objs2:List (Nat×Obj)),renOk ren2=true∧renIn objs2 ren2=true∧matchObjs objs' ren2 objs2∧matchAV ren2 res res2 ∧
   keepB ren ren2 stay hs=true∧freshB (handed ren) objs2 σ.objs=true∧EvL c R k ops rest (afterM σ (handed ren) hs dst res2 objs2))
  (hg:calleeOf (opv σ g)=some (f,capn):=by simp only [go_sem,Nat.reduceEqDiff,reduceCtorEq,Nat.reduceAdd,Nat.reduceSub,Nat.reduceMul,Nat.reduceLeDiff,Nat.reduceLT,Int.reduceLE,Int.reduceToNat,Int.reduceNeg,↓reduceIte];rfl) (has:opvs σ xs=some as:=by simp only [go_sem,Nat.reduceEqDiff,reduceCtorEq,Nat.reduceAdd,Nat.reduceSub,Nat.reduceMul,Nat.reduceLeDiff,Nat.reduceLT,Int.reduceLE,Int.reduceToNat,Int.reduceNeg,↓reduceIte];rfl)
  (h1:renOk ren=true:=by rfl) (h2:renIn objs ren=true:=by rfl) (hpin:(c.ds.pin.all fun p=>!memB p.1 hs)=true:=by rfl) :
  EvL c R k ops (⟨dst,.call ⟨.value g,xs.toArray,ts⟩,ty,pos,after,none⟩ :: rest) σ:=evL_call hc hg has hM ren hs h1 h2 hpin hA hO hk
end
end Go.Proofs.YtebfihindnhccaaGreat.Fw
end
/- Code with labels that nothing jumps to: a scope, a label. -/
section
namespace Go.Proofs.YtebfihindnhccaaGreat.Fw
open Go Go.RowKit
section
variable {P:Program} {b:Frame} {a:Act} {k:List Item} {cs:List Frame} {w:World}
end
section
variable {c:Cx} {R:Exit→Act→World→Prop} {k:List Kont} {σ:St}
end
end Go.Proofs.YtebfihindnhccaaGreat.Fw
end
/- Several steps of control in one. -/
section
namespace Go.Proofs.YtebfihindnhccaaGreat.Fw
open Go Go.RowKit
def stepK:Now→List Kont→Option (Now×List Kont)
 | .run (.seq x y),k=>some (.run x,.seq y :: k)
 | .run .skip,k=>some (.out .normal,k)
 | .run .ret,k=>some (.out .ret,k)
 | .run (.exit id),k=>some (.out (.exit id),k)
 | .run (.block id b),k=>some (.run b,.blk id :: k)
 | .out .normal,.seq y :: k=>some (.run y,k)
 | .out .normal,.blk _ :: k=>some (.out .normal,k)
 | .out (.exit id),.seq _ :: k=>some (.out (.exit id),k)
 | .out (.exit id'),.blk id :: k=>if id'=id then some (.out .normal,k) else some (.out (.exit id'),k)
 | .out (.exit id),.inv _ :: k=>some (.out (.exit id),k)
 | .out .ret,.seq _ :: k=>some (.out .ret,k)
 | .out .ret,.blk _ :: k=>some (.out .ret,k)
 | .out .ret,.inv _ :: k=>some (.out .ret,k)
 | _,_=>none
def stepsK:Nat→Now→List Kont→Now×List Kont
 | 0,n,k=>(n,k)
 | m + 1,n,k=>match stepK n k with
  | some (n',k')=>stepsK m n' k'
  | none=>(n,k)
def stepsK1 (n:Now) (k:List Kont):Option (Now×List Kont):=match stepK n k with
 | some (n',k')=>some (stepsK 200 n' k')
 | none=>none
section
variable {c:Cx} {R:Exit→Act→World→Prop} {σ:St}
theorem ev_stepK {n n':Now} {k k':List Kont} (e:stepK n k=some (n',k')) (h:Ev c R n' k' σ):Ev c R n k σ:=by
 unfold stepK at e
 split at e<;>first
  | (cases e;done)
  | (split at e<;>(cases e;first | (rename_i hid;rw [hid];exact ev_exit_eq h) | exact ev_exit_ne (by assumption) h))
  | (cases e;first | exact ev_seq h | exact ev_skip h | exact ev_ret h | exact ev_exit h | exact ev_block h | exact ev_out_seq h | exact ev_out_blk h | exact ev_exit_seq h | exact ev_exit_inv h | exact ev_ret_seq h | exact ev_ret_blk h | exact ev_ret_inv h)
theorem ev_stepsK:∀ (m:Nat) {n:Now} {k:List Kont},Ev c R (stepsK m n k).1 (stepsK m n k).2 σ→Ev c R n k σ
 | 0,_,_,h=>h
 | m + 1,n,k,h=>by
  unfold stepsK at h
  split at h
  ·rename_i n' k' e
   exact ev_stepK e (ev_stepsK m h)
  ·exact h
theorem eS {n n':Now} {k k':List Kont} (e:stepsK1 n k=some (n',k')) (h:Ev c R n' k' σ):Ev c R n k σ:=by
 unfold stepsK1 at e
 split at e
 ·rename_i n1 k1 e1
  refine ev_stepK e1 (ev_stepsK 200 ?_)
  have:=Option.some.inj e
  rw [this]
  exact h
 ·cases e
end
inductive RX (c:Cx) (lv:List Nat) (σ:St) (vc:Prop) (σ':St):Array Oper→Bool→Prop
 | p {l:List Oper} (h0:(l.all fun o=>o.guard.isNone)=true) (h:pruneR lv (evSeq c.tb l l σ)=some (vc,σ')):RX c lv σ vc σ' l.toArray false
 | a {l:List Oper} (h0:seqB l l.length=true) (h:pruneR lv (evM c.tb l true σ.objs [] l 0 [] [] σ)=some (vc,σ')):RX c lv σ vc σ' l.toArray false
 | d {l:List Oper} (h0:drawB l l.length=true) (hm:c.P.follows .mixedOrders=true) (h:pruneR lv (evM c.tb l false σ.objs [] l 0 [] [] σ)=some (vc,σ')):RX c lv σ vc σ' l.toArray true
 | t {l:List Oper} (m:Nat) (h0:drawB l (l.take (l.length - m)).length=true) (hm:c.P.follows .mixedOrders=true) (h:pruneR lv (evM c.tb l false σ.objs (l.drop (l.length - m)) (l.take (l.length - m)) 0 [] [] σ)=some (vc,σ')):RX c lv σ vc σ' l.toArray true
theorem rX_of {c:Cx} {R:Exit→Act→World→Prop} {k:List Kont} {σ σ':St} {lv:List Nat} (hc:c.Ok) {id:Nat} {ops:Array Oper} {dr:Bool} {vc:Prop} (hvc:vc) (hk:Ev c R (.out .normal) k σ') (h:RX c lv σ vc σ' ops dr):Ev c R (.run (.region id ops dr)) k σ:=by
 cases h with
 | p h0 h=>exact evp_regionP lv hc h0 h hvc hk
 | a h0 h=>exact evp_regionA lv hc h0 h hvc hk
 | d h0 hm h=>exact evp_drawA lv hm hc h0 h hvc hk
 | t m h0 hm h=>exact evp_drawT lv m hm hc h0 h hvc hk
theorem rX {c:Cx} {R:Exit→Act→World→Prop} {k:List Kont} {σ σ':St} (lv:List Nat) (hc:c.Ok) {id:Nat} {ops:Array Oper} {dr:Bool} {vc:Prop} (hvc:vc) (hk:Ev c R (.out .normal) k σ')
  (h:RX c lv σ vc σ' ops dr:=by
   first
   | exact .p rfl (by simp only [go_sem,Nat.reduceEqDiff,reduceCtorEq,Nat.reduceAdd,Nat.reduceSub,Nat.reduceMul,Nat.reduceLeDiff,Nat.reduceLT,Int.reduceLE,Int.reduceToNat,Int.reduceNeg,↓reduceIte];rfl)
   | exact .a (by kernel_rfl) (by simp only [go_sem,Nat.reduceEqDiff,reduceCtorEq,Nat.reduceAdd,Nat.reduceSub,Nat.reduceMul,Nat.reduceLeDiff,Nat.reduceLT,Int.reduceLE,Int.reduceToNat,Int.reduceNeg,↓reduceIte];rfl)
   | exact .d (by kernel_rfl) (by exact drawsAny) (by simp only [go_sem,Nat.reduceEqDiff,reduceCtorEq,Nat.reduceAdd,Nat.reduceSub,Nat.reduceMul,Nat.reduceLeDiff,Nat.reduceLT,Int.reduceLE,Int.reduceToNat,Int.reduceNeg,↓reduceIte];rfl)
   | exact .t 1 (by kernel_rfl) (by exact drawsAny) (by simp only [List.take_succ_cons,List.drop_succ_cons,List.take_zero,List.drop_zero,go_sem,Nat.reduceEqDiff,reduceCtorEq,Nat.reduceAdd,Nat.reduceSub,Nat.reduceMul,Nat.reduceLeDiff,Nat.reduceLT,Int.reduceLE,Int.reduceToNat,Int.reduceNeg,↓reduceIte];rfl)
   | exact .t 2 (by kernel_rfl) (by exact drawsAny) (by simp only [List.take_succ_cons,List.drop_succ_cons,List.take_zero,List.drop_zero,go_sem,Nat.reduceEqDiff,reduceCtorEq,Nat.reduceAdd,Nat.reduceSub,Nat.reduceMul,Nat.reduceLeDiff,Nat.reduceLT,Int.reduceLE,Int.reduceToNat,Int.reduceNeg,↓reduceIte];rfl)
   | exact .t 3 (by kernel_rfl) (by exact drawsAny) (by simp only [List.take_succ_cons,List.drop_succ_cons,List.take_zero,List.drop_zero,go_sem,Nat.reduceEqDiff,reduceCtorEq,Nat.reduceAdd,Nat.reduceSub,Nat.reduceMul,Nat.reduceLeDiff,Nat.reduceLT,Int.reduceLE,Int.reduceToNat,Int.reduceNeg,↓reduceIte];rfl)):Ev c R (.run (.region id ops dr)) k σ:=rX_of hc hvc hk h
/-! What is reckoned, in one word -/
theorem eN {p:Prop} (h:p:=by simp only [go_sem,Nat.reduceEqDiff,reduceCtorEq,Nat.reduceAdd,Nat.reduceSub,Nat.reduceMul,Nat.reduceLeDiff,Nat.reduceLT,Int.reduceLE,Int.reduceToNat,Int.reduceNeg,↓reduceIte]<;>fail):p:=h
theorem eM {p q:Prop} (hq:q) (h:p=q:=by simp only [go_sem,Nat.reduceEqDiff,reduceCtorEq,Nat.reduceAdd,Nat.reduceSub,Nat.reduceMul,Nat.reduceLeDiff,Nat.reduceLT,Int.reduceLE,Int.reduceToNat,Int.reduceNeg,↓reduceIte];rfl):p:=h ▸ hq
theorem eR {p:Prop} (h:p:=by simp only [retIs,resIs,resV,resLoad,avNames,pureOf,ownOf,go_sem,Nat.reduceEqDiff,reduceCtorEq,Nat.reduceAdd,Nat.reduceSub,Nat.reduceMul,Nat.reduceLeDiff,Nat.reduceLT,Int.reduceLE,Int.reduceToNat,Int.reduceNeg,↓reduceIte]<;>fail):p:=h
theorem eRM {p q:Prop} (hq:q) (h:p=q:=by simp only [retIs,resIs,resV,resLoad,avNames,pureOf,ownOf,go_sem,Nat.reduceEqDiff,reduceCtorEq,Nat.reduceAdd,Nat.reduceSub,Nat.reduceMul,Nat.reduceLeDiff,Nat.reduceLT,Int.reduceLE,Int.reduceToNat,Int.reduceNeg,↓reduceIte];rfl):p:=h ▸ hq
theorem eV {p:Prop} (h:p:=by (try dsimp only [Ty.den] at *)<;>(repeat' (first | apply And.intro | intro _))<;>omega):p:=h
end Go.Proofs.YtebfihindnhccaaGreat.Fw
end
/- A call by contract under a guard that holds. -/
section
namespace Go.Proofs.YtebfihindnhccaaGreat.Fw
open Go Go.RowKit
section
variable {c:Cx} {R:Exit→Act→World→Prop} {k:List Kont} {σ σ':St}
theorem ev_front (hc:c.Ok) {id:Nat} {l:List Oper} (n:Nat) {vc:Prop} (h:evSeq c.tb l (l.take n) σ=some (vc,σ')) (hvc:vc) (hk:EvL c R k l.toArray (l.drop n) σ') :
  Ev c R (.run (.region id l.toArray false)) k σ:=by
 intro h1 h2 a w hs
 simp only [nowOk,codeOk,List.all_eq_true] at h1
 exact wpIn_region_list (evL_seq hc n (by simpa using h) hvc hk (fun o ho=>h1 o ho) h2 a w hs)
theorem evL_callG (hc:c.Ok) {ops:Array Oper} {rest:List Oper} {dst:Option Nat} {g:Operand} {xs:List Operand} {ts:Array TypeId} {ty:TypeId} {pos:String} {after:Array Edge} {gd:Option (Nat×Bool)}
  (hgd:guardOf ops.toList σ gd=some true)
  {f:FuncId} {capn:List Nat} (hg:calleeOf (opv σ g)=some (f,capn)) {as:List AV} (has:opvs σ xs=some as)
  {A:List AV} {objs:List (Nat×Obj)} {stay:List Nat} {post:AV→List (Nat×Obj)→Prop} (hM:CallM c.P f A objs stay post)
  (ren:List (Nat×From)) (hs:List Nat) (h1:renOk ren=true) (h2:renIn objs ren=true) (hpin:(c.ds.pin.all fun p=>!memB p.1 hs)=true) (hA:matchArgs σ ren (as++capn.map fun n=>AV.bp n [] 0) A) (hO:matchObjs σ.objs ren objs)
  (hk:∀ res objs',post res objs'→∃ (ren2:List (Nat×From)) (res2:AV) (objs2:List (Nat×Obj)),renOk ren2=true∧renIn objs2 ren2=true∧matchObjs objs' ren2 objs2∧matchAV ren2 res res2 ∧
   keepB ren ren2 stay hs=true∧freshB (handed ren) objs2 σ.objs=true∧EvL c R k ops rest (afterM σ (handed ren) hs dst res2 objs2)) :
  EvL c R k ops (⟨dst,.call ⟨.value g,xs.toArray,ts⟩,ty,pos,after,gd⟩ :: rest) σ:=by
 intro hd hko a w hsat
 unfold wpListIn
 rw [if_pos (guard_wanted (o:=⟨dst,.call ⟨.value g,xs.toArray,ts⟩,ty,pos,after,gd⟩) hsat hgd)]
 refine call_wp hc (xs:=xs) (ts:=ts) rfl rfl hg has hM ren h1 h2 hA hO hs hpin hsat (dstOk_spec (hd _ (by simp))) fun res objs' hp=>?_
 obtain ⟨ren2,res2,objs2,g1,g2,g3,g4,g5,g6,hE⟩:=hk res objs' hp
 exact ⟨ren2,res2,objs2,g1,g2,g3,g4,g5,g6,fun a' w' hs'=>hE (fun o ho=>hd o (by simp [ho])) hko a' w' hs'⟩
end
end Go.Proofs.YtebfihindnhccaaGreat.Fw
end
/- The rules of mixed and guarded regions in their shortest form. -/
section
namespace Go.Proofs.YtebfihindnhccaaGreat.Fw
open Go Go.RowKit
section
variable {c:Cx} {ops:List Oper} {Kf:St→Prop} {τ:St} {ens:EN} {vc:Prop}
theorem mxA {A D:List Nat} {l:Nat} {ps:List (List Nat×Nat)} {o:Oper} {σ1:St} {ens1:EN} (hvc:vc) (hL:Loud c o σ1 ens1 (fun τ'=>Mix c ops Kf ps D ens1 τ')) (h:evF c.tb ops τ.objs (A++qs ps D) [] τ.env=some (vc,ens):=by simp only [go_sem,Nat.reduceEqDiff,reduceCtorEq,Nat.reduceAdd,Nat.reduceSub,Nat.reduceMul,Nat.reduceLeDiff,Nat.reduceLT,Int.reduceLE,Int.reduceToNat,Int.reduceNeg,↓reduceIte];rfl) (hfr:frOk ens τ.objs=true:=by rfl) (ho:ops[l]?=some o:=by rfl)
  (hσ:addQ (ens.take A.length) τ=σ1:=by simp only [go_sem,Nat.reduceEqDiff,reduceCtorEq,Nat.reduceAdd,Nat.reduceSub,Nat.reduceMul,Nat.reduceLeDiff,Nat.reduceLT,Int.reduceLE,Int.reduceToNat,Int.reduceNeg,↓reduceIte];rfl) (he:ens.drop A.length=ens1:=by simp only [go_sem,Nat.reduceEqDiff,reduceCtorEq,Nat.reduceAdd,Nat.reduceSub,Nat.reduceMul,Nat.reduceLeDiff,Nat.reduceLT,Int.reduceLE,Int.reduceToNat,Int.reduceNeg,↓reduceIte];rfl):Mix c ops Kf ((A,l) :: ps) D ens τ:=mix_step h hvc hfr ho hσ he hL
theorem mxE {R:Exit→Act→World→Prop} {k:List Kont} {σ':St} (lv:List Nat) (hc:c.Ok) {D:List Nat} {l:List Oper} {vc2:Prop} (hvc:vc) (hvc2:vc2) (hk:Ev c R (.out .normal) k σ') (h:evF c.tb ops τ.objs D [] τ.env=some (vc,ens):=by simp only [go_sem,Nat.reduceEqDiff,reduceCtorEq,Nat.reduceAdd,Nat.reduceSub,Nat.reduceMul,Nat.reduceLeDiff,Nat.reduceLT,Int.reduceLE,Int.reduceToNat,Int.reduceNeg,↓reduceIte];rfl) (hfr:frOk ens τ.objs=true:=by rfl)
  (h2:pruneR lv (evSeq c.tb ops l (addQ ens τ))=some (vc2,σ'):=by simp only [go_sem,Nat.reduceEqDiff,reduceCtorEq,Nat.reduceAdd,Nat.reduceSub,Nat.reduceMul,Nat.reduceLeDiff,Nat.reduceLT,Int.reduceLE,Int.reduceToNat,Int.reduceNeg,↓reduceIte];rfl):Mix c ops (fun τ=>EvL c R k ops.toArray l τ) [] D ens τ:=mix_last h hvc hfr (evLp_all lv hc h2 hvc2 hk)
end
section
variable {c:Cx} {o:Oper} {σ:St} {ens:EN} {N:St→Prop} {R:Exit→Act→World→Prop} {k:List Kont} {σ':St}
theorem mxL (hc:c.Ok) {τ:St} {vc:Prop} (ns:List Nat) (hvc:vc) (hN:N τ) (h:step1 c.tb o σ=some (vc,τ):=by simp only [go_sem,Nat.reduceEqDiff,reduceCtorEq,Nat.reduceAdd,Nat.reduceSub,Nat.reduceMul,Nat.reduceLeDiff,Nat.reduceLT,Int.reduceLE,Int.reduceToNat,Int.reduceNeg,↓reduceIte];rfl) (hns:tn σ o.op=ns:=by simp only [go_sem,Nat.reduceEqDiff,reduceCtorEq,Nat.reduceAdd,Nat.reduceSub,Nat.reduceMul,Nat.reduceLeDiff,Nat.reduceLT,Int.reduceLE,Int.reduceToNat,Int.reduceNeg,↓reduceIte]) (hsl:slotsB o ens=true:=by rfl) (hn:namesB ns σ.objs ens=true:=by rfl) (hfr:freeB τ.objs ens=true:=by rfl)
  (hf:fgtEN ns ens=ens:=by simp only [go_sem,Nat.reduceEqDiff,reduceCtorEq,Nat.reduceAdd,Nat.reduceSub,Nat.reduceMul,Nat.reduceLeDiff,Nat.reduceLT,Int.reduceLE,Int.reduceToNat,Int.reduceNeg,↓reduceIte]) (hd:dstOk c.nt o=true:=by rfl):Loud c o σ ens N:=loud_step hc ns h hns hsl hn hfr hf hd hvc hN
theorem mxC (hc:c.Ok) {dst:Option Nat} {g:Operand} {xs:List Operand} {ts:Array TypeId} {ty:TypeId} {pos:String} {after:Array Edge} {f:FuncId} {capn:List Nat} {as:List AV}
  {A:List AV} {objs:List (Nat×Obj)} {stay:List Nat} {post:AV→List (Nat×Obj)→Prop} (hM:CallM c.P f A objs stay post) (ren:List (Nat×From)) (hs:List Nat)
  (hA:matchArgs σ ren (as++capn.map fun n=>AV.bp n [] 0) A) (hO:matchObjs σ.objs ren objs)
  (hk:∀ res objs',post res objs'→∃ (ren2:List (Nat×From)) (res2:AV) (objs2:List (Nat×Obj)),renOk ren2=true∧renIn objs2 ren2=true∧matchObjs objs' ren2 objs2∧matchAV ren2 res res2 ∧
   keepB ren ren2 stay hs=true∧freshB (handed ren) objs2 σ.objs=true∧freeB objs2 ens=true∧N (afterM σ (handed ren) hs dst res2 objs2))
  (hg:calleeOf (opv σ g)=some (f,capn):=by simp only [go_sem,Nat.reduceEqDiff,reduceCtorEq,Nat.reduceAdd,Nat.reduceSub,Nat.reduceMul,Nat.reduceLeDiff,Nat.reduceLT,Int.reduceLE,Int.reduceToNat,Int.reduceNeg,↓reduceIte];rfl) (has:opvs σ xs=some as:=by simp only [go_sem,Nat.reduceEqDiff,reduceCtorEq,Nat.reduceAdd,Nat.reduceSub,Nat.reduceMul,Nat.reduceLeDiff,Nat.reduceLT,Int.reduceLE,Int.reduceToNat,Int.reduceNeg,↓reduceIte];rfl) (h1:renOk ren=true:=by rfl) (h2:renIn objs ren=true:=by rfl) (hpin:(c.ds.pin.all fun p=>!memB p.1 hs)=true:=by rfl)
  (hsl:slotsB ⟨dst,.call ⟨.value g,xs.toArray,ts⟩,ty,pos,after,none⟩ ens=true:=by rfl) (hn:namesB (handed ren) σ.objs ens=true:=by rfl) (hf:fgtEN hs ens=ens:=by simp only [go_sem,Nat.reduceEqDiff,reduceCtorEq,Nat.reduceAdd,Nat.reduceSub,Nat.reduceMul,Nat.reduceLeDiff,Nat.reduceLT,Int.reduceLE,Int.reduceToNat,Int.reduceNeg,↓reduceIte]) (hd:dstOk c.nt ⟨dst,.call ⟨.value g,xs.toArray,ts⟩,ty,pos,after,none⟩=true:=by rfl) :
  Loud c ⟨dst,.call ⟨.value g,xs.toArray,ts⟩,ty,pos,after,none⟩ σ ens N:=loud_call hc hg has hM ren hs h1 h2 hpin hsl hn hf hd hA hO hk
theorem evP (hc:c.Ok) {id:Nat} {l:List Oper} (n:Nat) {vc:Prop} (hvc:vc) (hk:EvL c R k l.toArray (l.drop n) σ') (h:evSeq c.tb l (l.take n) σ=some (vc,σ'):=by simp only [List.take_succ_cons,List.take_zero,go_sem,Nat.reduceEqDiff,reduceCtorEq,Nat.reduceAdd,Nat.reduceSub,Nat.reduceMul,Nat.reduceLeDiff,Nat.reduceLT,Int.reduceLE,Int.reduceToNat,Int.reduceNeg,↓reduceIte];rfl):Ev c R (.run (.region id l.toArray false)) k σ:=ev_front hc n h hvc hk
theorem clG (hc:c.Ok) {ops:Array Oper} {rest:List Oper} {dst:Option Nat} {g:Operand} {xs:List Operand} {ts:Array TypeId} {ty:TypeId} {pos:String} {after:Array Edge} {gd:Option (Nat×Bool)} {f:FuncId} {capn:List Nat} {as:List AV}
  {A:List AV} {objs:List (Nat×Obj)} {stay:List Nat} {post:AV→List (Nat×Obj)→Prop} (hM:CallM c.P f A objs stay post) (ren:List (Nat×From)) (hs:List Nat) (hA:matchArgs σ ren (as++capn.map fun n=>AV.bp n [] 0) A) (hO:matchObjs σ.objs ren objs)
  (hk:∀ res objs',post res objs'→∃ (ren2:List (Nat×From)) (res2:AV) (objs2:List (Nat×Obj)),renOk ren2=true∧renIn objs2 ren2=true∧matchObjs objs' ren2 objs2∧matchAV ren2 res res2 ∧
   keepB ren ren2 stay hs=true∧freshB (handed ren) objs2 σ.objs=true∧EvL c R k ops rest (afterM σ (handed ren) hs dst res2 objs2))
  (hgd:guardOf ops.toList σ gd=some true:=by simp only [go_sem,Nat.reduceEqDiff,reduceCtorEq,Nat.reduceAdd,Nat.reduceSub,Nat.reduceMul,Nat.reduceLeDiff,Nat.reduceLT,Int.reduceLE,Int.reduceToNat,Int.reduceNeg,↓reduceIte]) (hg:calleeOf (opv σ g)=some (f,capn):=by simp only [go_sem,Nat.reduceEqDiff,reduceCtorEq,Nat.reduceAdd,Nat.reduceSub,Nat.reduceMul,Nat.reduceLeDiff,Nat.reduceLT,Int.reduceLE,Int.reduceToNat,Int.reduceNeg,↓reduceIte];rfl) (has:opvs σ xs=some as:=by simp only [go_sem,Nat.reduceEqDiff,reduceCtorEq,Nat.reduceAdd,Nat.reduceSub,Nat.reduceMul,Nat.reduceLeDiff,Nat.reduceLT,Int.reduceLE,Int.reduceToNat,Int.reduceNeg,↓reduceIte];rfl) (h1:renOk ren=true:=by rfl) (h2:renIn objs ren=true:=by rfl) (hpin:(c.ds.pin.all fun p=>!memB p.1 hs)=true:=by rfl) :
  EvL c R k ops (⟨dst,.call ⟨.value g,xs.toArray,ts⟩,ty,pos,after,gd⟩ :: rest) σ:=evL_callG hc hgd hg has hM ren hs h1 h2 hpin hA hO hk
theorem frzE (l:List Nat) {n:Now} {σ1:St} (hk:Ev c R n k σ1) (h:frzAll l σ=σ1:=by simp only [go_sem,Nat.reduceEqDiff,reduceCtorEq,Nat.reduceAdd,Nat.reduceSub,Nat.reduceMul,Nat.reduceLeDiff,Nat.reduceLT,Int.reduceLE,Int.reduceToNat,Int.reduceNeg,↓reduceIte];rfl):Ev c R n k σ:=Ev.ent hk (ent_frz l h fun _ _ h=>h)
theorem frzT (l:List Nat) {σ1:St} (he:Ent c σ1 σ') (h:frzAll l σ=σ1:=by simp only [go_sem,Nat.reduceEqDiff,reduceCtorEq,Nat.reduceAdd,Nat.reduceSub,Nat.reduceMul,Nat.reduceLeDiff,Nat.reduceLT,Int.reduceLE,Int.reduceToNat,Int.reduceNeg,↓reduceIte];rfl):Ent c σ σ':=ent_frz l h he
end
theorem eT {p:Prop} (h:p:=by simp only [retAV,ret1,retAVs,notAT,resV,resLoad,pureOf,go_sem,Nat.reduceEqDiff,reduceCtorEq,Nat.reduceAdd,Nat.reduceSub,Nat.reduceMul,Nat.reduceLeDiff,Nat.reduceLT,Int.reduceLE,Int.reduceToNat,Int.reduceNeg,↓reduceIte]<;>fail):p:=h
end Go.Proofs.YtebfihindnhccaaGreat.Fw
end
/- append to a nested array's row in the midst of a statement: what looks at the rows from outside may float around it. -/
section
namespace Go.Proofs.YtebfihindnhccaaGreat.Fw
open Go Go.RowKit
structure ApartT (X σ:St) (n:Nat):Prop where
 env:∀ s v,lk s X.env=some v→v.trn n []=v
 arr:∀ m o,lk m X.objs=some o→plainO o=true
 new:∀ m o,lk m X.objs=some o→lk m σ.objs=none
 nm:∀ m o,lk m X.objs=some o→m≠n
section
variable {σ σ' X:St} {n:Nat}
theorem ApartT.obs (hx:Ext σ σ' X) (ha:ApartT X σ n):Obs σ σ':=by
 intro m o hn
 rw [hx.objs]
 cases hX:lk m X.objs with
 | none=>exact hn
 | some o'=>rw [ha.new m o' hX] at hn;cases hn
theorem extT (hx:Ext σ σ' X) (ha:ApartT X σ n) {en:List (Nat×AV)} {new:List (Nat×Obj)} (hd:∀ s v,lk s en=some v→lk s X.env=none) (hnn:∀ m o,lk m new=some o→lk m X.objs=none) :
  Ext ⟨en++trnEnv n [] σ.env,new++trnObjs n [] σ.objs⟩ ⟨en++trnEnv n [] σ'.env,new++trnObjs n [] σ'.objs⟩ X:=by
 refine ⟨fun s=>?_,fun m=>?_⟩
 ·simp only [lk_append]
  cases hs:lk s en with
  | some v=>rw [hd s v hs];rfl
  | none =>
   rw [lk_trnEnv,lk_trnEnv,hx.env]
   cases hX:lk s X.env with
   | none=>rfl
   | some w=>simp [ha.env s w hX]
 ·simp only [lk_append]
  cases hm:lk m new with
  | some o=>rw [hnn m o hm];rfl
  | none =>
   rw [lk_trnObjs,lk_trnObjs,hx.objs]
   cases hX:lk m X.objs with
   | none=>rfl
   | some w =>
    rw [if_neg fun h=>ha.nm m w hX (by simpa using (memB_iff _ _).1 h)]
    exact congrArg some (plain_trn (ha.arr m w hX))
def ninN (σ:St):Op→Option Nat
 | .call c=>match c.callee,c.args.toList,c.argTypes.toList with
  | .builtin .append,[x,_],[_,_]=>(match opv σ x with | some (.nin n _ _ _)=>some n | _=>none)
  | _,_,_=>none
 | _=>none
theorem nin_ext {tb:Tb} {op:Op} {d:Option Nat} {vc:Prop} {τ:St} (hx:Ext σ σ' X) (ha:ApartT X σ n) (hops:OpsE σ σ' op.operands.toList) (hnn:ninN σ op=some n) (hd:∀ t,d=some t→lk t X.env=none) (hXt:∀ n,(∃ u,lk n τ.objs=some u)→lk n X.objs=none) (h:aloud tb σ d op=some (vc,τ)) :
  (∃ τ',aloud tb σ' d op=some (vc,τ')∧Ext τ τ' X)∧(∀ k,aq tb σ' k op=none)∧(∀ k,aq tb σ k op=none)∧takesIn σ op=[]∧takesIn σ' op=[]:=by
 have hobs:=ha.obs hx
 cases op<;>try (cases hnn;done)
 rename_i cl
 obtain ⟨callee,⟨args⟩,⟨argTypes⟩⟩:=cl
 simp only [ninN] at hnn
 split at hnn
 ·rename_i x y t u
  cases hxv:opv σ x with
  | none=>rw [hxv] at hnn;cases hnn
  | some xv =>
   rw [hxv] at hnn
   cases xv<;>try (cases hnn;done)
   rename_i n' e i len
   cases hnn
   have hx1:opv σ' x=opv σ x:=hops x (by simp [Op.operands,Call.operands])
   have hy1:opv σ' y=opv σ y:=hops y (by simp [Op.operands,Call.operands])
   refine ⟨?_,fun k=>by simp [aq,qCallee,qBuiltin,qAppend,hx1,hxv],fun k=>by simp [aq,qCallee,qBuiltin,qAppend,hxv],rfl,rfl⟩
   simp only [aloud,lCallee,lBuiltin,hxv] at h
   simp only [aloud,lCallee,lBuiltin,lAppend,hx1,hxv,hy1]
   cases hyv:opv σ y with
   | none=>rw [hyv] at h;unfold lAppend at h;cases h
   | some v =>
    rw [hyv] at h
    simp only [lAppend] at h
    split at h
    ·rename_i d'
     have hd':=hd d' rfl
     simp only
     split at h
     ·rename_i htu
      rw [if_pos htu]
      unfold lNin2 at h ⊢
      split at h
      ·rename_i e2 o2 el b2 htb
       try rw [htb]
       try simp only
       split at h
       ·rename_i hee
        rw [if_pos hee]
        unfold lNin3 at h ⊢
        split at h
        ·rename_i ti et iet k e1 xs h1 hl
         try rw [h1]
         try rw [hobs _ _ hl]
         try simp only
         split at h
         ·rename_i hc
          rw [if_pos hc]
          unfold lNin4 at h ⊢
          split at h
          ·rename_i ys h3
           rw [asA_mono hobs h3]
           try simp only
           split at h
           ·rename_i hdn
            have hXd:lk d' X.objs=none:=by
             refine hXt d' ?_
             cases h
             exact ⟨_,by simp only [lk,if_true];rfl⟩
            have hdn':(lk d' σ'.objs).isNone=true:=by rw [hx.objs,hXd];exact hdn
            rw [if_pos hdn']
            cases h
            refine ⟨_,rfl,extT (en:=[(d',_)]) (new:=[(d',_),(n,_)]) hx ha (fun s v h=>?_) (fun q o hq=>?_)⟩
            ·simp only [lk] at h
             split at h
             ·rename_i e1;rw [e1];exact hd'
             ·cases h
            ·simp only [lk] at hq
             split at hq
             ·rename_i e1;rw [e1];exact hXd
             ·split at hq
              ·rename_i e1
               rw [e1]
               cases hX:lk n X.objs with
               | none=>rfl
               | some w=>exact absurd rfl (ha.nm n w hX)
              ·cases hq
           ·cases h
          ·cases h
         ·cases h
        ·cases h
       ·cases h
      ·cases h
     ·cases h
    ·cases h
 ·cases hnn
end
def trnEN (n:Nat):EN→EN
 | []=>[]
 | (d,v,obs) :: r=>(d,v.trn n [],obs) :: trnEN n r
theorem trnEN_spec {n:Nat}:∀ {ens:EN},trnEN n ens=ens→∀ e∈ens,e.2.1.trn n []=e.2.1
 | [],_,e,he=>by cases he
 | (d,v,obs) :: r,h,e,he=>by
  simp only [trnEN,List.cons.injEq,Prod.mk.injEq,and_true,true_and] at h
  rcases List.mem_cons.1 he with rfl | he
  ·exact h.1
  ·exact trnEN_spec h.2 e he
section
variable {c:Cx} {o:Oper} {σ:St} {ens:EN} {N:St→Prop}
theorem loud_nin (hc:c.Ok) {τ:St} {vc:Prop} (n:Nat) (h:step1 c.tb o σ=some (vc,τ)) (hns:ninN σ o.op=some n) (hsl:slotsB o ens=true) (hn:namesB [n] σ.objs ens=true) (hfr:freeB τ.objs ens=true) (hf:trnEN n ens=ens) (hd:dstOk c.nt o=true) (hvc:vc) (hN:N τ):Loud c o σ ens N:=by
 intro X σ' hx hin a w next Q hs hk
 have ha:ApartT X σ n:=by
  refine ⟨fun s v hs=>?_,fun m o ho=>?_,fun m o ho=>?_,fun m o ho=>?_⟩
  ·obtain ⟨obs,hm⟩:=hin.env s v hs
   exact trnEN_spec hf _ hm
  all_goals
   obtain ⟨e,he,hp⟩:=hin.objs m o ho
   have:=namesB_spec hn e he _ hp
  ·exact this.2.2
  ·exact this.1
  ·exact fun e1=>this.2.1 (by simp [e1])
 have hXs:∀ t∈opTs o.op,lk t X.env=none:=fun t ht=>by
  cases hX:lk t X.env with
  | none=>rfl
  | some v=>obtain ⟨obs,hm⟩:=hin.env t v hX;exact absurd ht (slotsB_spec hsl _ hm).1
 have hXd:∀ t,o.dst=some t→lk t X.env=none:=fun t ht=>by
  cases hX:lk t X.env with
  | none=>rfl
  | some v=>obtain ⟨obs,hm⟩:=hin.env t v hX;exact absurd ht (slotsB_spec hsl _ hm).2
 have hXt:∀ n,(∃ u,lk n τ.objs=some u)→lk n X.objs=none:=fun n hu=>by
  cases hX:lk n X.objs with
  | none=>rfl
  | some v =>
   obtain ⟨e,he,hp⟩:=hin.objs n v hX
   obtain ⟨u,hu⟩:=hu
   rw [freeB_spec hfr e he _ hp] at hu;cases hu
 have hops:=opsE_of hx hXs
 have key:∃ τ',step1 c.tb o σ'=some (vc,τ')∧Ext τ τ' X:=by
  have hl:takesIn σ o.op=[]∧takesIn σ' o.op=[]:=by
   obtain ⟨dst,op,ty,pos,after,gd⟩:=o
   simp only at hns ⊢
   cases op<;>first | exact ⟨rfl,rfl⟩ | cases hns
  unfold step1 step0 at h ⊢
  rw [hl.1] at h
  rw [hl.2]
  simp only [frzAll] at h ⊢
  cases hq:aq c.tb σ (o.dst.getD 0) o.op with
  | some r =>
   obtain ⟨dst,op,ty,pos,after,gd⟩:=o
   simp only at hns hq
   exfalso
   cases op<;>try (cases hns;done)
   rename_i cl
   obtain ⟨callee,⟨args⟩,⟨argTypes⟩⟩:=cl
   simp only [ninN] at hns
   split at hns
   ·rename_i x y t u
    cases hxv:opv σ x with
    | none=>rw [hxv] at hns;cases hns
    | some xv =>
     rw [hxv] at hns
     cases xv<;>try (cases hns;done)
     simp [aq,qCallee,qBuiltin,qAppend,hxv] at hq
   ·cases hns
  | none =>
   rw [hq] at h
   simp only [stepQ] at h
   obtain ⟨⟨τ',h1,h2⟩,h3,_⟩:=nin_ext hx ha hops hns hXd hXt h
   rw [h3]
   simp only [stepQ]
   exact ⟨τ',h1,h2⟩
 obtain ⟨τ',h1,h2⟩:=key
 exact step1_wp hc hs h1 hvc (dstOk_spec hd) fun a' w' hs'=>hk τ hN a' w' τ' h2 hs'
theorem mxN (hc:c.Ok) {τ:St} {vc:Prop} (n:Nat) (hvc:vc) (hN:N τ) (h:step1 c.tb o σ=some (vc,τ):=by simp only [go_sem,Nat.reduceEqDiff,reduceCtorEq,Nat.reduceAdd,Nat.reduceSub,Nat.reduceMul,Nat.reduceLeDiff,Nat.reduceLT,Int.reduceLE,Int.reduceToNat,Int.reduceNeg,↓reduceIte];rfl) (hns:ninN σ o.op=some n:=by simp only [go_sem,Nat.reduceEqDiff,reduceCtorEq,Nat.reduceAdd,Nat.reduceSub,Nat.reduceMul,Nat.reduceLeDiff,Nat.reduceLT,Int.reduceLE,Int.reduceToNat,Int.reduceNeg,↓reduceIte]) (hsl:slotsB o ens=true:=by rfl) (hn:namesB [n] σ.objs ens=true:=by rfl) (hfr:freeB τ.objs ens=true:=by rfl)
  (hf:trnEN n ens=ens:=by simp only [go_sem,Nat.reduceEqDiff,reduceCtorEq,Nat.reduceAdd,Nat.reduceSub,Nat.reduceMul,Nat.reduceLeDiff,Nat.reduceLT,Int.reduceLE,Int.reduceToNat,Int.reduceNeg,↓reduceIte]) (hd:dstOk c.nt o=true:=by rfl):Loud c o σ ens N:=loud_nin hc n h hns hsl hn hfr hf hd hvc hN
end
end Go.Proofs.YtebfihindnhccaaGreat.Fw
end
