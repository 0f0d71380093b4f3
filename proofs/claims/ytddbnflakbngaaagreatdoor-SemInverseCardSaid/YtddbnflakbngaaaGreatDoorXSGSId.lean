/- The package variable that the rows lay down holds what the walks read. -/
import Derived.Test.YtddbnflakbngaaaGreatDoorFZJ
import Derived.Test.YtddbnflakbngaaaGreatDoorRows
import Derived.ProofKit
import Derived.LaidMore
import Derived.OpenShut
import Derived.Stop.Joined
set_option linter.unusedVariables false
set_option linter.unusedSimpArgs false
namespace Go.Proofs.YtddbnflakbngaaaGreatDoor
open Go Go.RowKit
set_option maxRecDepth 100000
theorem AAn : Tryz.prog.globalNamed "grammarlab/sem.sorts" = some 0 := by kernel_rfl
theorem AAo:(Tryz.prog.globals[0]?).map (·.type)=some 92:=by kernel_rfl
theorem AAp:Tryz.prog.underlying 92=some (.slice 93):=by kernel_rfl
theorem AC0:Tryz.prog.underlying 93=some (.array 2 9):=by kernel_rfl
theorem AC1:Tryz.prog.underlying 9=some .string:=by kernel_rfl
theorem ACQ:Tryz.prog.cellsOf 9=1:=by kernel_rfl
theorem A8x:Tryz.prog.cellsOf 93=2:=by kernel_rfl
abbrev lU : List (String × DataW Unit) := [("grammarlab/sem.sorts", Rows.laid_grammarlab_sem_sorts)]
theorem A4v (os:Os) (args:Array Value):laidMetH Tryz.prog lU ((World.doorLaid Tryz.prog 400 os).forCall (fun _ _=>0) ⟨#[],args,[]⟩).memory :=
 laidMetH_of_parts3 (fuel:=8) (laidMet_of_run' 8 (by kernel_rfl) (by kernel_rfl)) (by kernel_rfl) (by kernel_rfl)
theorem A80 {H:Type} {enc:TypeId×Value→H} {W:World} {sp:Nat→Bool} {hd:Bool} {n:Nat} {es:List Value} {a b:List UInt8} {p:List MemPlace}
  (h:DataW.trod enc Tryz.prog W 0 sp hd n 93 es=some (.agg [.lit (.string a),.lit (.string b)],p)):es=[.string ⟨a.toArray⟩,.string ⟨b.toArray⟩]:=by
 obtain⟨xs,m,-,h1,h2,h3,h4⟩:=DataW.trod_array AC0 h
 rw[A8x]at h2
 rw[ACQ]at h4
 match es,h2,xs,h3 with
 | [u,v],_,[x,y],_ =>
  simp only[Prod.mk.injEq,DataW.agg.injEq,List.map_cons,List.map_nil,List.cons.injEq,and_true]at h1
  have e0:=h4 0 (by decide)
  have e1:=h4 1 (by decide)
  obtain⟨s0,q0,r0,-⟩:=DataW.trod_string AC1 (show DataW.trod enc Tryz.prog W 0 sp hd m 9 [u]=some x from e0)
  obtain⟨s1,q1,r1,-⟩:=DataW.trod_string AC1 (show DataW.trod enc Tryz.prog W 0 sp hd m 9 [v]=some y from e1)
  subst r0
  subst r1
  simp only[DataW.lit.injEq,Lit.string.injEq]at h1
  obtain⟨⟨h5,h6⟩,-⟩:=h1
  simp only[List.cons.injEq,and_true]at q0 q1
  subst q0
  subst q1
  rw[h5,h6]
theorem wS {W:World} {a:Addr} {v:Value} (h:W.cell? a=some v):a.block<W.heap.size:=by
 refine Classical.byContradiction fun q=>?_
 unfold World.cell? at h
 rw[Array.getElem?_eq_none (by omega)]at h
 cases h
theorem AC2 {W:World} (h:laidMetH Tryz.prog lU W):Fw.GW W (fun b=>b<W.heap.size) fun _=>False:=by
 rw[MakeChecks.laidMetH_plain _ _ _ (by kernel_rfl)]at h
 obtain⟨ps,⟨g0,t0,I5,f0,p0,q0,hg0,ht0,hv0,hd0,-,-⟩,-,-⟩:=h
 obtain rfl:=Option.some.inj (AAn.symm.trans hg0)
 obtain rfl:=Option.some.inj (AAo.symm.trans ht0)
 rcases DataW.trod_slice AAp hd0 with ⟨-,hx⟩|⟨a,len,cap,elems,rest,m,-,hcs,hx,-,hlc,-,hlen,hel,-,-⟩
 ·simp[Rows.laid_grammarlab_sem_sorts]at hx
 simp only[Rows.laid_grammarlab_sem_sorts,Prod.mk.injEq,DataW.slice.injEq]at hx
 have h5:=hx.1.1
 have hl:elems.length=4:=by
  have:=congrArg List.length h5
  simpa using this.symm
 match elems,hl,h5,hlen,hel with
 | [x0,x1,x2,x3],_,h5,hlen,hel =>
  simp only[List.map_cons,List.map_nil,List.cons.injEq,and_true]at h5
  have hl4:len=4:=hlen.symm
  subst hl4
  rw[A8x]at hel
  have key:∀(i:Nat) (s1 s2:List UInt8) (y:DataW Unit×List MemPlace),i<4→[x0,x1,x2,x3][i]?=some y→.agg [.lit (.string s1),.lit (.string s2)]=y.1→∀(j:Nat) (v:Value),[Value.string ⟨s1.toArray⟩,.string ⟨s2.toArray⟩][j]?=some v→W.cell? (a.add (i*2+j))=some v:=by
   intro i s1 s2 y hi hy e j v hj
   have h1:=hel i hi
   rw[hy]at h1
   obtain⟨es,h2,h3⟩:=Option.bind_eq_some_iff.1 h1
   obtain⟨h4,h6⟩:=Fw.Yf h2
   obtain⟨y1,y2⟩:=y
   simp only at e
   subst e
   have h7:=A80 h3
   subst h7
   have:=h6 j v hj
   rwa [Fw.C6]at this
  have k0:=key 0 _ _ x0 (by decide) rfl h5.1
  have k1:=key 1 _ _ x1 (by decide) rfl h5.2.1
  have k2:=key 2 _ _ x2 (by decide) rfl h5.2.2.1
  have k3:=key 3 _ _ x3 (by decide) rfl h5.2.2.2
  have hb:a.block<W.heap.size:=by
   have:=wS (k0 0 _ rfl)
   rwa [Fw.CF]at this
  intro x hxg
  simp only[Fw.gls,List.mem_singleton]at hxg
  subst hxg
  have hcell:=fun j=>World.var?_cell hg0 hv0 j
  refine⟨?_,id,I5.toList,fun j u hj=>?_,some a,cap,hcs,hlc,by decide,.inr ⟨a,rfl,fun q=>q.elim (fun q=>q hb) id,?_⟩⟩
  ·have h0:=hcell 0
   rw[←Array.getElem?_toList,hcs]at h0
   exact wS h0
  ·rw[hcell j,←Array.getElem?_toList]
   exact hj
  ·intro i y hy
   match i,hy with
   | 0,hy=>cases hy;exact⟨_,rfl,k0,[_],[_],rfl,⟨rfl,by decide⟩,rfl,by decide⟩
   | 1,hy=>cases hy;exact⟨_,rfl,k1,[_],[_],rfl,⟨rfl,by decide⟩,rfl,by decide⟩
   | 2,hy=>cases hy;exact⟨_,rfl,k2,[_],[_],rfl,⟨rfl,by decide⟩,rfl,by decide⟩
   | 3,hy=>cases hy;exact⟨_,rfl,k3,[_],[_],rfl,⟨rfl,by decide⟩,rfl,by decide⟩
end Go.Proofs.YtddbnflakbngaaaGreatDoor
