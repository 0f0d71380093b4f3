/- The package variable that the row lays down holds what the walks read. -/
import Derived.Test.YtaoonfcjbmcmpaaGreatDoorFZJ
import Derived.Test.YtaoonfcjbmcmpaaGreatDoorRows
import Derived.ProofKit
import Derived.LaidMore
import Derived.OpenShut
import Derived.Stop.Joined
set_option linter.unusedVariables false
set_option linter.unusedSimpArgs false
namespace Go.Proofs.YtaoonfcjbmcmpaaGreatDoor
open Go Go.RowKit
set_option maxRecDepth 100000
theorem A1B : Tryz.prog.globalNamed "math/bits.deBruijn64tab" = some 0 := by kernel_rfl
theorem A1C:(Tryz.prog.globals[0]?).map (·.type)=some 158:=by kernel_rfl
theorem A1D:Tryz.prog.underlying 158=some (.array 64 5):=by kernel_rfl
theorem uU8:Tryz.prog.underlying 5=some (.int .u8):=by kernel_rfl
theorem cU8:Tryz.prog.cellsOf 5=1:=by kernel_rfl
theorem A1E:Tryz.prog.cellsOf 158=64:=by kernel_rfl
abbrev YT : List (String × DataW Unit) := [("math/bits.deBruijn64tab", Rows.laid_math_bits_deBruijn64tab)]
theorem p7 (os:Os) (args:Array Value):laidMetH Tryz.prog YT ((World.doorLaid Tryz.prog 400 os).forCall (fun _ _=>0) ⟨#[],args,[]⟩).memory :=
 laidMetH_of_parts3 (fuel:=8) (laidMet_of_run' 8 (by kernel_rfl) (by kernel_rfl)) (by kernel_rfl) (by kernel_rfl)
theorem wS {W:World} {a:Addr} {v:Value} (h:W.cell? a=some v):a.block<W.heap.size:=by
 refine Classical.byContradiction fun q=>?_
 unfold World.cell? at h
 rw[Array.getElem?_eq_none (by omega)]at h
 cases h
abbrev wT:List Int:=[0,1,56,2,57,49,28,3,61,58,42,50,38,29,17,4,62,47,59,36,45,43,51,22,53,39,33,30,24,18,12,5,63,55,48,27,60,41,37,16,46,35,44,21,52,32,23,11,54,26,40,15,34,20,31,10,25,14,19,9,13,8,7,6]
theorem p8 {w:World} {O:Nat→Prop}:∀ {l:List Int},l≠[]→(∀x∈l,0≤x∧x≤255)→Fw.Bl w O (Fw.kD l) (l.map (.int .u8)) (Fw.q8 l)
 | [],h,_=>absurd rfl h
 | [x],_,h=>⟨rfl,(h x (by simp))⟩
 | x :: y :: r,_,h=>⟨[.int .u8 x],(y :: r).map (.int .u8),rfl,⟨rfl,h x (by simp)⟩,p8 (by simp) fun z hz=>h z (by simp[hz])⟩
theorem A0Z {W:World} (h:laidMetH Tryz.prog YT W):Fw.GW W (fun b=>b<W.heap.size) fun _=>False:=by
 rw[MakeChecks.laidMetH_plain _ _ _ (by kernel_rfl)]at h
 obtain⟨ps,⟨g0,t0,qF,f0,p0,q0,hg0,ht0,hv0,hd0,-,-⟩,-,-⟩:=h
 obtain rfl:=Option.some.inj (A1B.symm.trans hg0)
 obtain rfl:=Option.some.inj (A1C.symm.trans ht0)
 obtain⟨xs,m,-,hx,hlc,hlx,hel⟩:=DataW.trod_array A1D hd0
 rw[cU8]at hel
 rw[A1E]at hlc
 simp only[Prod.mk.injEq]at hx
 have hda:(Rows.laid_math_bits_deBruijn64tab:DataW Unit)=.agg (wT.map fun n=>.lit (.int .u8 n)):=rfl
 have h1:=hx.1
 rw[hda]at h1
 injection h1 with h1
 have hcs:qF.toList=wT.map (.int .u8):=by
  apply List.ext_getElem?
  intro i
  by_cases hi:i<64
  ·have h2:=hel i hi
   have h3:(wT.map fun n=>(DataW.lit (.int .u8 n):DataW Unit))[i]?=(xs.map (·.1))[i]?:=by rw[h1]
   rw[List.getElem?_map,List.getElem?_map]at h3
   have hxi:i<xs.length:=by omega
   have hti:i<wT.length:=hi
   rw[List.getElem?_eq_getElem hxi]at h2 h3
   rw[List.getElem?_eq_getElem hti]at h3
   simp only[Option.map_some,Option.some.injEq]at h3
   obtain⟨n,hc1,hc2,-⟩:=DataW.trod_int uU8 h2
   rw[hc2]at h3
   simp only[DataW.lit.injEq,Lit.int.injEq,true_and]at h3
   rw[List.getElem?_map,List.getElem?_eq_getElem hti,Option.map_some,h3]
   have h4:((qF.toList.drop (i*1)).take 1)[0]?=some (.int .u8 n):=by rw[hc1];rfl
   rw[List.getElem?_take_of_lt (by decide),List.getElem?_drop]at h4
   simpa using h4
  ·rw[List.getElem?_eq_none (by omega),List.getElem?_eq_none (by rw[List.length_map];show 64≤i;omega)]
 intro x hxg
 simp only[Fw.gls,List.mem_singleton]at hxg
 subst hxg
 have hcell:=fun j=>World.var?_cell hg0 hv0 j
 refine⟨?_,id,qF.toList,fun j u hj=>?_,?_⟩
 ·have h0:=hcell 0
  rw[←Array.getElem?_toList,hcs]at h0
  exact wS h0
 ·rw[hcell j,←Array.getElem?_toList]
  exact hj
 ·rw[hcs]
  exact p8 (by simp) (by decide)
end Go.Proofs.YtaoonfcjbmcmpaaGreatDoor
