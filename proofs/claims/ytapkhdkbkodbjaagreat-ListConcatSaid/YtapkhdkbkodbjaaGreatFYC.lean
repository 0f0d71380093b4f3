/- Contracts of the program's and the reference's functions, and the plain laws of what they compute: O3 O4 O5 O6 O7 O8 O9 O10 O12 O22 O23 C36 O24 O18 O19 O20 O11 U15 O13 U16 T17 O14 C38 O15 O21 O25 O26 O27 O28 O16 O32. -/
import Derived.Test.YtapkhdkbkodbjaaGreatFYB
import Derived.Test.YtapkhdkbkodbjaaGreatFYA
import Derived.Test.YtapkhdkbkodbjaaGreatFZI
set_option linter.unusedVariables false
set_option linter.unusedSimpArgs false
namespace Go.Proofs.YtapkhdkbkodbjaaGreat.Fw
open Go
attribute [local irreducible] Ev
attribute [local go_sem] rG AN List.toList_toArray B1 evG evK YK FF Lg It Ha Ip VQ PR DU Dj PP DM DN frz vE G8 DW BC GJ Bj AV.frz AV.frzs AV.drp AV.drps AV.names AV.namess aq G9 LU LV VL KK Bp B3 K8 Eu KN Ew KP KO KQ YI So Hz Mn GL Ej YJ Tv qUn K9 Jg OB Fi EM KR LY E4 VN Dg E5 Fj Tw Jh PN Fk PM Sq Tx Na KS LZ E6 EO H0 ER JE Dh Fl Di E7 Gi DM DA Q1 Tu Q8 HT KM KL LX Su VO PO OG OD Lc VP OE Ld eD Sw Sv AV.trn AV.trns FI DT Obj.trn LG mT EP E9 Ek E8 Ck Fm Aq lk Il HN JC bin vC aF vH VM zK zL pfs AV.cells CM K7 Q7 Lb Ss Ca PK Ty.cell1 KJ FJ EL Gg NR E3 LQ NZ Q6 Gf HS OA VJ YH NQ LP d8 lO VK Im DB Hy RV.flat Ty.flat Ty.size St.add upd del Bg Value.oneCell' LT Ty.dflt KH Ua Jm Ug List.take_succ_cons List.take_zero List.length_cons rK rO Uf Lv Py Jo M2 A4u Hb Pl Pm Pn Po Vi Vj Pp Kb bB Option.map_some Option.map_none Option.bind_some Option.getD_some Option.getD_none Option.isNone_none Option.isNone_some Bool.and_true Bool.true_and Bool.and_false Bool.false_and Bool.not_true Bool.not_false if_true if_false List.length_cons List.length_nil and_true true_and and_self List.all_cons List.all_nil List.append_nil List.nil_append List.cons_append List.getElem?_cons_zero List.getElem?_cons_succ List.getElem?_nil List.map_cons List.map_nil List.set_cons_zero List.set_cons_succ List.isEmpty_nil List.isEmpty_cons decide_true decide_false beq_self_eq_true bne_self_eq_false Nat.zero_add Nat.add_zero Nat.sub_zero Int.toNat_natCast Int.toNat_zero Int.toNat_one List.take_length List.length_append List.length_singleton true_or or_true or_self false_or or_false Ty.agg.injEq Ty.slice.injEq Ty.prod.injEq Ty.int.injEq Option.some.injEq beq_iff_eq Mz evMG evMQ opM JN Nh B8 LF Hc TC LE JM Kd My Ls RJ Pu RK Vm Pt Uc Ud Mx AU Ak Op.operands Call.operands List.filterMap_cons List.filterMap_nil List.append_eq Bool.cond_false_right Bool.cond_true_left cond_true cond_false implies_true decide_eq_true_eq beq_true beq_false Bool.or_true Bool.or_false Bool.true_or Bool.false_or Option.isSome_some Array.empty_append List.append_toArray GK PQ Fq Io eC Sr Gh Hn Hm Ji JD La OC aG vF Ii inB Le Ge HV Lf A1 rT List.drop_zero Dl Iw fR CY Lx CU AV.fgt AV.fgts Obj.fgt Ay Aj AU DZ JO BU IB List.any_cons List.any_nil lM mP fS mQ Ik P0 qs List.flatMap_cons List.flatMap_nil List.cons_append tn fY IG List.take_succ_cons List.drop_succ_cons f7 HC BG A0z RU CC CR Ad Fv Lo Bz Fu ET JK Ka HA JL
attribute [local go_sem] ty1 ty2 ty3 ty4 ty5 ty9 A79 A7a A7b A7c A7d A7e A7f A7g A7h A7i A7j A7k A7l A7m A7n A7o A7p A0I A0J A0K A0L A0M A0N A0O A0P A0Q A0R A0S A0T A0U A0V A0W A0X A0Y A0Z A10 A11 A12 A13 A14 A15 A16 A17 A18 A19 A1a A1b A1c A1d A1e A1f A1g A1h A1i A1j A1k A1l A1m A1n A1o A1p A1q
set_option maxRecDepth 100000
set_option maxHeartbeats 4000000
section
attribute [local go_sem] Ja PI Xi
def Ya (h:AG) (w:LW) (f:List AB) (la:Int) (a out:List Int) (m:Int):Option (List Int×Int) :=
 if m=la then some (if BL h w (BE f m)=3 then (out,0) else ([],13)) else if m∈a then some ([],6) else if BL h w (BE f m)=2 then none else some ([],13)
def Eh (h:AG) (w:LW) (f:List AB) (la:Int):Nat->List Int->List Int->Int->List Int×Int
 | 0,_,_,_=>([],6)
 | k+1,a,out,m=>match Ya h w f la a out m with
  | some r=>r
  | none=>Eh h w f la k (a++[m]) (out++[Av (BE f m).2 w.first]) (Av (BE f m).2 w.rest)
def Ap (h:AG) (f:List AB) (n:Int):List Int×Int :=
 if FH h=true then
  if Av (BE f n).2 (AM h).head<0\/Av (BE f n).2 (AM h).last<0 then ([],13)
  else Eh h (AM h) f (Av (BE f n).2 (AM h).last) (f.length+1) [] [] (Av (BE f n).2 (AM h).head)
 else ([],5)
def Nz (h:AG) (w:LW) (f:List AB) (la:Int) (s:WS):Option (List Int×Int):=Ya h w f la s.1 s.2.1 s.2.2.2
def DGo (h:AG) (w:LW) (f:List AB) (la n:Int) (i:Nat):Prop:=∀j,j<i->Nz h w f la (Ao h w f n j)=none
theorem KC {h:AG} {w:LW} {f:List AB} {la:Int} {a out:List Int} {m:Int} (e:Ya h w f la a out m=none):m≠la/\m∉a/\BL h w (BE f m)=2:=by
 unfold Ya at e;split at e
 .cases e
 split at e
 .cases e
 split at e
 .exact⟨by assumption,by assumption,by assumption⟩
 cases e
theorem dN {h:AG} {w:LW} {f:List AB} {la n:Int} {i:Nat} (a:DGo h w f la n i):WGo h w f n i:=λj b=>⟨(KC (a j b)).2.2,(KC (a j b)).2.1⟩
theorem Zz {h:AG} {w:LW} {f:List AB} {la n:Int} (k:Nat):∀i,DGo h w f la n i->Eh h w f la (k+i) [] [] n=Eh h w f la k (Ao h w f n i).1 (Ao h w f n i).2.1 (Ao h w f n i).2.2.2
 | 0,_=>rfl
 | i+1,b=>by
  have c:=Zz (h:=h) (w:=w) (f:=f) (la:=la) (n:=n) (k+1) i (λj d=>b j oa);have a:Ya h w f la (Ao h w f n i).1 (Ao h w f n i).2.1 (Ao h w f n i).2.2.2=none:=b i oa;rw[show k+(i+1)=k+1+i by omega,c];rw[Eh,a];show _=Eh h w f la k (Mi h w f (Ao h w f n i)).1 (Mi h w f (Ao h w f n i)).2.1 (Mi h w f (Ao h w f n i)).2.2.2;unfold Mi;rw[DO (KC a).2.2]
theorem Z0 {h:AG} {w:LW} {f:List AB} {la n:Int} (hf:AO f) (n0:0<=n) (n1:n<(f.length:Int)) {i:Nat} (a:DGo h w f la n i) {r:List Int×Int} (b:Nz h w f la (Ao h w f n i)=some r):Eh h w f la (f.length+1) [] [] n=r:=by
 obtain⟨h1,c,d,-⟩:=K5 hf n0 n1 i (dN a);have hl:=h1.len;rw[show f.length+1=(f.length-i)+1+i by omega,Zz _ _ a,Eh,show Ya h w f la (Ao h w f n i).1 (Ao h w f n i).2.1 (Ao h w f n i).2.2.2=some r from b]
def dE:List (Nat×AV):=[(4,.bp 4 [] 0),(6,.bp 6 [] 0),(7,.bp 7 [] 0),(8,.bp 8 [] 0),(11,.bp 11 [] 0),(12,.bp 12 [] 0),(13,.bp 13 [] 0)]
def dO (h:AG) (w:LW) (f:List AB) (L:Go.Loop) (a:Array Value) (la:Int) (s:WS) (m:Int) (c:AV) (e:Int):List (Nat×Obj):=[(50,.box 3 false [.p T3 m]),(51,BJ h w),(52,.box 25 true [.p G2 f]),(101,.loop L),(102,.frame a dE),(6,.box 61 false [c]),(7,.box 35 false [.p HD e]),(8,BJ h w),(4,.box 25 true [.p G2 f]),(11,.box 3 false [.p T3 la]),(12,.box 61 false [.sr 60 T3 0 s.2.1.length]),(60,.arr 3 T3 s.2.1),(13,.box 119 false [.mp 24]),(24,.mapo T3 .bool (Fb s.1))]
def DRd (h:AG) (w:LW) (f:List AB) (la n:Int) (L:Go.Loop) (a:Array Value) (i:Nat) (b:Bool) (O:List (Nat×Obj)):Prop :=
 (Nz h w f la (Ao h w f n i)=some ((Ao h w f n i).2.1,0)/\b=false/\O=dO h w f (C0 L) a la (Ao h w f n i) (Ao h w f n i).2.2.2 (.sr 60 T3 0 (Ao h w f n i).2.1.length) 0) \/
 (∃e,Nz h w f la (Ao h w f n i)=some ([],e)/\b=false/\O=dO h w f (C0 L) a la (Ao h w f n i) (Ao h w f n i).2.2.2 (.raw (.slice none 0 0)) e) \/
 (Nz h w f la (Ao h w f n i)=none/\b=true/\O=dO h w f L a la (Ao h w f n (i+1)) (Ao h w f n i).2.2.2 (.raw (.slice none 0 0)) 0)
theorem zC (h:AG) (w:LW) (f:List AB) (la n:Int) (B:WOk h w) (hf:AO f) (ht:Cj h f) (n0:0<=n) (n1:n<(f.length:Int)) (L:Go.Loop) (d:Array Value)
  (m:∀i,DGo h w f la n i->WI Tryz.prog 101 [.p T3 (Ao h w f n i).2.2.2] (dO h w f L d la (Ao h w f n i) (Ao h w f n i).2.2.2 (.raw (.slice none 0 0)) 0) [50,51,52,101,102,6,7,8,4,11,12,13,24] (λres l=>∃b,res=.p .bool b/\DRd h w f la n L d i b l)) :
  BT Tryz.prog 139 [.yl 101,.bp 50 [] 0,.bp 51 [] 0,.bp 52 [] 0] (dO h w f L d la (Ao h w f n 0) n (.raw (.slice none 0 0)) 0) [50,51,52,101,102,6,7,8,4,11,12,13,24] (λres l=>res=.raw (.tuple #[])/\∃i,DGo h w f la n i/\DRd h w f la n L d i false l):=by
 refine Nk [0,1,2,3,14] [] [] Tryz.func139 Tryz.ntmps139 (AF Qm (AF Ql AI)) ?_;intro w0 K O0 ρ0 a z A;simp only[A1,dO,BJ];have hy:=m;clear m;repeat'(first|exact trivial|apply eS rfl|apply AC|refine rX a ?_ ?_|refine rC ?_ ?_<;>intro c<;>try(cases c;done))
 refine AL (ι:={i:Nat//DGo h w f la n i}) (λi=>⟨[(0,.yl 101),(1,.bp 50 [] 0),(2,.bp 51 [] 0),(3,.bp 52 [] 0)],dO h w f L d la (Ao h w f n i.1) (Ao h w f n i.1).2.2.2 (.raw (.slice none 0 0)) 0⟩) (λi=>f.length+1-i.1) ⟨0,λj o=>by omega⟩ (AD [(50,.nm 50),(51,.nm 51),(52,.nm 52),(101,.nm 101),(102,.nm 102),(6,.nm 6),(7,.nm 7),(8,.nm 8),(4,.nm 4),(11,.nm 11),(60,.nm 60),(12,.nm 12),(13,.nm 13),(24,.nm 24)] rfl rfl ?_ ?_) (λi=>?_)
 .simp only[dO,BJ,dE,Ao];first|exact eN|refine eM ?_
 .simp only[dO,BJ,dE,Ao];first|exact eN|refine eM ?_
 obtain⟨i,hi⟩:=i;obtain⟨q,u,r,v⟩:=K5 hf n0 n1 i (dN hi);have t:=hy i hi;have x:=q.len;have y:Ao h w f n (i+1)=Mi h w f (Ao h w f n i):=rfl;simp only[dO,BJ,dE];repeat'(first|exact trivial|apply eS rfl|apply AC|refine rX a ?_ ?_|refine rC ?_ ?_<;>intro c<;>try(cases c;done))
 refine cG 2 a ?_ ?_
 .trivial
 refine rY 101 101 a (t) [(50,.nm 50),(51,.nm 51),(52,.nm 52),(101,.nm 101),(102,.nm 102),(6,.nm 6),(7,.nm 7),(8,.nm 8),(4,.nm 4),(11,.nm 11),(60,.nm 60),(12,.nm 12),(13,.nm 13),(24,.nm 24)] [60] ?_ ?_ ?_
 .first|exact eN|refine eM ?_
 .simp only[dO,BJ,dE];first|exact eN|refine eM ?_
 rintro _ _ ⟨b,rfl,k⟩;have s:=k;rcases s with ⟨g,rfl,rfl⟩|⟨e,g,rfl,rfl⟩|⟨g,rfl,rfl⟩
 .refine⟨[(50,.nm 50),(51,.nm 51),(52,.nm 52),(101,.nm 101),(102,.nm 102),(6,.nm 6),(7,.nm 7),(8,.nm 8),(4,.nm 4),(11,.nm 11),(60,.nm 60),(12,.nm 12),(13,.nm 13),(24,.nm 24)],.p .bool false,dO h w f (C0 L) d la (Ao h w f n i) (Ao h w f n i).2.2.2 (.sr 60 T3 0 (Ao h w f n i).2.1.length) 0,rfl,rfl,?_,?_,rfl,rfl,?_⟩
  .simp only[dO,BJ,dE];first|exact eN|refine eM ?_
  .first|exact eN|refine eM ?_
  simp only[dO,BJ,dE];refine rL a ?_ ?_
  .trivial
  repeat'(first|exact trivial|apply eS rfl|apply AC|refine rX a ?_ ?_|refine rC ?_ ?_<;>intro c<;>try(cases c;done))
  refine Ev.ent (σ':=⟨[],dO h w f (C0 L) d la (Ao h w f n i) (Ao h w f n i).2.2.2 (.sr 60 T3 0 (Ao h w f n i).2.1.length) 0⟩) ?_ (AD [(50,.nm 50),(51,.nm 51),(52,.nm 52),(101,.nm 101),(102,.nm 102),(6,.nm 6),(7,.nm 7),(8,.nm 8),(4,.nm 4),(11,.nm 11),(60,.nm 60),(12,.nm 12),(13,.nm 13),(24,.nm 24)] rfl rfl ?_ ?_)
  .exact fM a [] (.raw (.tuple #[])) rfl ⟨rfl,i,hi,k⟩
  .simp only[dO,BJ,dE];first|exact eN|refine eM ?_
  first|exact eN|refine eM ?_
 .refine⟨[(50,.nm 50),(51,.nm 51),(52,.nm 52),(101,.nm 101),(102,.nm 102),(6,.nm 6),(7,.nm 7),(8,.nm 8),(4,.nm 4),(11,.nm 11),(60,.nm 60),(12,.nm 12),(13,.nm 13),(24,.nm 24)],.p .bool false,dO h w f (C0 L) d la (Ao h w f n i) (Ao h w f n i).2.2.2 (.raw (.slice none 0 0)) e,rfl,rfl,?_,?_,rfl,rfl,?_⟩
  .simp only[dO,BJ,dE];first|exact eN|refine eM ?_
  .first|exact eN|refine eM ?_
  simp only[dO,BJ,dE];refine rL a ?_ ?_
  .trivial
  repeat'(first|exact trivial|apply eS rfl|apply AC|refine rX a ?_ ?_|refine rC ?_ ?_<;>intro c<;>try(cases c;done))
  refine Ev.ent (σ':=⟨[],dO h w f (C0 L) d la (Ao h w f n i) (Ao h w f n i).2.2.2 (.raw (.slice none 0 0)) e⟩) ?_ (AD [(50,.nm 50),(51,.nm 51),(52,.nm 52),(101,.nm 101),(102,.nm 102),(6,.nm 6),(7,.nm 7),(8,.nm 8),(4,.nm 4),(11,.nm 11),(60,.nm 60),(12,.nm 12),(13,.nm 13),(24,.nm 24)] rfl rfl ?_ ?_)
  .exact fM a [] (.raw (.tuple #[])) rfl ⟨rfl,i,hi,k⟩
  .simp only[dO,BJ,dE];first|exact eN|refine eM ?_
  first|exact eN|refine eM ?_
 have hk:=KC g;refine⟨[(50,.nm 50),(51,.nm 51),(52,.nm 52),(101,.nm 101),(102,.nm 102),(6,.nm 6),(7,.nm 7),(8,.nm 8),(4,.nm 4),(11,.nm 11),(60,.nm 60),(12,.nm 12),(13,.nm 13),(24,.nm 24)],.p .bool true,dO h w f L d la (Ao h w f n (i+1)) (Ao h w f n i).2.2.2 (.raw (.slice none 0 0)) 0,rfl,rfl,?_,?_,rfl,rfl,?_⟩
 .simp only[dO,BJ,dE];first|exact eN|refine eM ?_
 .first|exact eN|refine eM ?_
 simp only[dO,BJ,dE];refine rL a ?_ ?_
 .trivial
 repeat'(first|exact trivial|apply eS rfl|apply AC|refine rX a ?_ ?_|refine rC ?_ ?_<;>intro c<;>try(cases c;done))
 .exact⟨hf,r⟩
 .refine⟨⟨i+1,λj o=>(Nat.lt_succ_iff_lt_or_eq.1 o).elim (hi j) λe=>by rw[e];exact g⟩,by simp only;omega,AD [(50,.nm 50),(51,.nm 51),(52,.nm 52),(101,.nm 101),(102,.nm 102),(6,.nm 6),(7,.nm 7),(8,.nm 8),(4,.nm 4),(11,.nm 11),(60,.nm 60),(12,.nm 12),(13,.nm 13),(24,.nm 24)] rfl rfl ?_ ?_⟩
  .simp only[dO,BJ,dE];first|exact eN|refine eM ?_
   rfl
  first|exact eN|refine eM ?_
 exact absurd hk.2.2 c
end
section
attribute [local go_sem] Ja PI Xi
theorem qB (h:AG) (f:List AB) (n:Int) (j:AO f) (ht:Cj h f) (n0:0<=n) (n1:n<(f.length:Int)):BT Tryz.prog 38 [.p Ey h,.p D7 f,.p T3 n] [] [] (λres ah=>res=.tup [.p G0 (Ap h f n).1,.p HD (Ap h f n).2]):=by
 refine fKR [0,1,2,3,4,6,7,8,9,10,11,12,13,14,15,22,39,44,45,50,59,63,67] [78] [] Tryz.func38 Tryz.ntmps38 (AF Mc (AF Qm (AF Ql AI))) ?_;intro w0 K O0 ρ0 c ad ae;simp only[A1];have P:(h.1,h.2)=h:=rfl;repeat'(first|exact trivial|apply eS rfl|apply AC|refine rX c ?_ ?_|refine rC ?_ ?_<;>intro d<;>try(cases d;done))
 all_goals simp only[P]at *
 .have k:FH h=false:=by
   cases hb:FH h with
   | true=>rw[hb]at d;exact absurd rfl d
   | false=>rfl
  have r:Ap h f n=([],5):=by unfold Ap;rw[k,BY sc]
  simp only[k,AA0,AAp,r];exact RW c [.cell 6 61,.cell 7 35] rfl (.inl rfl) (.tup [.p G0 [],.p HD 5]) eT rfl
 .exact⟨j,n0,n1⟩
 .have k:FH h=true:=by
   have q:((if FH h=true then (0:Int) else 5) != 0)=false:=by assumption
   cases hb:FH h with
   | false=>rw[hb]at q;exact absurd q dc
   | true=>rfl
  simp only[DO k,zR]at *;have r:Ap h f n=([],13):=by unfold Ap;rw[DO k];exact DO d
  rw[r];exact RW c [.cell 6 61,.cell 7 35] rfl (.inl rfl) (.tup [.p G0 [],.p HD 13]) eT rfl
 have k:FH h=true:=by
  have q:((if FH h=true then (0:Int) else 5) != 0)=false:=by assumption
  cases hb:FH h with
  | false=>rw[hb]at q;exact absurd q dc
  | true=>rfl
 simp only[DO k,zR]at *;have C:=Gx k;have B:=c8 h;have E:WOk h (AM h):=⟨⟨C.2.1,B.1.2.1⟩,C.2.2.1,B.1.2.2.1⟩;have hd:Ap h f n=Eh h (AM h) f (Av (BE f n).2 (AM h).last) (f.length+1) [] [] (Av (BE f n).2 (AM h).head):=by
  unfold Ap;rw[DO k];exact BY (λq=>q.elim (λq=>absurd d.1 (ACe.2 q)) λq=>absurd d.2 (ACe.2 q))
 have t:Av (BE f n).2 (AM h).head<(f.length:Int):=Uu oa _ λx hx=>(J5 j n.toNat x hx).2;have s:0<=Av (BE f n).2 (AM h).head:=d.1;have D:f.getD n.toNat (0,[])=BE f n:=rfl;simp only[D]at *;rw[hd];generalize aa:AM h=w at *;generalize Av (BE f n).2 w.head=a at *;generalize Av (BE f n).2 w.last=la at *;clear D hd d n0 n1;refine Ev.ent (σ':=⟨[(10,.p T3 a),(4,.bp 4 [] 0),(6,.bp 6 [] 0),(7,.bp 7 [] 0),(8,.bp 8 [] 0),(11,.bp 11 [] 0),(12,.bp 12 [] 0),(13,.bp 13 [] 0)],[(6,.box 61 false [.raw (.slice none 0 0)]),(7,.box 35 false [.p HD 0]),(8,BJ h w),(4,.box 25 true [.p G2 f]),(11,.box 3 false [.p T3 la]),(12,.box 61 false [.raw (.slice none 0 0)]),(13,.box 119 false [.mp 24]),(24,.mapo T3 .bool [])]⟩) ?_ (AD [(6,.nm 6),(7,.nm 7),(8,.nm 8),(4,.nm 4),(11,.nm 11),(12,.nm 12),(13,.nm 13),(24,.nm 40)] rfl rfl ?_ ?_)
 .simp only[BJ];refine cP 3 c ?_ ?_
  .trivial
  refine rM c (kP h w f a) [] [] ?_ ?_ ?_
  .simp only[zR];first|exact eN|refine eM ?_
  .first|exact eN|refine eM ?_
  rintro _ _ ⟨rfl,rfl⟩;refine⟨[(50,.nm 5),(52,.nm 4),(51,.nm 3)],.clo 139 [50,51,52],[(50,.box 3 false [.p T3 a]),(52,.box 25 true [.p G2 f]),(51,BJ h w)],rfl,rfl,?_,?_,rfl,rfl,Cu ?_⟩
  .simp only[BJ];first|exact eN|refine eM ?_
  .first|exact eN|refine eM ?_
  simp only[BJ];repeat'(first|exact trivial|apply eS rfl|apply AC|refine rX c ?_ ?_|refine rC ?_ ?_<;>intro d<;>try(cases d;done))
  refine WK c rfl rfl (by simp only[go_sem,Nat.reduceEqDiff,reduceCtorEq,Nat.reduceAdd,Nat.reduceSub,Nat.reduceMul,Nat.reduceLeDiff,Nat.reduceLT,Int.reduceLE,Int.reduceToNat,Int.reduceNeg,↓reduceIte];rfl) 101 103 102 rfl rfl rfl rfl ?_;intro L l A H I J M N V;refine⟨_,dO h w f L l la (Ao h w f a 0) a (.raw (.slice none 0 0)) 0,[50,51,52,101,102,6,7,8,4,11,12,13,24],_,[(50,.nm 50),(51,.nm 51),(52,.nm 52),(101,.nm 101),(102,.nm 102),(6,.nm 6),(7,.nm 7),(8,.nm 8),(4,.nm 4),(11,.nm 11),(60,.nil),(12,.nm 12),(13,.nm 13),(24,.nm 24)],[60],zC h w f la a E j ht s t L l ?_,rfl,rfl,?_,?_,rfl,?_⟩
  .intro i hi;obtain⟨G,Y,z,Z⟩:=K5 j s t i (dN hi);have ab:=G.len;have u:=tJ (Ao h w f a i).1 (Ao h w f a i).2.2.2;have R:lwO (h,w.list,w.cons,w.null,w.dlist,w.first,w.rest,w.head,w.last)=w:=rfl;have S:Fb (Ao h w f a (i+1)).1=Fh T3 .bool (Ao h w f a i).2.2.2 true (Fb (Ao h w f a i).1):=by
    show Fb ((Ao h w f a i).1++[(Ao h w f a i).2.2.2])=_;simp[Fb]
   have hT:=c.T;have hF:=c.F;refine WJ (fr:=102) rfl rfl A J M N I V rfl (by kernel_rfl) sc rfl rfl (by kernel_rfl) (by kernel_rfl) hT hF ?_;intro ai W X aj lb c af ag hb;simp only[dO,BJ,dE,HC];repeat'(first|exact trivial|apply eS rfl|apply AC|refine rX c ?_ ?_|refine rC ?_ ?_<;>intro d<;>try(cases d;done))
   refine⟨rfl,?_⟩;repeat'(first|exact trivial|apply eS rfl|apply AC|refine rX c ?_ ?_|refine rC ?_ ?_<;>intro d<;>try(cases d;done))
   all_goals try simp only[R]at *
   all_goals try simp only[show ∀m:Int,f.getD m.toNat (0,[])=BE f m from λ_=>rfl]at *
   .exact⟨E,j,ht,z⟩
   .have g:Nz h w f la (Ao h w f a i)=some ((Ao h w f a i).2.1,0):=(DO d.1).trans (by rw[DO d.2]);refine Ev.ent (σ':=⟨[],dO h w f { L with state:=.busy } l la (Ao h w f a i) (Ao h w f a i).2.2.2 (.sr 60 T3 0 (Ao h w f a i).2.1.length) 0⟩) ?_ (AD [(50,.nm 50),(51,.nm 51),(52,.nm 52),(101,.nm 101),(102,.nm 102),(6,.nm 6),(7,.nm 7),(8,.nm 8),(4,.nm 4),(11,.nm 11),(60,.nm 60),(12,.nm 12),(13,.nm 13),(24,.nm 24)] rfl rfl ?_ ?_)
    .refine Hr c (yn:=101) rfl rfl sc hb ⟨false,rfl,.inl ⟨g,rfl,?_⟩⟩;simp only[dO,BJ,dE,C0,go_sem,Nat.reduceEqDiff,reduceCtorEq,Nat.reduceAdd,Nat.reduceSub,Nat.reduceMul,Nat.reduceLeDiff,Nat.reduceLT,Int.reduceLE,Int.reduceToNat,Int.reduceNeg,↓reduceIte]
    .simp only[dO,BJ,dE];first|exact eN|refine eM ?_
    first|exact eN|refine eM ?_
   .have g:Nz h w f la (Ao h w f a i)=some ([],13):=(DO (by assumption)).trans (by rw[BY (d (by assumption))]);refine Ev.ent (σ':=⟨[],dO h w f { L with state:=.busy } l la (Ao h w f a i) (Ao h w f a i).2.2.2 (.raw (.slice none 0 0)) 13⟩) ?_ (AD [(50,.nm 50),(51,.nm 51),(52,.nm 52),(101,.nm 101),(102,.nm 102),(6,.nm 6),(7,.nm 7),(8,.nm 8),(4,.nm 4),(11,.nm 11),(60,.nm 60),(12,.nm 12),(13,.nm 13),(24,.nm 24)] rfl rfl ?_ ?_)
    .refine Hr c (yn:=101) rfl rfl sc hb ⟨false,rfl,.inr (.inl ⟨13,g,rfl,?_⟩)⟩;simp only[dO,BJ,dE,C0,go_sem,Nat.reduceEqDiff,reduceCtorEq,Nat.reduceAdd,Nat.reduceSub,Nat.reduceMul,Nat.reduceLeDiff,Nat.reduceLT,Int.reduceLE,Int.reduceToNat,Int.reduceNeg,↓reduceIte]
    .simp only[dO,BJ,dE];first|exact eN|refine eM ?_
    first|exact eN|refine eM ?_
   .have Q:(Ao h w f a i).2.2.2∈(Ao h w f a i).1:=by
     have o:(BX T3 .bool (Ao h w f a i).2.2.2 (Fb (Ao h w f a i).1)).getD false=true:=by assumption
     rw[u]at o;simpa[inF] using o
    have g:Nz h w f la (Ao h w f a i)=some ([],6):=(BY (by assumption)).trans (DO Q);refine Ev.ent (σ':=⟨[],dO h w f { L with state:=.busy } l la (Ao h w f a i) (Ao h w f a i).2.2.2 (.raw (.slice none 0 0)) 6⟩) ?_ (AD [(50,.nm 50),(51,.nm 51),(52,.nm 52),(101,.nm 101),(102,.nm 102),(6,.nm 6),(7,.nm 7),(8,.nm 8),(4,.nm 4),(11,.nm 11),(60,.nm 60),(12,.nm 12),(13,.nm 13),(24,.nm 24)] rfl rfl ?_ ?_)
    .refine Hr c (yn:=101) rfl rfl sc hb ⟨false,rfl,.inr (.inl ⟨6,g,rfl,?_⟩)⟩;simp only[dO,BJ,dE,C0,go_sem,Nat.reduceEqDiff,reduceCtorEq,Nat.reduceAdd,Nat.reduceSub,Nat.reduceMul,Nat.reduceLeDiff,Nat.reduceLT,Int.reduceLE,Int.reduceToNat,Int.reduceNeg,↓reduceIte]
    .simp only[dO,BJ,dE];first|exact eN|refine eM ?_
    first|exact eN|refine eM ?_
   .have y:(Ao h w f a i).2.2.2∉(Ao h w f a i).1:=by
     have o:(BX T3 .bool (Ao h w f a i).2.2.2 (Fb (Ao h w f a i).1)).getD false=false:=by assumption
     rw[u]at o;intro v;have:=AB5.1 o _ v;simp at this
    have g:Nz h w f la (Ao h w f a i)=some ([],13):=(BY (by assumption)).trans ((BY y).trans (BY (by assumption)));refine Ev.ent (σ':=⟨[],dO h w f { L with state:=.busy } l la (Ao h w f a i) (Ao h w f a i).2.2.2 (.raw (.slice none 0 0)) 13⟩) ?_ (AD [(50,.nm 50),(51,.nm 51),(52,.nm 52),(101,.nm 101),(102,.nm 102),(6,.nm 6),(7,.nm 7),(8,.nm 8),(4,.nm 4),(11,.nm 11),(60,.nm 60),(12,.nm 12),(13,.nm 13),(24,.nm 24)] rfl rfl ?_ ?_)
    .refine Hr c (yn:=101) rfl rfl sc hb ⟨false,rfl,.inr (.inl ⟨13,g,rfl,?_⟩)⟩;simp only[dO,BJ,dE,C0,go_sem,Nat.reduceEqDiff,reduceCtorEq,Nat.reduceAdd,Nat.reduceSub,Nat.reduceMul,Nat.reduceLeDiff,Nat.reduceLT,Int.reduceLE,Int.reduceToNat,Int.reduceNeg,↓reduceIte]
    .simp only[dO,BJ,dE];first|exact eN|refine eM ?_
    first|exact eN|refine eM ?_
   .refine⟨⟨j,z⟩,?_⟩;have:=j.1;simp only[AP];omega
   have y:(Ao h w f a i).2.2.2∉(Ao h w f a i).1:=by
    have o:(BX T3 .bool (Ao h w f a i).2.2.2 (Fb (Ao h w f a i).1)).getD false=false:=by assumption
    rw[u]at o;intro v;have:=AB5.1 o _ v;simp at this
   have hk:BL h w (BE f (Ao h w f a i).2.2.2)=2:=by simpa using d
   have g:Nz h w f la (Ao h w f a i)=none:=(BY (by assumption)).trans ((BY y).trans (DO hk));have U:(Ao h w f a (i+1)).2.1=(Ao h w f a i).2.1++[Av (BE f (Ao h w f a i).2.2.2).2 w.first]:=DO hk;refine Ev.ent (σ':=⟨[],dO h w f { L with state:=.busy } l la (Ao h w f a (i+1)) (Ao h w f a i).2.2.2 (.raw (.slice none 0 0)) 0⟩) ?_ (AD [(50,.nm 50),(51,.nm 51),(52,.nm 52),(101,.nm 101),(102,.nm 102),(6,.nm 6),(7,.nm 7),(8,.nm 8),(4,.nm 4),(11,.nm 11),(60,.nm 60),(12,.nm 12),(13,.nm 13),(24,.nm 24)] rfl rfl ?_ ?_)
   .refine M5 c (yn:=101) rfl rfl sc hb ⟨true,rfl,.inr (.inr ⟨g,rfl,?_⟩)⟩;simp only[dO,BJ,dE,go_sem,Nat.reduceEqDiff,reduceCtorEq,Nat.reduceAdd,Nat.reduceSub,Nat.reduceMul,Nat.reduceLeDiff,Nat.reduceLT,Int.reduceLE,Int.reduceToNat,Int.reduceNeg,↓reduceIte,QY A H]
   .simp only[dO,BJ,dE,S,U];first|exact eN|refine eM ?_
   first|exact eN|refine eM ?_
  .simp only[BG,dO,BJ,dE,Ao];first|exact eN|refine eM ?_
  .simp only[BG,dO,BJ,dE,Ao];first|exact eN|refine eM ?_
   rfl
  rintro _ _ ⟨rfl,i,hi,O⟩;rcases O with ⟨g,-,rfl⟩|⟨e,g,-,rfl⟩|⟨g,q,rfl⟩
  .have r:=Z0 j s t hi g;refine⟨[(50,.nm 50),(51,.nm 51),(52,.nm 52),(101,.nm 101),(102,.nm 102),(6,.nm 6),(7,.nm 7),(8,.nm 8),(4,.nm 4),(11,.nm 11),(60,.nm 60),(12,.nm 12),(13,.nm 13),(24,.nm 24)],dO h w f (C0 L) l la (Ao h w f a i) (Ao h w f a i).2.2.2 (.sr 60 T3 0 (Ao h w f a i).2.1.length) 0,C0 L,rfl,rfl,?_,rfl,rfl,rfl,rfl,?_⟩
   .simp only[dO,BJ,dE];first|exact eN|refine eM ?_
   intro b;simp only[C0,EvJ,dO,BJ,dE,BG,go_sem,Nat.reduceEqDiff,reduceCtorEq,Nat.reduceAdd,Nat.reduceSub,Nat.reduceMul,Nat.reduceLeDiff,Nat.reduceLT,Int.reduceLE,Int.reduceToNat,Int.reduceNeg,↓reduceIte];replace c:=Hs (dn:=103) (b:=b) c;refine GB [60] ?_;repeat'(first|exact trivial|apply eS rfl|apply AC|refine rX c ?_ ?_|refine rC ?_ ?_<;>intro d<;>try(cases d;done))
   refine Ev.ent (σ':=⟨[(6,.bp 6 [] 0),(7,.bp 7 [] 0)],[(6,.box 61 false [.p G0 (Ao h w f a i).2.1]),(7,.box 35 false [.p HD 0]),(103,.dfr)]⟩) ?_ (AD [(6,.nm 6),(7,.nm 7),(103,.nm 103)] rfl rfl ?_ ?_)
   .rw[r];exact Jq c [.cell 6 61,.cell 7 35] rfl (.inl rfl) rfl rfl (.tup [.p G0 (Ao h w f a i).2.1,.p HD 0]) eT rfl
   .first|exact eN|refine eM ?_
   first|exact eN|refine eM ?_
  .have r:=Z0 j s t hi g;refine⟨[(50,.nm 50),(51,.nm 51),(52,.nm 52),(101,.nm 101),(102,.nm 102),(6,.nm 6),(7,.nm 7),(8,.nm 8),(4,.nm 4),(11,.nm 11),(60,.nm 60),(12,.nm 12),(13,.nm 13),(24,.nm 24)],dO h w f (C0 L) l la (Ao h w f a i) (Ao h w f a i).2.2.2 (.raw (.slice none 0 0)) e,C0 L,rfl,rfl,?_,rfl,rfl,rfl,rfl,?_⟩
   .simp only[dO,BJ,dE];first|exact eN|refine eM ?_
   intro b;simp only[C0,EvJ,dO,BJ,dE,BG,go_sem,Nat.reduceEqDiff,reduceCtorEq,Nat.reduceAdd,Nat.reduceSub,Nat.reduceMul,Nat.reduceLeDiff,Nat.reduceLT,Int.reduceLE,Int.reduceToNat,Int.reduceNeg,↓reduceIte];replace c:=Hs (dn:=103) (b:=b) c;repeat'(first|exact trivial|apply eS rfl|apply AC|refine rX c ?_ ?_|refine rC ?_ ?_<;>intro d<;>try(cases d;done))
   refine Ev.ent (σ':=⟨[(6,.bp 6 [] 0),(7,.bp 7 [] 0)],[(6,.box 61 false [.p G0 []]),(7,.box 35 false [.p HD e]),(103,.dfr)]⟩) ?_ (AD [(6,.nm 6),(7,.nm 7),(103,.nm 103)] rfl rfl ?_ ?_)
   .rw[r];exact Jq c [.cell 6 61,.cell 7 35] rfl (.inl rfl) rfl rfl (.tup [.p G0 [],.p HD e]) eT rfl
   .first|exact eN|refine eM ?_
   first|exact eN|refine eM ?_
  cases q
 .simp only[BJ];first|exact eN|refine eM ?_
 first|exact eN|refine eM ?_
end
section
attribute [local go_sem] Gy p8 dJ dL Xu A3e SJ dM zO zP
def KD:Ab:={ ins:=[Ey,D7,T3],pre:=λ(h,f,n,_)=>AO f/\Cj h f/\(0:Int)<=n/\n<(List.length f:Int),out:=λ(h,f,n,_)=>[.p G0 (Ap h f n).1,.p HD (Ap h f n).2] }
attribute [local go_sem] KD
theorem Ts:Ag Tryz.prog 38 KD:=by
 refine Nl ⟨_,Tryz.func38,by kernel_rfl,by kernel_rfl⟩ (λds e=>?_) (λds r a=>?_)
 .obtain⟨h,f,n,u⟩:=ds;obtain⟨h1,b,c,d⟩:=e;refine⟨[.p Ey h,.p D7 f,.p T3 n],λw O q g=>?_,qB h f n h1 b c d⟩;obtain⟨v1,l1,rfl,i,l,l2,rfl,j,m,o,rfl,k,rfl⟩:=g;exact⟨v1,_,rfl,Jr i,l,_,rfl,Jr j,m,_,rfl,Jr k,rfl⟩
 simp only[KD,At,TO,AAw]at a;rcases a with rfl|rfl
 .exact⟨_,_,rfl⟩
 exact⟨_,_,rfl⟩
end
section
attribute [local go_sem] KD SJ dM
theorem Z1 {h:AG} {w:LW} {f:List AB} {la:Int} (hf:AO f):∀(k:Nat) (b out:List Int) (n:Int),(∀x∈out,0<=x/\x<(f.length:Int))->(∀x∈(Eh h w f la k b out n).1,0<=x/\x<(f.length:Int))/\(Eh h w f la k b out n).1.length<=out.length+k/\((Eh h w f la k b out n).2≠0->(Eh h w f la k b out n).1=[])
 | 0,_,_,_,_=>⟨λx hx=>(by cases hx),ON _,λ_=>rfl⟩
 | k+1,b,out,n,g=>by
  have c:∀e:Int,(∀x∈(([],e):List Int×Int).1,0<=x/\x<(f.length:Int))/\(([],e):List Int×Int).1.length<=out.length+(k+1)/\((([],e):List Int×Int).2≠0->(([],e):List Int×Int).1=[]):=λe=>⟨λx hx=>(by cases hx),ON _,λ_=>rfl⟩;rw[Eh];cases a:Ya h w f la b out n with
  | some r =>
   unfold Ya at a;simp only;split at a
   .cases a;split
    .exact⟨g,Nat.le_add_right _ _,λq=>absurd rfl q⟩
    exact c 13
   split at a
   .cases a;exact c 6
   split at a
   .cases a
   cases a;exact c 13
  | none =>
   have hk:=(KC a).2.2;have j:0<=Av (BE f n).2 w.first/\Av (BE f n).2 w.first<(f.length:Int):=by
    have i:=(NH hk).1;have l:f.length≠0:=by
     intro q;have:f=[]:=List.length_eq_zero_iff.1 q;subst this;simp[Av,BE]at i
    exact⟨i,Uu oa _ λx hx=>(J5 hf n.toNat x hx).2⟩
   have d:=Z1 (h:=h) (w:=w) (la:=la) hf k (b++[n]) (out++[Av (BE f n).2 w.first]) (Av (BE f n).2 w.rest) (λx hx=>by
    rcases Do.1 hx with q|q
    .exact g x q
    rw[SQ.1 q];exact j)
   refine⟨d.1,?_,d.2.2⟩;have:=d.2.1;rw[As,If]at this;simp only;omega
theorem kS {h:AG} {f:List AB} (hf:AO f) (n:Int):((∀x∈(Ap h f n).1,0<=x/\x<(f.length:Int))/\(Ap h f n).1.length<=200000)/\((Ap h f n).2≠0->(Ap h f n).1=[]):=by
 unfold Ap;split
 .split
  .exact⟨⟨λx hx=>(by cases hx),ON _⟩,λ_=>rfl⟩
  have:=Z1 (h:=h) (w:=AM h) (la:=Av (BE f n).2 (AM h).last) hf (f.length+1) [] [] (Av (BE f n).2 (AM h).head) (λx hx=>by cases hx);have hl:=hf.1;refine⟨⟨this.1,?_⟩,this.2.2⟩;have:=this.2.1;simp only[AA1]at this;omega
 exact⟨⟨λx hx=>(by cases hx),ON _⟩,λ_=>rfl⟩
def NM (h:AG) (f:List AB):List (List AB)×Int:=(LO f (Ap h f 0).1,(Ap h f 0).2)
def Mj:Ab:={ ins:=[Ey,D7],pre:=λ(h,f,_)=>AO f/\IX f/\Cj h f/\0<List.length f,out:=λ(h,f,_)=>[.p Um (NM h f).1,.p HD (NM h f).2] }
attribute [local go_sem] Mj
theorem qC:Ag Tryz.prog 40 Mj:=by
 refine fK [0,1,2,3,4,5,6,7] Tryz.func40 Tryz.ntmps40 (AF Ts (AF A3g AI)) ?_;rintro w0 O0 ⟨h,f,u⟩ c-⟨h1,a,b,g⟩;have h1:AO f:=h1;have a:IX f:=a;have b:Cj h f:=b;have d:=(kS (h:=h) h1 0).1;have i:(h.1,h.2)=h:=rfl;simp only[Mj,AN];repeat'(first|exact trivial|apply eS rfl|apply AC|refine rX c ?_ ?_|refine rC ?_ ?_<;>intro e<;>try(cases e;done))
 all_goals try simp only[i]at *
 .exact⟨h1,b,IN.2 g⟩
 .exact⟨h1,a,d.2,d.1⟩
 exact fI c [.tmp 4,.tmp 5] (by unfold NM;exact eR)
end
theorem VE (l b:List AB) (g:AO b) (hl:l.length<=200000):BT Tryz.prog 98 [.sr 50 He 0 l.length,.p G2 b] [(50,.arr 93 He l)] [] (λres y=>res=.sr 50 He 0 (l++NL l.length b b.length).length/\y=[(50,.arr 93 He (l++NL l.length b b.length))]):=by
 refine Nk [0,1,4,5,7,8,10,13,14,15,16,23,24,25,26] [38] [] Tryz.func98 Tryz.ntmps98 AI ?_;intro w0 K O0 ρ0 e C D;simp only[A1];have B:=g.1;repeat'(first|exact trivial|apply eS rfl|apply AC|refine rX e ?_ ?_|refine rC ?_ ?_<;>intro c<;>try(cases c;done))
 refine AL (ι:={i:Nat//i<=b.length}) (λi=>⟨[(0,.sr 50 He 0 (l++NL l.length b i.1).length),(5,.p (.int .i64) (l.length:Int)),(13,.p G2 b),(14,.p (.int .i64) (b.length:Int)),(15,.p (.int .i64) (i.1:Int))],[(50,.arr 93 He (l++NL l.length b i.1))]⟩) (λi=>b.length-i.1) ⟨0,ON _⟩ (AD [(50,.nm 50)] rfl rfl ?_ ?_) (λi=>?_)
 .have f:l++NL l.length b 0=l:=by simp[NL]
  simp only[f];first|exact eN|refine eM ?_
 .have f:l++NL l.length b 0=l:=by simp[NL]
  simp only[f];first|exact eN|refine eM ?_
 obtain⟨i,hi⟩:=i;have v:=Hk l.length b hi;have o:=λh:i<b.length=>kM l.length b h;simp only;generalize m:NL l.length b i=os at *;repeat'(first|exact trivial|apply eS rfl|apply AC|refine rX e ?_ ?_|refine rC ?_ ?_<;>intro c<;>try(cases c;done))
 .exact c
 .have k:i<b.length:=IN.1 c;have n:=J5 g i;have w:(b.getD i (0,[])).2.length<=100000:=(g.2 _ (AE b (0,[]) k)).1;generalize hx:b.getD i (0,[])=x at *;obtain⟨z,xs⟩:=x;simp only at n w o ⊢;refine AL (ι:={j:Nat//j<=xs.length}) (λj=>⟨[(0,.sr 50 He 0 (l++os).length),(5,.p (.int .i64) (l.length:Int)),(13,.p G2 b),(14,.p (.int .i64) (b.length:Int)),(15,.p (.int .i64) (i:Int)),(8,.bp 8 [] 0),(23,.p DK xs),(24,.p (.int .i64) (xs.length:Int)),(25,.p (.int .i64) (j.1:Int))],[(50,.arr 93 He (l++os)),(8,.box 93 true [.p T3 z,.sr 39 A2 0 (AR l.length (xs.take j.1)).length]),(39,.arr 106 A2 (AR l.length (xs.take j.1)))]⟩) (λj=>xs.length-j.1) ⟨0,ON _⟩ (AD [(50,.nm 50),(8,.nm 8),(39,.nil)] rfl rfl ?_ ?_) (λj=>?_)
  .first|exact eN|refine eM ?_
   try exact⟨rfl,rfl⟩
  .first|exact eN|refine eM ?_
  obtain⟨j,A⟩:=j;have r:(AR l.length (xs.take j)).length=j:=by unfold AR;rw[OF,OS];omega
  have s:=λh:j<xs.length=>CK (λa:Int×Int=>(a.1,a.2+(l.length:Int))) xs (0,0) h;simp only;repeat'(first|exact trivial|apply eS rfl|apply AC|refine rX e ?_ ?_|refine rC ?_ ?_<;>intro c<;>try(cases c;done))
  .exact c
  .have d:j<xs.length:=IN.1 c;have E:=n _ (AE xs (0,0) d);refine⟨⟨by omega,by omega⟩,?_⟩;rw[r];simp only[AP];omega
  .omega
  .have d:j<xs.length:=IN.1 c;have t:AR l.length (xs.take (j+1))=AR l.length (xs.take j)++[((xs.getD j (0,0)).1,(xs.getD j (0,0)).2+(l.length:Int))]:=s d;refine⟨⟨j+1,d⟩,by simp only;omega,AD [(50,.nm 50),(8,.nm 8),(39,.nm 39)] rfl rfl ?_ ?_⟩
   .simp only[t];first|exact eN|refine eM ?_
   first|exact eN|refine eM ?_
  .simp only[As,v,AP];omega
  .omega
  have d:xs.take j=xs:=By (SY.1 c);have q:=o k;rw[d];refine⟨⟨i+1,k⟩,by simp only;omega,AD [(50,.nm 50)] rfl rfl ?_ ?_⟩
  .simp only[q,<-SZ];first|exact eN|refine eM ?_
  simp only[q,<-SZ];first|exact eN|refine eM ?_
 have u:i=b.length:=by
  have:=SY.1 c;omega
 subst u;refine Ev.ent (σ':=⟨[(4,.sr 50 He 0 (l++os).length)],[(50,.arr 93 He (l++os))]⟩) ?_ (AD [(50,.nm 50)] rfl rfl ?_ ?_)
 .exact fM e [.tmp 4] (.sr 50 He 0 (l++os).length) eT ⟨by rw[m],by rw[m]⟩
 .first|exact eN|refine eM ?_
 first|exact eN|refine eM ?_
section
def Fe:List (List AB)->Int->Bool
 | [],_=>true
 | x :: l,m=>if 4096<m+(1+(x.length:Int)) then false else Fe l (m+(1+(x.length:Int)))
def Xv:Ab:={ ins:=[Um,T3],pre:=λ(l,m,_)=>(∀x∈(l:List (List AB)),x.length<=100000)/\0<=m/\m<=4096,out:=λ(l,m,_)=>[.p .bool (Fe l m)],lend:=true }
attribute [local go_sem] Xv
theorem kT:Ag Tryz.prog 105 Xv:=by
 refine fK [0,1,4,6,7,8,9,10,20] Tryz.func105 Tryz.ntmps105 AI ?_;rintro w0 O0 ⟨l,m,u⟩ d q ⟨h1,h,i⟩;have o:List.length l<=AP:=q.1.1;simp only[AP]at o;have h:(0:Int)<=m:=h;have i:(m:Int)<=4096:=i;simp only[Xv,AN];repeat'(first|exact trivial|apply eS rfl|apply AC|refine rX d ?_ ?_|refine rC ?_ ?_<;>intro a<;>try(cases a;done))
 refine AL (ι:={k:Nat×Int//k.1<=List.length l/\Fe l m=Fe (List.drop k.1 l) k.2/\0<=k.2/\k.2<=4096}) (λk=>⟨[(1,.p T3 k.1.2),(7,.p Um l),(8,.p (.int .i64) (List.length l:Int)),(9,.p (.int .i64) (k.1.1:Int))],[]⟩) (λk=>List.length l-k.1.1) ⟨(0,m),ON _,rfl,h,i⟩ (AD [] rfl rfl ?_ ?_) (λk=>?_)
 .first|exact eN|refine eM ?_
 .first|exact eN|refine eM ?_
 obtain⟨⟨k,c⟩,hk,f,c0,c1⟩:=k;simp only at hk f c0 c1 ⊢;have j:k<List.length l->List.length (List.getD l k [])<=100000/\Fe (List.drop k l) c=if 4096<c+(1+(List.length (List.getD l k []):Int)) then false else Fe (List.drop (k+1) l) (c+(1+(List.length (List.getD l k []):Int))):=λb=>by
  have e:List.getD l k []=l[k]:=by rw[AS,AT b];rfl
  refine⟨by rw[e];exact h1 _ (aT b),?_⟩;rw[SR b,e];rfl
 repeat'(first|exact trivial|apply eS rfl|apply AC|refine rX d ?_ ?_|refine rC ?_ ?_<;>intro a<;>try(cases a;done))
 .exact a
 .have g:=(j (IN.1 a)).1;omega
 .have g:=(j (IN.1 (by assumption))).2;have n:Fe l m=false:=by rw[f,g,DO a]
  exact fI d [.tmp 4] (by rw[n];exact eR)
 .omega
 .have b:k<List.length l:=IN.1 (by assumption);have g:=(j b).2;refine⟨⟨(k+1,c+(1+(List.length (List.getD l k []):Int))),b,by rw[f,g,BY (AAB.2 a)],by simp only;omega,a⟩,by simp only;omega,AD [] rfl rfl ?_ ?_⟩
  .first|exact eN|refine eM ?_
  first|exact eN|refine eM ?_
 have b:k=List.length l:=AAy hk (SY.1 a);have n:Fe l m=true:=by rw[f,b,AAV];rfl
 exact fI d [.tmp 4] (by rw[n];exact eR)
def B5 (c a b:Int) (N x:List AB):List AB:=(N++[(c,[(a,(N.length:Int)+1),(b,(N.length:Int)+1+(x.length:Int))])])++NL (N.length+1) x x.length
def SK (c a b:Int) (l:List (List AB)):List AB:=l.foldl (B5 c a b) []
theorem A3i (c a b:Int) {l:List (List AB)} {k:Nat} (hk:k<l.length):SK c a b (l.take (k+1))=B5 c a b (SK c a b (l.take k)) (l.getD k []):=by
 unfold SK;rw[AC0,AT hk,AS,AT hk];rw[AAO];rfl
theorem Gb (c a b:Int) (N x:List AB):(B5 c a b N x).length=N.length+1+x.length:=by
 unfold B5;rw[As,As,Hk _ _ (No _)];rfl
def Dd (c a b t:Int) (l:List (List AB)):List AB:=SK c a b l++[(t,[])]
def Qw:Ab:={ ins:=[YO,Um,T3],pre:=λ(_,l,_)=>(∀x∈(l:List (List AB)),AO x)/\∀k,(SK 0 0 0 (List.take k l)).length<=100000,out:=λ(W,l,t,_)=>[.p D7 (Dd W.2.2.1 W.2.2.2.2.2.1 W.2.2.2.2.2.2.1 t l),.p T3 ((Dd W.2.2.1 W.2.2.2.2.2.1 W.2.2.2.2.2.2.1 t l).length-1:Int)] }
attribute [local go_sem] Qw
theorem dP (c a b:Int) (l:List (List AB)):(SK c a b l).length=(SK 0 0 0 l).length:=by
 have key:∀(l:List (List AB)) (N M:List AB),N.length=M.length->(l.foldl (B5 c a b) N).length=(l.foldl (B5 0 0 0) M).length:=by
  intro l;induction l with
  | nil=>exact λ_ _ h=>h
  | cons x l d=>exact λN M h=>d _ _ (by rw[Gb,Gb,h])
 exact key l [] [] rfl
theorem Z2:Ag Tryz.prog 106 Qw:=by
 refine fKP [0,1,2,3,6,7,8,10,11,12,13,14,15] [39,41,55] [] Tryz.func106 Tryz.ntmps106 AI ?_;rintro w0 O0 ⟨⟨h,v,c,w,y,d,e,z,A⟩,l,t,u⟩ a q ⟨h1,j⟩;have o:List.length l<=AP:=q.2.1.1;simp only[AP]at o;simp only[Qw,AN];repeat'(first|exact trivial|apply eS rfl|apply AC|refine rX a ?_ ?_|refine rC ?_ ?_<;>intro b<;>try(cases b;done))
 refine AL (ι:={k:Nat//k<=List.length l}) (λk=>⟨[(2,.p T3 t),(3,.bp 3 [] 0),(6,.bp 6 [] 0),(8,.bp 8 [] 0),(12,.p Um l),(13,.p (.int .i64) (List.length l:Int)),(14,.p (.int .i64) (k.1:Int))],[(3,.box 115 true [.p Ey h,.p T3 v,.p T3 c,.p T3 w,.p T3 y,.p T3 d,.p T3 e,.p T3 z,.p T3 A]),(6,.box 25 true [.raw (.slice none 0 0)]),(8,.box 25 true [.sr 42 He 0 (SK c d e (List.take k.1 l)).length]),(42,.arr 93 He (SK c d e (List.take k.1 l)))]⟩) (λk=>List.length l-k.1) ⟨0,ON _⟩ (AD [(3,.nm 3),(6,.nm 6),(8,.nm 8),(42,.nil)] rfl rfl ?_ ?_) (λk=>?_)
 .first|exact eN|refine eM ?_
  exact⟨rfl,rfl⟩
 .first|exact eN|refine eM ?_
 obtain⟨k,hk⟩:=k;have s:=λh=>A3i c d e (l:=l) (k:=k) h;have i:k<List.length l->AO (List.getD l k []):=λf=>by
  rw[AS,AT f];exact h1 _ (aT f)
 have hb:=j k;rw[<-dP c d e]at hb;simp only;generalize m:SK c d e (List.take k l)=N at *;repeat'(first|exact trivial|apply eS rfl|apply AC|refine rP a ?_ ?_|refine rC ?_ ?_<;>intro b<;>try(cases b;done))
 .exact b
 .have f:=i (IN.1 b);have:=f.1;simp only[AP];omega
 .have f:k<List.length l:=IN.1 b;have n:=i f;have hs:=s f;generalize hx:List.getD l k []=x at *;have B:=Hk (N.length+1) x (No _);have g:=VE (N++[(c,[(d,(N.length:Int)+1),(e,(N.length:Int)+1+(x.length:Int))])]) x n (by rw[As,If];omega);rw[show (N++[(c,[(d,(N.length:Int)+1),(e,(N.length:Int)+1+(x.length:Int))])]).length=N.length+1 by rw[As,If]]at g;refine cP 4 a ?_ ?_
  .trivial
  refine rM a (g) [(50,.nm 42)] [42] ?_ ?_ ?_
  .exact eN
  .exact eN
  rintro _ _ ⟨rfl,rfl⟩;refine⟨[(42,.nm 50)],.sr 42 He 0 (SK c d e (List.take (k+1) l)).length,[(42,.arr 93 He (SK c d e (List.take (k+1) l)))],rfl,rfl,?_,?_,rfl,rfl,?_⟩
  .rw[hs];unfold B5;exact eN
  .rw[hs];unfold B5;exact eN
  refine rL a ?_ ?_
  .trivial
  repeat'(first|exact trivial|apply eS rfl|apply AC|refine rX a ?_ ?_|refine rC ?_ ?_<;>intro b<;>try(cases b;done))
  .omega
  refine⟨⟨k+1,f⟩,by simp only;omega,AD [(3,.nm 3),(6,.nm 6),(8,.nm 8),(42,.nm 42)] rfl rfl ?_ ?_⟩
  .first|exact eN|refine eM ?_
  first|exact eN|refine eM ?_
 .simp only[AP];omega
 have f:k=List.length l:=AAy hk (SY.1 b);have r:Dd c d e t l=N++[(t,[])]:=by
  unfold Dd;rw[<-m,f,SW]
 refine GB [42] ?_;repeat'(first|exact trivial|apply eS rfl|apply AC|refine rP a ?_ ?_|fail)
 refine HB drawsAny a 6 [([0],5)] [1,2,3,4] (by kernel_rfl) (Uk ?_ ?_)
 .omega
 refine WM a [] ?_ ?_
 .trivial
 refine wU a ?_ ?_ ?_
 .omega
 .trivial
 repeat'(first|exact trivial|apply eS rfl|apply AC|refine rX a ?_ ?_|refine rC ?_ ?_<;>intro b<;>try(cases b;done))
 exact fI a [.cell 6 25,.tmp 7] (by
  rw[r,show (((N++[(t,[])]:List AB).length:Int)-1)=(N.length:Int)+1-1 by rw[As];rfl];first|exact eR|refine Y6 ?_)
end
section
attribute [local go_sem] Ja Xv Qw NI
def A7W:Ab:={ ins:=[YO],pre:=λ_=>True,out:=λ(W,_)=>[.p T3 W.2.2.2.1],lend:=true }
attribute [local go_sem] A7W
theorem A7X:Ag Tryz.prog 109 A7W:=by
 refine fK [0,1,2] Tryz.func109 Tryz.ntmps109 AI ?_;rintro w0 O0 ⟨⟨h,f,c,g,i,d,e,j,k⟩,u⟩ a - -;simp only[A7W,AN];repeat'(first|exact trivial|apply eS rfl|apply AC|refine rX a ?_ ?_|refine rC ?_ ?_<;>intro b<;>try(cases b;done))
 exact fI a [.tmp 2]
theorem kU:∀ {l:List (List AB)} {m:Int} {N:List AB},Fe l m=true->m<=4096->(N.length:Int)+1<=m->∀k,((((l.take k).foldl (B5 0 0 0) N).length:Nat):Int)+1<=4096
 | [],m,N,_,h1,a,k=>by
  rw[List.take_nil];exact AAv a h1
 | x :: l,m,N,h,h1,a,0=>AAv a h1
 | x :: l,m,N,h,h1,a,k+1=>by
  unfold Fe at h;split at h
  .cases h
  rename_i b;exact kU (l:=l) h oa (by rw[Gb];omega) k
theorem dQ {l:List (List AB)} {m:Int} (h:Fe l m=true) (h1:1<=m) (a:m<=4096) (k:Nat):(SK 0 0 0 (l.take k)).length<=4095:=by
 have:=kU (N:=[]) h a h1 k;unfold SK;omega
theorem SS.shift {l:List (Int×Int)} (h:SS l) (b:Nat):SS (AR b l):=by
 have hl:(AR b l).length=l.length:=by
  unfold AR;rw[OF]
 refine⟨by rw[hl];exact h.1,?_⟩;rw[hl];exact h.2.imp id λq=>(FD _).2 (B4 ((FD _).1 q))
theorem A3j {b:Nat} {x:List AB} (h:Et x) (n:Nat):Et (NL b x n):=by
 intro y hy;obtain⟨z,a,rfl⟩:=Y1.1 hy;exact(h z (iS a)).shift b
theorem A3k (c a b:Int):∀(l:List (List AB)) (N:List AB),(∀x∈l,Et x)->Et N->Et (l.foldl (B5 c a b) N)
 | [],_,_,h=>h
 | x :: l,N,hl,h=>by
  refine A3k c a b l _ (λy hy=>hl y (GO _ hy)) ?_;intro y hy;unfold B5 at hy;rcases Do.1 hy with q|q
  .rcases Do.1 q with q|q
   .exact h y q
   rw[SQ.1 q];exact⟨by show 2<=200;omega,.inl (by show 2<=12;omega)⟩
  exact A3j (hl x sc) _ y q
theorem Z3 (c a b t:Int) {l:List (List AB)} (hl:∀x∈l,Et x):Et (Dd c a b t l):=by
 intro y hy;unfold Dd at hy;rcases Do.1 hy with q|q
 .exact A3k c a b l [] hl (λz d=>by cases d) y q
 rw[SQ.1 q];exact⟨ON _,.inl (ON _)⟩
def HK (h:AG) (t:Int) (l:List (List AB)):List AB×Int :=
 if FH h=true then if Fe l 1=true then BA (Dd (AM h).cons (AM h).first (AM h).rest t l) else ([],7) else ([],5)
theorem A7Y (h:AG) (l:List (List AB)) (hl:∀x∈l,AO x/\Et x):BT Tryz.prog 108 [.p Ey h,.p Um l,.fn 109] [] [] (λres n=>res=.tup [.p D7 (HK h (AM h).null l).1,.p HD (HK h (AM h).null l).2]):=by
 refine Nk [0,1,2,3,6,7,8,9,10,18,23] [] [] Tryz.func108 Tryz.ntmps108 (AF Mc (AF kT (AF A7X (AF Z2 (AF Zr AI))))) ?_;intro w0 K O0 ρ0 a j m;simp only[A1];have g:(h.1,h.2)=h:=rfl;repeat'(first|exact trivial|apply eS rfl|apply AC|refine rP a ?_ ?_|refine rA a ?_ ?_|refine rC ?_ ?_<;>intro e<;>try(cases e;done))
 all_goals try simp only[g]at *
 .have b:FH h=false:=by
   cases hb:FH h with
   | true=>rw[hb]at e;exact absurd rfl e
   | false=>rfl
  have c:HK h (AM h).null l=([],5):=by unfold HK;rw[b,BY sc]
  simp only[b,AA0,AAp,c];exact fM a [.cell 6 25,.tmp 7] (.tup [.p D7 [],.p HD 5]) eT rfl
 .exact λx hx=>(hl x hx).1.1
 .have b:FH h=true:=by
   have q:((if FH h=true then (0:Int) else 5) != 0)=false:=by assumption
   cases hb:FH h with
   | false=>rw[hb]at q;exact absurd q dc
   | true=>rfl
  have d:Fe l 1=false:=by assumption
  have c:HK h (AM h).null l=([],7):=by unfold HK;rw[DO b,d];rfl
  rw[c];exact fM a [.cell 6 25,.tmp 7] (.tup [.p D7 [],.p HD 7]) eT rfl
 have b:FH h=true:=by
  have q:((if FH h=true then (0:Int) else 5) != 0)=false:=by assumption
  cases hb:FH h with
  | false=>rw[hb]at q;exact absurd q dc
  | true=>rfl
 have d:Fe l 1=true:=by assumption
 simp only[DO b,zR]at *;have c:HK h (AM h).null l=BA (Dd (AM h).cons (AM h).first (AM h).rest (AM h).null l):=by unfold HK;rw[DO b,DO d]
 have i:=Z3 (AM h).cons (AM h).first (AM h).rest (AM h).null (λx hx=>(hl x hx).2);have f:(∀x∈l,AO x)/\∀k:Nat,(SK 0 0 0 (List.take k l)).length<=100000:=⟨λx hx=>(hl x hx).1,λk=>SX (dQ d dc dc k) dc⟩;repeat'(first|exact trivial|apply eS rfl|apply AC|refine rP a ?_ ?_|fail)
 refine HB drawsAny a 11 [([0,1,2,3,4,5,6,7,9],10)] [8] (by kernel_rfl) (Uk ?_ ?_)
 .exact f
 refine WM a [] ?_ ?_
 .trivial
 refine wU a ?_ ?_ ?_
 .trivial
 .trivial
 repeat'(first|exact trivial|apply eS rfl|apply AC|refine rP a ?_ ?_|refine rA a ?_ ?_)
 .exact i
 rw[c];exact fM a [.cell 6 25,.tmp 7] (.tup [.p D7 (BA (Dd (AM h).cons (AM h).first (AM h).rest (AM h).null l)).1,.p HD (BA (Dd (AM h).cons (AM h).first (AM h).rest (AM h).null l)).2]) eT rfl
def Xw:Ab:={ ins:=[Ey,Um],pre:=λ(_,l,_)=>∀x∈(l:List (List AB)),AO x/\Et x,out:=λ(h,l,_)=>[.p D7 (HK h (AM h).null l).1,.p HD (HK h (AM h).null l).2] }
attribute [local go_sem] Xw
theorem A3l:Ag Tryz.prog 49 Xw:=by
 refine fK [0,1,2,4,5] Tryz.func49 Tryz.ntmps49 AI ?_;rintro w0 O0 ⟨h,l,u⟩ a-hl;have hl:∀x∈(l:List (List AB)),AO x/\Et x:=hl;have e:(h.1,h.2)=h:=rfl;have hn:=A7Y h l hl;simp only[Xw,AN];generalize f:HK h (AM h).null l=r at *;obtain⟨c,d⟩:=r;repeat'(first|exact trivial|apply eS rfl|apply AC|refine rP a ?_ ?_|fail)
 refine cP 2 a ?_ ?_
 .trivial
 refine rM a (hn) [] [] ?_ ?_ ?_
 .first|exact eN|refine eM ?_
 .first|exact eN|refine eM ?_
 rintro _ g rfl;refine⟨[],.tup [.p D7 c,.p HD d],[],rfl,rfl,?_,?_,rfl,rfl,?_⟩
 .first|exact eN|refine eM ?_
 .first|exact eN|refine eM ?_
 refine rL a ?_ ?_
 .trivial
 repeat'(first|exact trivial|apply eS rfl|apply AC|refine rX a ?_ ?_|refine rC ?_ ?_<;>intro b<;>try(cases b;done))
 exact fI a [.cell 4 25,.tmp 5]
end
section
attribute [local go_sem] Ja Xv Qw NI
def E2 (d hd la:Int) (f:List AB):List AB:=[(d,[(hd,1),(la,1+((f.length:Int)-1))])]++NL 1 f f.length
theorem A3m (d hd la:Int) {f:List AB} (h:Et f):Et (E2 d hd la f):=by
 intro y hy;unfold E2 at hy;rcases Do.1 hy with q|q
 .rw[SQ.1 q];exact⟨by show 2<=200;omega,.inl (by show 2<=12;omega)⟩
 exact A3j h _ y q
def Gc (h:AG) (l:List (List AB)):List AB×Int :=
 if FH h=true then if Fe l 2=true then BA (E2 (AM h).dlist (AM h).head (AM h).last (Dd (AM h).cons (AM h).first (AM h).rest (AM h).list l)) else ([],7) else ([],5)
theorem PJ (c a b t:Int) (l:List (List AB)):(Dd c a b t l).length=(SK 0 0 0 l).length+1:=by
 unfold Dd;rw[As,dP];rfl
theorem A3n {b m:Nat} {x:List AB} (h:AO x) (hb:b+x.length<=m):∀y∈NL b x x.length,y.2.length<=100000/\∀a∈y.2,0<=a.2/\a.2<(m:Int):=by
 intro y hy;rw[Hj]at hy;obtain⟨z,e,rfl⟩:=Y1.1 hy;have c:=h.2 z e;refine⟨by show (AR b z.2).length<=_;unfold AR;rw[OF];exact c.1,λa ha=>?_⟩;obtain⟨w,d,rfl⟩:=A6.1 ha;have:=c.2 w d;simp only;omega
theorem kV (c b d:Int) {M:Nat}:∀(l:List (List AB)) (N:List AB),(∀x∈l,AO x)->(l.foldl (B5 c b d) N).length+1<=M->(∀y∈N,y.2.length<=100000/\∀a∈y.2,0<=a.2/\a.2<(M:Int))->∀y∈l.foldl (B5 c b d) N,y.2.length<=100000/\∀a∈y.2,0<=a.2/\a.2<(M:Int)
 | [],_,_,_,h=>h
 | x :: l,N,hl,e,h=>by
  have f:∀(l:List (List AB)) (N:List AB),N.length<=(l.foldl (B5 c b d) N).length:=by
   intro l;induction l with
   | nil=>exact λ_=>No _
   | cons y l g=>exact λN=>SX (by rw[Gb];omega) (g _)
  have h1:=f l (B5 c b d N x);rw[Gb]at h1;have i:(l.foldl (B5 c b d) (B5 c b d N x)).length+1<=M:=e;refine kV c b d l _ (λy hy=>hl y (GO _ hy)) e ?_;intro y hy;unfold B5 at hy;rcases Do.1 hy with q|q
  .rcases Do.1 q with q|q
   .exact h y q
   rw[SQ.1 q];refine⟨by show 2<=_;omega,λa ha=>?_⟩;have ha:a∈[(b,(N.length:Int)+1),(d,(N.length:Int)+1+(x.length:Int))]:=ha;simp only[At,TO,AAw]at ha;rcases ha with rfl|rfl
   .simp only;omega
   simp only;omega
  exact A3n (hl x sc) oa y q
theorem kW (c b d t:Int) {l:List (List AB)} (hl:∀x∈l,AO x) (hn:(SK 0 0 0 l).length<=99999):AO (Dd c b d t l):=by
 refine⟨by rw[PJ];omega,λy hy=>?_⟩;rw[PJ];unfold Dd at hy;rcases Do.1 hy with q|q
 .exact kV c b d l [] hl (by rw[show (l.foldl (B5 c b d) []).length=(SK c b d l).length from rfl,dP];exact No _) (λz e=>by cases e) y q
 rw[SQ.1 q];exact⟨ON _,λa ha=>by cases ha⟩
def SL:Ab:={ ins:=[Ey,Um],pre:=λ(_,l,_)=>∀x∈(l:List (List AB)),AO x/\Et x,out:=λ(h,l,_)=>[.p D7 (Gc h l).1,.p HD (Gc h l).2] }
attribute [local go_sem] SL
theorem kX:Ag Tryz.prog 48 SL:=by
 refine fKP [0,1,2,4,5,6,7,8,9,10,17,22] [42] [] Tryz.func48 Tryz.ntmps48 (AF Mc (AF kT (AF Z2 (AF Zr AI)))) ?_;rintro w0 O0 ⟨h,l,u⟩ a-hl;have hl:∀x∈(l:List (List AB)),AO x/\Et x:=hl;have j:(h.1,h.2)=h:=rfl;simp only[SL,AN];repeat'(first|exact trivial|apply eS rfl|apply AC|refine rX a ?_ ?_|refine rC ?_ ?_<;>intro e<;>try(cases e;done))
 all_goals try simp only[j]at *
 .have b:FH h=false:=by
   cases hb:FH h with
   | true=>rw[hb]at e;exact absurd rfl e
   | false=>rfl
  have c:Gc h l=([],5):=by unfold Gc;rw[b,BY sc]
  simp only[b,AA0,AAp,c];exact fI a [.cell 4 25,.tmp 5]
 .exact λx hx=>(hl x hx).1.1
 .have b:FH h=true:=by
   have q:((if FH h=true then (0:Int) else 5) != 0)=false:=by assumption
   cases hb:FH h with
   | false=>rw[hb]at q;exact absurd q dc
   | true=>rfl
  have d:Fe l 2=false:=by assumption
  have c:Gc h l=([],7):=by unfold Gc;rw[DO b,d];rfl
  rw[c];exact fI a [.cell 4 25,.tmp 5]
 .have d:Fe l 2=true:=by assumption
  exact⟨λx hx=>(hl x hx).1,λk=>SX (dQ d dc dc k) dc⟩
 have b:FH h=true:=by
  have q:((if FH h=true then (0:Int) else 5) != 0)=false:=by assumption
  cases hb:FH h with
  | false=>rw[hb]at q;exact absurd q dc
  | true=>rfl
 have d:Fe l 2=true:=by assumption
 simp only[DO b,zR]at *;have o:(SK 0 0 0 l).length<=4095:=by
  have:=dQ d dc dc (List.length l)
  rwa [SW]at this
 have m:=kW (AM h).cons (AM h).first (AM h).rest (AM h).list (λx hx=>(hl x hx).1) oa;have p:=PJ (AM h).cons (AM h).first (AM h).rest (AM h).list l;have c:Gc h l=BA (E2 (AM h).dlist (AM h).head (AM h).last (Dd (AM h).cons (AM h).first (AM h).rest (AM h).list l)):=by unfold Gc;rw[DO b,DO d]
 have n:=A3m (AM h).dlist (AM h).head (AM h).last (Z3 (AM h).cons (AM h).first (AM h).rest (AM h).list (λx hx=>(hl x hx).2));rw[c];clear c;generalize Dd (AM h).cons (AM h).first (AM h).rest (AM h).list l=f at *;have i:=VE [((AM h).dlist,[((AM h).head,1),((AM h).last,1+((f.length:Int)-1))])] f m sc;simp only[If]at i;refine cP 15 a ?_ ?_
 .omega
 refine rM a (i) [(50,.nm 44)] [44] ?_ ?_ ?_
 .first|exact eN|refine eM ?_
 .first|exact eN|refine eM ?_
 rintro _ _ ⟨rfl,rfl⟩;refine⟨[(44,.nm 50)],.sr 44 He 0 (E2 (AM h).dlist (AM h).head (AM h).last f).length,[(44,.arr 93 He (E2 (AM h).dlist (AM h).head (AM h).last f))],rfl,rfl,?_,?_,rfl,rfl,?_⟩
 .unfold E2;first|exact eN|refine eM ?_
 .unfold E2;first|exact eN|refine eM ?_
 generalize E2 (AM h).dlist (AM h).head (AM h).last f=g at *;refine rL a ?_ ?_
 .trivial
 refine GB [44] ?_;repeat'(first|exact trivial|apply eS rfl|apply AC|refine rX a ?_ ?_|refine rC ?_ ?_<;>intro e<;>try(cases e;done))
 .exact n
 exact fI a [.cell 4 25,.tmp 5]
end
def Au (c e1 e2:Int) (a b:List AB):List AB:=([((c:Int),[(e1,1),(e2,1+(a.length:Int))])]++NL 1 a a.length)++NL (1+a.length) b b.length
theorem Be (c e1 e2:Int) (a b:List AB):(Au c e1 e2 a b).length=1+a.length+b.length:=by
 unfold Au;rw[As,As,Hk _ _ (No _),Hk _ _ (No _)];rfl
theorem Qx (c e1 e2:Int) (a b:List AB):(Au c e1 e2 a b).getD (0:Int).toNat (0,[])=(c,[(e1,1),(e2,1+(a.length:Int))]):=rfl
theorem uQ (k:Nat) (a:List AB) {i:Nat} (hi:i<a.length):(NL k a a.length)[i]?=some ((a.getD i (0,[])).1,AR k (a.getD i (0,[])).2):=by
 rw[Hj,nO,AT hi,AS,AT hi];rfl
theorem EX (c e1 e2:Int) {a:List AB} (b:List AB) {i:Int} (d:0<=i) (e:i<(a.length:Int)):(Au c e1 e2 a b).getD ((1:Int)+i).toNat (0,[])=((a.getD i.toNat (0,[])).1,AR 1 (a.getD i.toNat (0,[])).2):=by
 have hl:=Hk 1 a (No a.length);rw[AS];unfold Au;rw[Se (by rw[As,hl,If];omega),Sf (by rw[If];omega),If,show ((1:Int)+i).toNat-1=i.toNat by omega,uQ 1 a oa];rfl
theorem Dz (c e1 e2:Int) (a:List AB) {b:List AB} {i:Int} (d:0<=i) (e:i<(b.length:Int)):(Au c e1 e2 a b).getD (((1+a.length:Nat):Int)+i).toNat (0,[])=((b.getD i.toNat (0,[])).1,AR (1+a.length) (b.getD i.toNat (0,[])).2):=by
 have hl:=Hk 1 a (No a.length);rw[AS];unfold Au;rw[Sf (by rw[As,hl,If];omega),As,hl,If,show (((1+a.length:Nat):Int)+i).toNat-(1+a.length)=i.toNat by omega,uQ (1+a.length) b oa];rfl
theorem Hx {c e1 e2:Int} {a b:List AB} {x:AB} (hx:x∈Au c e1 e2 a b):x=(c,[(e1,1),(e2,1+(a.length:Int))])\/(∃y∈a,x=(y.1,AR 1 y.2))\/∃y∈b,x=(y.1,AR (1+a.length) y.2):=by
 unfold Au at hx;rw[Hj,Hj]at hx;rcases Do.1 hx with hx|hx
 .rcases Do.1 hx with hx|hx
  .exact .inl (SQ.1 hx)
  obtain⟨y,hy,rfl⟩:=Y1.1 hx;exact .inr (.inl ⟨y,hy,rfl⟩)
 obtain⟨y,hy,rfl⟩:=Y1.1 hx;exact .inr (.inr ⟨y,hy,rfl⟩)
theorem Xx {c e1 e2:Int} {a b:List AB} (g:AO a) (h:AO b) (i:0<a.length) (j:0<b.length) (hl:a.length+b.length<=10000):AO (Au c e1 e2 a b):=by
 refine⟨by rw[Be];omega,λx hx=>?_⟩;rw[Be];rcases Hx hx with rfl|⟨y,hy,rfl⟩|⟨y,hy,rfl⟩
 .refine⟨by show 2<=100000;omega,λc d=>?_⟩;have d:c∈[(e1,(1:Int)),(e2,1+(a.length:Int))]:=d;simp only[At,TO,AAw]at d;rcases d with rfl|rfl
  .simp only;omega
  simp only;omega
 .have e:=g.2 y hy;refine⟨by show (AR 1 y.2).length<=_;unfold AR;rw[OF];exact e.1,λc d=>?_⟩;obtain⟨w,f,rfl⟩:=A6.1 d;have:=e.2 w f;simp only;omega
 have e:=h.2 y hy;refine⟨by show (AR (1+a.length) y.2).length<=_;unfold AR;rw[OF];exact e.1,λc d=>?_⟩;obtain⟨w,f,rfl⟩:=A6.1 d;have:=e.2 w f;simp only;omega
theorem zD {h:AG} {c e1 e2:Int} {a b:List AB} (va:VF h a) (vb:VF h b) (hl:a.length+b.length<=10000):AH (Au c e1 e2 a b) 0=Au c e1 e2 a b:=by
 have k:=va.pos;have l:=vb.pos;refine Zp (Xx va.good vb.good k l hl) ?_;rw[Be,show 1+a.length+b.length=(a.length+b.length)+1 by omega,Bv,Qx];have r:o9 a (Au c e1 e2 a b) (λi=>(1:Int)+i) (λi=>0<=i/\i<(a.length:Int)):=by
  refine⟨λi hi=>?_,λi hi x hx=>Af va.good hx,λi j hi q e=>by have e:(1:Int)+i=(1:Int)+j:=e;omega⟩;rw[AK,EX c e1 e2 b hi.1 hi.2];show AR 1 (AK a i)=_;unfold AR;refine Of λc _=>?_;show (c.1,c.2+((1:Nat):Int))=(c.1,(1:Int)+c.2);rw[AB9];rfl
 have s:o9 b (Au c e1 e2 a b) (λi=>((1+a.length:Nat):Int)+i) (λi=>0<=i/\i<(b.length:Int)):=by
  refine⟨λi hi=>?_,λi hi x hx=>Af vb.good hx,λi j hi q e=>by have e:((1+a.length:Nat):Int)+i=((1+a.length:Nat):Int)+j:=e;omega⟩;rw[AK,Dz c e1 e2 a hi.1 hi.2];show AR (1+a.length) (AK b i)=_;unfold AR;refine Of λc _=>?_;show (c.1,c.2+((1+a.length:Nat):Int))=(c.1,((1+a.length:Nat):Int)+c.2);rw[AB9]
 have f:=(U0 r (pre:=[0]) (λi hi d=>by have:=SQ.1 d;omega) (a.length+b.length) [] 0 (λx hx=>by cases hx) ⟨by omega,by omega⟩).1;have o:=J4 va.good (n:=0) oa oa b.length;rw[ABj,UL,AAc,o,SC va]at f;have m:([0]++((List.range a.length).map λ(i:Nat)=>(i:Int)).map (λi=>(1:Int)+i))=NW (1+a.length):=by
  unfold NW;rw[ABY,UK,bY,bY];refine oN _ (Of λi _=>?_);show (1:Int)+(i:Int)=((1+i:Nat):Int);omega
 rw[m]at f;have g:=(U0 s (pre:=NW (1+a.length)) (λi hi d=>by have:=Qk d;omega) (a.length+b.length) [] 0 (λx hx=>by cases hx) ⟨by omega,by omega⟩).1;have p:=J4 vb.good (n:=0) oa oa a.length;rw[ABj,UL,AAc,show a.length+b.length=b.length+a.length by omega,p,SC vb]at g;simp only[SU,ABZ,AAl];have s1:AX (Au c e1 e2 a b) (a.length+b.length) [0] (e1,1)=NW (1+a.length):=by
  unfold AX;rw[BY sc];exact f
 rw[s1];have s2:AX (Au c e1 e2 a b) (a.length+b.length) (NW (1+a.length)) (e2,1+(a.length:Int))=Ba (Au c e1 e2 a b) (a.length+b.length) (NW (1+a.length)) ((1+a.length:Nat):Int):=by
  unfold AX;have e:(1:Int)+(a.length:Int)=((1+a.length:Nat):Int):=by omega
  rw[e,BY (λd=>by have:=Qk d;simp only at this;omega)]
 rw[s2,show a.length+b.length=b.length+a.length by omega,g,show b.length+a.length+1=(1+a.length)+b.length by omega];unfold NW;rw[ABY (n:=1+a.length),UK,bY,bY];refine oN _ (Of λi _=>?_);show ((1+a.length:Nat):Int)+(i:Int)=((1+a.length+i:Nat):Int);omega
theorem Mk {h:AG} {c e1 e2:Int} (d:0<=c/\c<(h.1.length:Int)) (n:e1<e2) (p:0<=e1/\e1<(h.2.length:Int)) (q:0<=e2/\e2<(h.2.length:Int)) {a b:List AB} (va:VF h a) (vb:VF h b) (hl:a.length+b.length<=10000):VF h (Au c e1 e2 a b):=by
 have l:=va.pos;have m:=vb.pos;have r:=Be c e1 e2 a b;refine⟨Xx va.good vb.good l m hl,by omega,λx hx=>?_,λx hx=>?_,λx hx c d=>?_,zD va vb hl,λi s t=>?_⟩
 .rcases Hx hx with rfl|⟨y,hy,rfl⟩|⟨y,hy,rfl⟩
  .exact d
  .exact va.ty y hy
  exact vb.ty y hy
 .rcases Hx hx with rfl|⟨y,hy,rfl⟩|⟨y,hy,rfl⟩
  .exact Sm.2 ⟨λc d=>by rw[SQ.1 d];exact n,AA8 _ _⟩
  .exact B4 (va.str y hy)
  exact B4 (vb.str y hy)
 .rcases Hx hx with rfl|⟨y,hy,rfl⟩|⟨y,hy,rfl⟩
  .have d:c∈[(e1,(1:Int)),(e2,1+(a.length:Int))]:=d;simp only[At,TO,AAw]at d;rcases d with rfl|rfl
   .exact p
   exact q
  .obtain⟨w,f,rfl⟩:=A6.1 d;exact va.ft y hy w f
  obtain⟨w,f,rfl⟩:=A6.1 d;exact vb.ft y hy w f
 have k:AK (Au c e1 e2 a b) 0=[(e1,1),(e2,1+(a.length:Int))]:=rfl;by_cases ha:i<=(a.length:Int)
 .by_cases h1:i=1
  .exact⟨0,by omega,by omega,(e1,1),by rw[k];simp,by rw[h1]⟩
  obtain⟨j,g,o,x,hx,e⟩:=va.ro (i-1) oa oa;refine⟨1+j,by omega,by omega,(x.1,x.2+((1:Nat):Int)),?_,by simp only;omega⟩;rw[AK,EX c e1 e2 b g oa];exact Y1.2 ⟨x,hx,rfl⟩
 by_cases h1:i=1+(a.length:Int)
 .exact⟨0,by omega,by omega,(e2,1+(a.length:Int)),by rw[k];simp,by rw[h1]⟩
 obtain⟨j,g,o,x,hx,e⟩:=vb.ro (i-1-a.length) oa oa;refine⟨((1+a.length:Nat):Int)+j,by omega,by omega,(x.1,x.2+((1+a.length:Nat):Int)),?_,by simp only;omega⟩;rw[AK,Dz c e1 e2 a g oa];exact Y1.2 ⟨x,hx,rfl⟩
theorem qD {l:List (Int×Int)} (hs:Ih l) {e:Int} (h:¬Q3 l e<0):∃a∈l,a.1=e/\a.2=Q3 l e:=by
 obtain⟨a,ha,e1,e2⟩:=jI (l:=l) (x:=e) oa;exact⟨a,ha,e1,e2⟩
theorem KE {f:List AB} {n e z:Int} {p:List Int} (h:AY f n (e :: p)=some z):¬Q3 (AK f n) e<0/\AY f (Q3 (AK f n) e) p=some z:=by
 have h:(if Q3 (AK f n) e<0 then none else AY f (Q3 (AK f n) e) p)=some z:=h;split at h
 .cases h
 exact⟨by assumption,h⟩
theorem D0 {f:List AB} (hs:∀x∈f,Ih x.2) {n e m:Int} (h0:0<=m) (h:Av (AK f n) e=m) (p:List Int):AY f n (e :: p)=AY f m p:=by
 show (if Q3 (AK f n) e<0 then none else AY f (Q3 (AK f n) e) p)=_;rw[A2O (Cd hs n) (by rw[h];exact h0),h,BY oa]
theorem DJ {h:AG} {a X:List AB} (f:AO a) (sa:∀x∈a,Ih x.2) (g:∀x∈X,Ih x.2) {v:Int->Int} (d:G7 h a [] X v):∀(p:List Int) (n z:Int),0<=n->n<(a.length:Int)->AY a n p=some z->AY X (v n) p=some (v z)/\0<=z/\z<(a.length:Int)
 | [],n,z,n0,n1,e=>by
  injection e with e
  subst e;exact⟨rfl,n0,n1⟩
 | x :: p,n,z,n0,n1,e=>by
  obtain⟨h1,i⟩:=KE e;obtain⟨b,hb,e1,e2⟩:=qD (Cd sa n) h1;have c:=Af f hb;have:=d.arc n n0 n1 b hb;rw[e1]at this;rw[D0 g (d.rng _ c.1 c.2).1 this,e2];rw[e2]at c;exact DJ f sa g d p _ z c.1 c.2 i
theorem Qy {f:List AB}:∀(p q:List Int) (n m:Int),AY f n p=some m->AY f n (p++q)=AY f m q
 | [],q,n,m,h=>by
  injection h with h
  rw[h];rfl
 | x :: p,q,n,m,h=>by
  obtain⟨h1,a⟩:=KE h;show (if Q3 (AK f n) x<0 then none else AY f (Q3 (AK f n) x) (p++q))=_;rw[BY h1];exact Qy p q _ m a
theorem K6 {f:List AB}:∀(p q:List Int) (n z:Int),AY f n (p++q)=some z->∃m,AY f n p=some m/\AY f m q=some z
 | [],q,n,z,h=>⟨n,rfl,h⟩
 | x :: p,q,n,z,h=>by
  obtain⟨h1,a⟩:=KE (p:=p++q) h;obtain⟨m,e1,e2⟩:=K6 p q _ z a;refine⟨m,?_,e2⟩;show (if Q3 (AK f n) x<0 then none else AY f (Q3 (AK f n) x) p)=_;rw[BY h1];exact e1
theorem Qz {T:List AB} (hT:AO T) {r:Int} (s:0<=r) (t:r<(T.length:Int)) :
  o9 (AH T r) T (λi=>(Ba T T.length [] r).getD i.toNat 0) (λi=>0<=i/\i<((AH T r).length:Int)) /\
  (∀i,0<=i->i<((AH T r).length:Int)->(0<=(Ba T T.length [] r).getD i.toNat 0/\(Ba T T.length [] r).getD i.toNat 0<(T.length:Int))/\(T.getD ((Ba T T.length [] r).getD i.toNat 0).toNat (0,[])).1=((AH T r).getD i.toNat (0,[])).1) /\
  (Ba T T.length [] r).getD 0 0=r/\(AH T r).length<=T.length:=by
 have c:=Cw hT s t;have p:=EA T r;have h:=λi=>Ee (f:=T) (r:=r) (i:=i);generalize AH T r=m at *;generalize Ba T T.length [] r=o at *;have u:=c.ok.len;have d:∀i:Int,0<=i->i<(o.length:Int)->o.getD i.toNat 0∈o/\Ax o (o.getD i.toNat 0)=i:=λi g l=>by
  refine⟨AE o 0 oa,?_⟩;rw[DI c.ok.nd oa];omega
 have k:∀i:Int,0<=i->i<(o.length:Int)->AK m i=(AK T (o.getD i.toNat 0)).map (Fg o):=λi g l=>by
  rw[AK,h i.toNat oa];rfl
 refine⟨⟨λi hi=>?_,λi hi a ha=>?_,λi j hi q e=>?_⟩,λi g l=>⟨c.ok.rng _ (d i g oa).1,?_⟩,c.zero.1,by omega⟩
 .rw[k i hi.1 oa,bY];have:∀a∈AK T (o.getD i.toNat 0),((λa:Int×Int=>(a.1,o.getD a.2.toNat 0))∘Fg o) a=a:=λa ha=>by
   show (a.1,o.getD (Ax o a.2).toNat 0)=a;rw[(A0 (c.cl _ (d i hi.1 oa).1 a ha)).2.2]
  rw[Of this,ABT]
 .rw[k i hi.1 oa]at ha;obtain⟨b,hb,rfl⟩:=Y1.1 ha;have:=A0 (c.cl _ (d i hi.1 oa).1 b hb);rw[p];exact⟨this.1,this.2.1⟩
 .have h1:=(d i hi.1 oa).2;have n:=(d j q.1 oa).2;have e:o.getD i.toNat 0=o.getD j.toNat 0:=e;rw[<-h1,<-n,e]
 rw[h i.toNat oa];rfl
theorem EI {h:AG} {T:List AB} (hT:PF h T) {r:Int} (s:0<=r) (t:r<(T.length:Int)) {p:List Int} {n:Int} (E:AY T r p=some n) :
  AY (AH T r) 0 p=some (Ax (Ba T T.length [] r) n)/\(0<=Ax (Ba T T.length [] r) n/\Ax (Ba T T.length [] r) n<((AH T r).length:Int))/\AH (AH T r) (Ax (Ba T T.length [] r) n)=AH T n/\n∈Ba T T.length [] r /\
   ((AH T r).getD (Ax (Ba T T.length [] r) n).toNat (0,[])).1=(T.getD n.toNat (0,[])).1:=by
 have D:=Cw hT.good s t;have f:=EA T r;obtain⟨hi,ht,F,hl⟩:=Qz hT.good s t;have d:=HJ hT s t;have H:=d.pos;generalize Ba T T.length [] r=o at *;generalize AH T r=C at *;have key:∀(p:List Int) (i:Int),0<=i->i<(C.length:Int)->AY T (o.getD i.toNat 0) p=some n->∃j,AY C i p=some j/\(0<=j/\j<(C.length:Int))/\o.getD j.toNat 0=n:=by
  intro p;induction p with
  | nil =>
   intro i g l e;injection e with e
   exact⟨i,rfl,⟨g,l⟩,e⟩
  | cons x p G =>
   intro i g l e;obtain⟨h1,u⟩:=KE e;obtain⟨b,hb,e1,e2⟩:=qD (Cd hT.str _) h1;have ha:=hi.arc i ⟨g,l⟩;rw[ha]at hb;obtain⟨a,v,rfl⟩:=Y1.1 hb;have f:=hi.cl i ⟨g,l⟩ a v;have e2:o.getD a.2.toNat 0=_:=e2;rw[<-e2]at u;obtain⟨j,q,c,m⟩:=G a.2 f.1 f.2 u;refine⟨j,?_,c,m⟩;have e1:a.1=x:=e1;subst e1;rw[D0 d.str f.1 (Bi (Cd d.str i) v)];exact q
 obtain⟨j,q,c,m⟩:=key p 0 (Sh _) oa (by rw[show (0:Int).toNat=0 from rfl,F];exact E);have w:=Cr hi d.good (r:=j) c c.1 c.2 hl λi y=>(ht i y.1 y.2).2;have A:=(ht j c.1 c.2).2;simp only[m]at w A;have B:=DI D.ok.nd (i:=j.toNat) oa;have z:=AE o 0 (k:=j.toNat) oa;rw[m]at B z;rw[show Ax o n=j by omega];exact⟨q,c,w.symm,z,A.symm⟩
theorem uR {h:AG} (hk:Hu h) {s T:List AB} (a:VF h s) (hT:PF h T) {r:Int} (f:0<=r) (g:r<(T.length:Int)) {p:List Int} {n:Int} (j:AY T r p=some n) {v:Int->Int} (i:G7 h s [] T v) (e:v 0=n) :
  ∃w,G7 h s [] (AH T r) w/\w 0=Ax (Ba T T.length [] r) n:=by
 obtain⟨o,b,m,-,-⟩:=EI hT f g j;have c:=Xp a.good a.pos a.ro hT i;rw[e,<-m]at c;have vc:=HJ hT f g;obtain⟨k,l⟩:=KB vc.pf b.1 b.2;refine⟨_,EC hk a.good a.ty (HJ vc.pf b.1 b.2).ty vc.ty (Cy c) k,?_⟩;have d:=c.zero;try simp only at d
 simp only[d];exact l
theorem kY {h:AG} {c e1 e2:Int} {a b X:List AB} (j:AO a) (k:AO b) (p:0<a.length) (r:0<b.length) {va vb:Int->Int} (ha:G7 h a [] X va) (hb:G7 h b [] X vb) {x:Int} (o:0<=x/\x<(X.length:Int)) (ht:A3 h c (X.getD x.toNat (0,[])).1=true) (h1:Av (AK X x) e1=va 0) (l:Av (AK X x) e2=vb 0) :
  G7 h (Au c e1 e2 a b) [] X λi=>if i=0 then x else if i<=(a.length:Int) then va (i-1) else vb (i-1-(a.length:Int)):=by
 have hl:=Be c e1 e2 a b;refine⟨λi f g=>?_,λi f g=>?_,λi f g y hy=>?_,λq m=>by cases m⟩
 .try simp only
  split
  .exact o
  split
  .exact ha.rng _ oa oa
  exact hb.rng _ oa oa
 .try simp only
  split
  .rename_i e;subst e;rw[Qx];exact ht
  split
  .have:=ha.ty (i-1) oa oa;rw[show i.toNat=((1:Int)+(i-1)).toNat by omega,EX c e1 e2 b oa oa];exact this
  have:=hb.ty (i-1-(a.length:Int)) oa oa;rw[show i.toNat=(((1+a.length:Nat):Int)+(i-1-(a.length:Int))).toNat by omega,Dz c e1 e2 a oa oa];exact this
 try simp only
 split
 .rename_i e;subst e;rw[AK,Qx]at hy;have hy:y∈[(e1,(1:Int)),(e2,1+(a.length:Int))]:=hy;simp only[At,TO,AAw]at hy;rcases hy with rfl|rfl
  .try simp only
   rw[BY oa,DO oa,h1];rfl
  try simp only
  rw[BY oa,BY oa,l];exact oN vb oa
 split
 .rw[AK,show i.toNat=((1:Int)+(i-1)).toNat by omega,EX c e1 e2 b oa oa]at hy;obtain⟨z,d,rfl⟩:=A6.1 hy;have n:=Af j d;have:=ha.arc (i-1) oa oa z d;try simp only
  rw[BY oa,DO oa,this];exact oN va oa
 rw[AK,show i.toNat=(((1+a.length:Nat):Int)+(i-1-(a.length:Int))).toNat by omega,Dz c e1 e2 a oa oa]at hy;obtain⟨z,d,rfl⟩:=A6.1 hy;have n:=Af k d;have:=hb.arc (i-1-(a.length:Int)) oa oa z d;try simp only
 rw[BY oa,BY oa,this];exact oN vb oa
theorem kZ {h:AG} {c e1 e2:Int} {a b X:List AB} (j:e1<e2) {v:Int->Int} (d:G7 h (Au c e1 e2 a b) [] X v):G7 h a [] X (λi=>v (1+i))/\G7 h b [] X (λi=>v (((1+a.length:Nat):Int)+i)) /\
  A3 h c (X.getD (v 0).toNat (0,[])).1=true/\Av (AK X (v 0)) e1=v 1/\Av (AK X (v 0)) e2=v ((1+a.length:Nat):Int):=by
 have hl:=Be c e1 e2 a b;have h0:AK (Au c e1 e2 a b) 0=[(e1,1),(e2,1+(a.length:Int))]:=rfl;refine⟨⟨λi e f=>d.rng _ oa oa,λi e f=>?_,λi e f y hy=>?_,λq g=>by cases g⟩,⟨λi e f=>d.rng _ oa oa,λi e f=>?_,λi e f y hy=>?_,λq g=>by cases g⟩,?_,?_,?_⟩
 .have:=d.ty (1+i) oa oa;rw[EX c e1 e2 b e f]at this;exact this
 .have:=d.arc (1+i) oa oa (y.1,y.2+((1:Nat):Int)) (by rw[AK,EX c e1 e2 b e f];exact A6.2 ⟨y,hy,rfl⟩);rw[this];exact oN v (by show y.2+((1:Nat):Int)=1+y.2;omega)
 .have:=d.ty (((1+a.length:Nat):Int)+i) oa oa;rw[Dz c e1 e2 a e f]at this;exact this
 .have:=d.arc (((1+a.length:Nat):Int)+i) oa oa (y.1,y.2+((1+a.length:Nat):Int)) (by rw[AK,Dz c e1 e2 a e f];exact A6.2 ⟨y,hy,rfl⟩);rw[this];exact oN v (by show y.2+((1+a.length:Nat):Int)=((1+a.length:Nat):Int)+y.2;omega)
 .have:=d.ty 0 oa oa;rw[Qx]at this;exact this
 .exact d.arc 0 oa oa (e1,1) (by rw[h0];simp)
 have:=d.arc 0 oa oa (e2,1+(a.length:Int)) (by rw[h0];simp);rw[this];exact oN v oa
theorem zE {h:AG} {c e1 e2:Int} {a:List AB} (va:VF h a) (b:List AB) {n:Int} (n0:0<=n) (n1:n<(a.length:Int)):AH (Au c e1 e2 a b) (1+n)=AH a n:=by
 have hl:=Be c e1 e2 a b;refine Cr (ψ:=λi=>1+i) (C:=λi=>0<=i/\i<(a.length:Int)) ⟨λi hi=>?_,λi hi x hx=>Af va.good hx,λi j hi d e=>by have e:(1:Int)+i=1+j:=e;omega⟩ va.good ⟨n0,n1⟩ n0 n1 oa λi hi=>?_
 .rw[AK,EX c e1 e2 b hi.1 hi.2];refine Of λx _=>?_;show (x.1,x.2+((1:Nat):Int))=(x.1,1+x.2);rw[AB9];rfl
 show ((Au c e1 e2 a b).getD (1+i).toNat (0,[])).1=_;rw[EX c e1 e2 b hi.1 hi.2]
theorem Z4 {c e1 e2:Int} (a:List AB) {b:List AB} (d:AO b):o9 b (Au c e1 e2 a b) (λi=>((1+a.length:Nat):Int)+i) λi=>0<=i/\i<(b.length:Int) :=
 ⟨λi hi=>by
  rw[AK,Dz c e1 e2 a hi.1 hi.2];refine Of λx _=>?_;show (x.1,x.2+((1+a.length:Nat):Int))=(x.1,((1+a.length:Nat):Int)+x.2);rw[AB9],λi hi x hx=>Af d hx,λi j hi f e=>by have e:((1+a.length:Nat):Int)+i=((1+a.length:Nat):Int)+j:=e;omega⟩
theorem k6 {c e1 e2:Int} (a:List AB) {b:List AB} {i:Int} (hi:0<=i/\i<(b.length:Int)):((Au c e1 e2 a b).getD (((1+a.length:Nat):Int)+i).toNat (0,[])).1=(b.getD i.toNat (0,[])).1:=by
 rw[Dz c e1 e2 a hi.1 hi.2]
theorem qE {c e1 e2:Int} (a:List AB) {b:List AB} (d:AO b) {n:Int} (n0:0<=n/\n<(b.length:Int)):AH (Au c e1 e2 a b) (((1+a.length:Nat):Int)+n)=AH b n:=by
 have hl:=Be c e1 e2 a b;exact Cr (Z4 a d) d n0 n0.1 n0.2 oa λi hi=>k6 a hi
def Q5 (c e1 e2 t:Int):List (List AB)->List AB
 | []=>[(t,[])]
 | x :: l=>Au c e1 e2 x (Q5 c e1 e2 t l)
theorem qF (a b:Nat) (l:List (Int×Int)):AR a (AR b l)=AR (a+b) l:=by
 unfold AR;rw[bY];refine Of λx _=>?_;show (x.1,x.2+(b:Int)+(a:Int))=(x.1,x.2+((a+b:Nat):Int));rw[show x.2+(b:Int)+(a:Int)=x.2+((a+b:Nat):Int) by omega]
def NX (k:Nat) (N:List AB):List AB:=N.map λx=>(x.1,AR k x.2)
theorem A5O (k:Nat) (N:List AB):(NX k N).length=N.length:=OF _
theorem uS (a b:Nat) (N:List AB):NX a (NX b N)=NX (a+b) N:=by
 unfold NX;rw[bY];refine Of λx _=>?_;show (x.1,AR a (AR b x.2))=_;rw[qF]
theorem dR (k:Nat) (M N:List AB):NX k (M++N)=NX k M++NX k N:=UK
theorem zF (c a b:Int) (N x:List AB):B5 c a b N x=N++NX N.length (B5 c a b [] x):=by
 unfold B5;rw[Hj,Hj];have e:NX N.length (([]:List AB)++[(c,[(a,(([]:List AB).length:Int)+1),(b,(([]:List AB).length:Int)+1+(x.length:Int))])]++NX (([]:List AB).length+1) x)=[(c,[(a,(N.length:Int)+1),(b,(N.length:Int)+1+(x.length:Int))])]++NX (N.length+1) x:=by
  rw[AAl,dR,uS];refine oN (·++_) ?_;show [(c,[(a,(0:Int)+1+(N.length:Int)),(b,(0:Int)+1+(x.length:Int)+(N.length:Int))])]=_;rw[show (0:Int)+1+(N.length:Int)=(N.length:Int)+1 by omega,show (0:Int)+1+(x.length:Int)+(N.length:Int)=(N.length:Int)+1+(x.length:Int) by omega]
 rw[SZ];exact oN (N++·) e.symm
theorem Xy (c a b:Int):∀(l:List (List AB)) (N:List AB),l.foldl (B5 c a b) N=N++NX N.length (SK c a b l)
 | [],N=>(UL N).symm
 | x :: l,N=>by
  have e:SK c a b (x :: l)=B5 c a b [] x++NX (B5 c a b [] x).length (SK c a b l):=Xy c a b l _;rw[e,SU,Xy c a b l,dR,uS,zF c a b N,As,A5O,SZ]
theorem Xz (c a b t:Int):∀l:List (List AB),Dd c a b t l=Q5 c a b t l
 | []=>rfl
 | x :: l=>by
  have e:SK c a b (x :: l)=B5 c a b [] x++NX (B5 c a b [] x).length (SK c a b l):=Xy c a b l _;have hl:(B5 c a b [] x).length=1+x.length:=by rw[Gb];simp
  show SK c a b (x :: l)++[(t,[])]=Au c a b x (Q5 c a b t l);rw[e,<-Xz c a b t l,hl];unfold Au Dd B5;rw[Hj _ (SK c a b l++[(t,[])]),SZ];have e2:([]:List AB)++[(c,[(a,(([]:List AB).length:Int)+1),(b,(([]:List AB).length:Int)+1+(x.length:Int))])]=[(c,[(a,1),(b,1+(x.length:Int))])]:=by
   show [(c,[(a,(0:Int)+1),(b,(0:Int)+1+(x.length:Int))])]=_;rw[ACa]
  rw[e2];refine oN (HAppend.hAppend (α:=List AB) (β:=List AB) _) ?_;show _++[(t,[])]=NX (1+x.length) (SK c a b l++[(t,[])]);rw[dR];rfl
theorem A5P {h:AG} {t:Int} (ht:0<=t/\t<(h.1.length:Int)):VF h [(t,[])]:=by
 refine⟨⟨by simp,λx hx=>?_⟩,by simp,λx hx=>?_,λx hx=>?_,λx hx a ha=>?_,rfl,λi c b=>?_⟩
 .rw[SQ.1 hx];exact⟨by simp,λa ha=>by cases ha⟩
 .rw[SQ.1 hx];exact ht
 .rw[SQ.1 hx];exact List.Pairwise.nil
 .rw[SQ.1 hx]at ha;cases ha
 simp only[If]at b;omega
structure CW (h:AG) (c e1 e2:Int):Prop where
 c:0<=c/\c<(h.1.length:Int)
 lt:e1<e2
 e1:0<=e1/\e1<(h.2.length:Int)
 e2:0<=e2/\e2<(h.2.length:Int)
theorem qG {h:AG} {c e1 e2 t:Int} (cw:CW h c e1 e2) (ht:0<=t/\t<(h.1.length:Int)):∀ {l:List (List AB)},(∀x∈l,VF h x/\x.length<=100)->l.length<=40->VF h (Q5 c e1 e2 t l)/\(Q5 c e1 e2 t l).length<=101*l.length+1
 | [],_,_=>⟨A5P ht,No _⟩
 | x :: l,hx,hl=>by
  rw[IF]at hl ⊢;obtain⟨v1,d⟩:=qG cw ht (l:=l) (λy hy=>hx y (GO _ hy)) oa;obtain⟨a,e⟩:=hx x gO;have b:=Be c e1 e2 x (Q5 c e1 e2 t l);refine⟨Mk cw.c cw.lt cw.e1 cw.e2 a v1 oa,?_⟩;show (Au c e1 e2 x (Q5 c e1 e2 t l)).length<=_;omega
theorem dS {c e1 e2 t:Int} {n:Nat}:∀ {l:List (List AB)},(∀x∈l,x.length<=n)->(Q5 c e1 e2 t l).length<=(n+1)*l.length+1
 | [],_=>No _
 | x :: l,hx=>by
  have v:=dS (c:=c) (e1:=e1) (e2:=e2) (t:=t) (l:=l) λy hy=>hx y (GO _ hy);have w:=hx x gO;have a:=Be c e1 e2 x (Q5 c e1 e2 t l);show (Au c e1 e2 x (Q5 c e1 e2 t l)).length<=_;rw[IF,Nat.mul_add,Nat.mul_one];omega
theorem uT {h:AG} {a X:List AB} {v:Int->Int} (b:G7 h a [] X v) (h0:v 0=0):Ig h a X v:=⟨h0,b.rng,b.ty,b.arc⟩
theorem A3o (h:AG) (c e1 e2:Int) {A:List AB} (f:∀x∈A,Ih x.2) (B:List AB):G7 h A [] (Au c e1 e2 A B) λi=>1+i:=by
 have hl:=Be c e1 e2 A B;refine⟨λi b d=>by omega,λi b d=>?_,λi b d y hy=>?_,λq e=>by cases e⟩
 .try simp only
  rw[EX c e1 e2 B b d];exact CF h _
 try simp only
 rw[AK,EX c e1 e2 B b d,show 1+y.2=y.2+((1:Nat):Int) by omega];exact Bi (a:=(y.1,y.2+((1:Nat):Int))) (B4 (Cd f i)) (A6.2 ⟨y,hy,rfl⟩)
theorem k7 (h:AG) (c e1 e2:Int) (A:List AB) {B:List AB} (f:∀x∈B,Ih x.2):G7 h B [] (Au c e1 e2 A B) λi=>((1+A.length:Nat):Int)+i:=by
 have hl:=Be c e1 e2 A B;refine⟨λi b d=>by omega,λi b d=>?_,λi b d y hy=>?_,λq e=>by cases e⟩
 .try simp only
  rw[Dz c e1 e2 A b d];exact CF h _
 try simp only
 rw[AK,Dz c e1 e2 A b d,show ((1+A.length:Nat):Int)+y.2=y.2+((1+A.length:Nat):Int) by omega];exact Bi (a:=(y.1,y.2+((1+A.length:Nat):Int))) (B4 (Cd f i)) (A6.2 ⟨y,hy,rfl⟩)
theorem A3p {h:AG} (hk:Hu h) {c e1 e2:Int} {a b A B:List AB} (cw:CW h c e1 e2) (va:VF h a) (vb:VF h b) (d:VF h A) (e:VF h B) {n o:Int->Int} (h1:Ig h a A n) (f:Ig h b B o):∃m,Ig h (Au c e1 e2 a b) (Au c e1 e2 A B) m:=by
 have hl:=Be c e1 e2 A B;have i:=A3o h c e1 e2 d.str B;have j:=k7 h c e1 e2 A e.str;have g:Cj h (Au c e1 e2 A B):=λx hx=>by
  rcases Hx hx with rfl|⟨y,hy,rfl⟩|⟨y,hy,rfl⟩
  .exact cw.c
  .exact d.ty y hy
  exact e.ty y hy
 have k:=EC hk va.good va.ty d.ty g (Cy h1) i;have l:=EC hk vb.good vb.ty e.ty g (Cy f) j;have h0:AK (Au c e1 e2 A B) 0=[(e1,1),(e2,1+(A.length:Int))]:=rfl;have hs:Ih [(e1,(1:Int)),(e2,1+(A.length:Int))]:=Sm.2 ⟨λy hy=>by rw[SQ.1 hy];exact cw.lt,AA8 _ _⟩;refine⟨_,uT (kY va.good vb.good va.pos vb.pos k l (x:=0) ⟨Sh _,by omega⟩ (by rw[Qx];exact CF h c) ?_ ?_) (DO rfl)⟩
 .rw[h0,h1.zero];exact Bi (a:=(e1,1)) hs sc
 rw[h0,f.zero];refine(Bi (a:=(e2,1+(A.length:Int))) hs sc).trans ?_;show 1+(A.length:Int)=((1+A.length:Nat):Int)+0;omega
theorem cZ.of {h:AG} (hu:HU h) {a b c:List AB} {o:Bool} (e:JZ h a b=(c,o)) (d:o=true):cZ h a b c:=by
 have:=Th (h:=h) (a:=a) (b:=b) (by rw[e];exact d);rw[e]at this;exact this
section
attribute [local go_sem] Jx MK
def Z5:Ab:={ ins:=[FC],pre:=λ_=>True,out:=λ(d,_)=>[.p Ey (HR d)] }
theorem uU:Ag Tryz.prog 17 Z5:=by
 refine fK [0,2,3,4,5,9,16] Tryz.func17 Tryz.ntmps17 (AF oI (AF oG AI)) ?_;rintro w0 O0 ⟨d,u⟩ a - -;simp only[Z5,AN];repeat'(first|exact trivial|apply eS rfl|apply AC|refine rX a ?_ ?_|refine rC ?_ ?_<;>intro b<;>try(cases b;done))
 .have h1:HR d=(BF d).1:=by unfold HR;rw[DO ⟨by exact eV,b⟩]
  exact fI a [.cell 2 31] (by rw[h1];exact eR)
 .have h1:HR d=(BF Jw).1:=by unfold HR;rw[BY (λh=>b h.2)]
  exact fI a [.cell 2 31] (by rw[h1];exact eR)
 have h1:HR d=(BF Jw).1:=by
  unfold HR;rw[BY];intro h;have:=h.1;exact eV
 exact fI a [.cell 2 31] (by rw[h1];exact eR)
end
theorem A3q:∀(x y:List UInt8),Op.bytesLess x y=true↔x<y
 | _,[]=>by
  unfold Op.bytesLess;simp
 | [],b :: y=>by
  unfold Op.bytesLess;simp
 | a :: x,b :: y=>by
  unfold Op.bytesLess;rw[UO,An,A3q x y,List.cons_lt_cons_iff];simp
theorem Gd {x y:ByteArray}:Ce x y=true↔x.toList<y.toList:=A3q _ _
theorem Tt {x y z:ByteArray} (h1:Ce x y=true) (a:Ce y z=true):Ce x z=true:=Gd.2 (List.lt_trans (Gd.1 h1) (Gd.1 a))
theorem A3r {x y:ByteArray} (h1:¬Ce x y=true) (c:¬Ac x y=true):Ce y x=true:=by
 refine Gd.2 ?_;have a:¬x.toList<y.toList:=λq=>h1 (Gd.2 q);have b:¬x.toList=y.toList:=λq=>c (by unfold Ac;rw[q];exact beq_self_eq_true _);exact IS λq=>b (List.le_antisymm (List.not_lt.1 q) (List.not_lt.1 a))
def qH (l:List ByteArray):Prop:=l.Pairwise λa b=>Ce a b=true
theorem A3s {l:List ByteArray} (hl:qH l) (s:ByteArray):qH (Dm l s):=by
 unfold Dm;split
 .exact hl
 rename_i hn;have g:l.take (YE l s)=l.takeWhile λx=>Ce x s:=by
  unfold YE;exact(List.prefix_iff_eq_take.1 (List.takeWhile_prefix _)).symm
 have h1:∀x∈l.take (YE l s),Ce x s=true:=λx hx=>by
  rw[g]at hx;have:=List.all_takeWhile (p:=λx=>Ce x s) (l:=l);rw[NO]at this;exact this x hx
 have d:∀x∈l.drop (YE l s),Ce s x=true:=by
  by_cases c:YE l s<l.length
  .have hd:=SR c;have e:l.getD (YE l s) ByteArray.empty=l[YE l s]:=by simp[AS,c]
   have hh:Ce s l[YE l s]=true:=by
    refine A3r (λq=>?_) λq=>hn ?_
    .have:=(nF (λx=>Ce x s) ByteArray.empty l (YE l s) (No _)).1 ⟨c,by rw[e];exact q⟩;exact absurd this (by unfold YE;omega)
    rw[An,Is,e];exact⟨c,q⟩
   intro x hx;have f:(l.drop (YE l s)).Pairwise λa b=>Ce a b=true:=hl.drop;rw[hd]at hx f;rcases At.1 hx with rfl|hx
   .exact hh
   exact Tt hh ((Sm.1 f).1 x hx)
  rw[SV oa];exact λx hx=>by cases hx
 show List.Pairwise _ _;rw[SZ,AAq];refine⟨hl.take,Sm.2 ⟨d,hl.drop⟩,λa ha b hb=>?_⟩;rcases At.1 hb with rfl|hb
 .exact h1 a ha
 exact Tt (h1 a ha) (d b hb)
theorem zG (d:List AJ):qH (DQ d):=by
 have b:∀(l:List (ByteArray×ByteArray)) (o:List ByteArray),qH o->qH (l.foldl Nq o):=by
  intro l;induction l with
  | nil=>exact λo h=>h
  | cons x l a=>exact λo h=>a _ (A3s h x.1)
 have c:∀(l:List AJ) (o:List ByteArray),qH o->qH (l.foldl Og o):=by
  intro l;induction l with
  | nil=>exact λo h=>h
  | cons x l a=>exact λo h=>a _ (b x.2.2 o h)
 exact c d [] .nil
def A5Q (h:AG):Prop:=h.2.Pairwise λa b=>Ce a.1 b.1=true
theorem k8 (d:List AJ):A5Q (BF d).1:=by
 unfold BF;split
 .exact .nil
 show List.Pairwise _ (Db d).1;unfold Db;split
 .exact .nil
 show List.Pairwise _ ((DQ d).map (Ta d));rw[iF];exact zG d
theorem A3t (d:List AJ):A5Q (HR d):=by
 unfold HR;split<;>exact k8 _
theorem X0 (s:ByteArray):∀(l:List Wx) (k:Nat),0<=t8 s k l->∃i,i<l.length/\t8 s k l=((k+i:Nat):Int)/\∃x,l[i]?=some x/\Ac x.1 s=true
 | [],k,h=>absurd h (by unfold t8;decide)
 | x :: l,k,h=>by
  unfold t8 at h ⊢;split
  .rename_i e;exact⟨0,by simp,by omega,x,rfl,e⟩
  rename_i e;rw[BY e]at h;obtain⟨i,h1,a,y,b,c⟩:=X0 s l (k+1) h;exact⟨i+1,by simp only[IF];omega,by rw[a];omega,y,by rw[List.getElem?_cons_succ];exact b,c⟩
theorem A6B {h:AG} (hs:A5Q h) {s t:ByteArray} (e:Ce s t=true) (h1:0<=YX h s) (n:0<=YX h t):YX h s<YX h t:=by
 obtain⟨i,f,p,x,g,r⟩:=X0 s h.2 0 h1;obtain⟨j,k,u,y,b,v⟩:=X0 t h.2 0 n;have ex:x.1.toList=s.toList:=UQ.1 r;have c:y.1.toList=t.toList:=UQ.1 v;have d:=Gd.1 e;unfold YX;rw[p,u];by_cases w:i<j
 .omega
 exfalso;by_cases o:i=j
 .subst o;rw[g]at b;injection b with b
  subst b;rw[ex]at c;rw[c]at d;exact List.lt_irrefl _ d
 have a:=Sl.1 hs j i k f oa;have l:h.2[i]=x:=by have:=AT f;rw[g]at this;injection this with q;exact q.symm
 have m:h.2[j]=y:=by have:=AT k;rw[b]at this;injection this with q;exact q.symm
 rw[l,m]at a;have a:=Gd.1 a;rw[ex,c]at a;exact List.lt_irrefl _ (List.lt_trans a d)
theorem X2 (s:ByteArray):∀(l:List HQ) (k:Nat),0<=d6 s k l->∃i,i<l.length/\d6 s k l=((k+i:Nat):Int)/\∃x,l[i]?=some x/\Ac x.1 s=true
 | [],k,h=>absurd h (by unfold d6;decide)
 | x :: l,k,h=>by
  unfold d6 at h ⊢;split
  .rename_i e;exact⟨0,by simp,by omega,x,rfl,e⟩
  rename_i e;rw[BY e]at h;obtain⟨i,h1,a,y,b,c⟩:=X2 s l (k+1) h;exact⟨i+1,by simp only[IF];omega,by rw[a];omega,y,by rw[List.getElem?_cons_succ];exact b,c⟩
theorem A9k {h:AG} {s t:ByteArray} (e:Ac s t=false) (h1:0<=J8 h s):J8 h s≠J8 h t:=λq=>by
 obtain⟨i,l,c,x,d,f⟩:=X2 s h.1 0 h1;obtain⟨j,m,g,y,a,k⟩:=X2 t h.1 0 (show 0<=J8 h t by rw[<-q];exact h1);have e2:((0+i:Nat):Int)=((0+j:Nat):Int):=c.symm.trans (q.trans g);have:i=j:=by omega
 subst this;rw[d]at a;injection a with a
 subst a;have ex:x.1.toList=s.toList:=UQ.1 f;have b:x.1.toList=t.toList:=UQ.1 k;have:Ac s t=true:=by
  unfold Ac;rw[<-ex,<-b];exact beq_self_eq_true _
 rw[e]at this;cases this
structure Q0 (h:AG):Prop where
 lw:FH h=true
 srt:A5Q h
theorem Q0.first_rest {h:AG} (l:Q0 h):(AM h).first<(AM h).rest:=A6B l.srt (by decide +kernel) (Gx l.lw).1.1 (Gx l.lw).1.2
theorem Q0.last_head {h:AG} (l:Q0 h):(AM h).last<(AM h).head:=A6B l.srt (by decide +kernel) (Gx l.lw).2.2.2.2.2.2 (Gx l.lw).2.2.2.2.2.1
theorem Q0.ne {h:AG} (l:Q0 h):(AM h).list≠(AM h).null:=A9k (by decide +kernel) (Gx l.lw).2.2.2.1
theorem Q0.rng {h:AG} (l:Q0 h):((AM h).list<(h.1.length:Int)/\(AM h).cons<(h.1.length:Int)/\(AM h).null<(h.1.length:Int)/\(AM h).dlist<(h.1.length:Int))/\(AM h).first<(h.2.length:Int)/\(AM h).rest<(h.2.length:Int)/\(AM h).head<(h.2.length:Int)/\(AM h).last<(h.2.length:Int) :=
 ⟨⟨(EB h _).2,(EB h _).2,(EB h _).2,(EB h _).2⟩,(F9 h _).2,(F9 h _).2,(F9 h _).2,(F9 h _).2⟩
theorem Q0.sub {h:AG} (l:Q0 h):A3 h (AM h).list (AM h).cons=true/\A3 h (AM h).list (AM h).null=true:=by
 have e:=l.lw;unfold FH at e;rw[An,An]at e;exact⟨e.1.2,e.2⟩
section
attribute [local go_sem] Xh PH zO zP
def A5R (b:Nat) (c a d:Int) (N x:List AB):List AB:=(N++[(c,[(a,(b:Int)+(N.length:Int)+1),(d,(b:Int)+(N.length:Int)+1+(x.length:Int))])])++NL (b+N.length+1) x x.length
def chB (b:Nat) (c a d:Int) (l:List (List AB)):List AB:=l.foldl (A5R b c a d) []
def X3:Ab:={ ins:=[Ey,Um,T3,T9],pre:=λ(_,l,b,_,_)=>(∀x∈(l:List (List AB)),AO x/\x.length<=100)/\List.length l<=10/\0<=b/\b<=10,out:=λ(h,l,b,s,_)=>[.p G2 (chB (Int.toNat b) (AM h).cons (AM h).first (AM h).rest l++[(J8 h s,[])]),.p T3 (b+((chB (Int.toNat b) (AM h).cons (AM h).first (AM h).rest l).length:Int))] }
attribute [local go_sem] X3
end
section
attribute [local go_sem] Xh PH Gy X3 Rw zO zP
def A6C (l:List AB):List AB×Int:=if 4096<l.length then ([],7) else BA l
def A6D:Ab:={ ins:=[G2],pre:=λ(l,_)=>Rv l,out:=λ(l,_)=>[.p D7 (A6C l).1,.p HD (A6C l).2] }
attribute [local go_sem] A6D
end
section
attribute [local go_sem] Xh PH Gy X3 Rw A6D zO zP
end
section
attribute [local go_sem] CZ
def HL (f:List AB) (o:List Int):List (Nat×Obj):=[(1,.box 61 false [.sr 5 T3 0 o.length]),(2,.box 177 false [.mp 6]),(3,.box 23 false [.p G2 f]),(4,.box 178 false [.clo 143 [1,2,3,4]]),(5,.arr 3 T3 o),(6,.mapo T3 T3 (lN o))]
theorem zH (f:List AB) (hf:AO f):∀(k:Nat) (o:List Int) (n:Int),JA f o->0<=n->n<f.length->n∉o->f.length-o.length<=k ->
  BT Tryz.prog 143 [.p T3 n,.bp 1 [] 0,.bp 2 [] 0,.bp 3 [] 0,.bp 4 [] 0] (HL f o) [1,2,3,4,6] (λres I=>res=.raw (.tuple #[])/\I=HL f (Ba f k o n)):=by
 intro k;induction k with
 | zero =>
  intro o n h0 h1 z A J;have:=(h0.snoc h1 z A).len;simp only[As,If]at this;omega
 | succ k H =>
  intro o n hd m q v hk;have t:=hd.snoc m q v;have D:=t.len;simp only[As,If]at D;have N:=hf.1;refine Nk [0,1,2,3,4,7,9,22,23,24,25,36] [16] [] Tryz.func143 Tryz.ntmps143 AI ?_;intro w0 K O0 ρ0 d O P;simp only[HL,A1];repeat'(first|exact trivial|apply eS rfl|apply AC|refine rX d ?_ ?_|refine rC ?_ ?_<;>intro b<;>try(cases b;done))
  .simp only[AP];omega
  .exact⟨m,q⟩
  rw[jB v];have s:=λa (ha:a∈(f.getD n.toNat (0,[])).2)=>Af hf ha;have B:Ba f (k+1) o n=(f.getD n.toNat (0,[])).2.foldl (AX f k) (o++[n]):=Bv f k o n;have M:=(hf.2 _ (AE f (0,[]) (c9 ⟨m,q⟩))).1;generalize (f.getD n.toNat (0,[])).2=L at *;have G:∀i,JA f ((L.take i).foldl (AX f k) (o++[n]))/\o++[n] <+: (L.take i).foldl (AX f k) (o++[n]):=λi=>D8 (DR hf k) _ _ (λa ha=>s a (iS ha)) t;generalize E:o++[n]=l at *;have F:l.length=o.length+1:=by rw[<-E];simp
  rw[<-F];refine AL (ι:={i:Nat//i<=L.length}) (λi=>⟨[(0,.p T3 n),(1,.bp 1 [] 0),(2,.bp 2 [] 0),(3,.bp 3 [] 0),(4,.bp 4 [] 0),(22,.p DK L),(23,.p (.int .i64) (L.length:Int)),(24,.p (.int .i64) (i.1:Int))],HL f ((L.take i.1).foldl (AX f k) l)⟩) (λi=>L.length-i.1) ⟨0,by omega⟩ (AD [(1,.nm 1),(2,.nm 2),(3,.nm 3),(4,.nm 4),(5,.nm 5),(6,.nm 6)] rfl rfl ?_ ?_) (λi=>?_)
  .simp only[HL,AAg,ABZ];first|exact eN|refine eM ?_
  .first|exact eN|refine eM ?_
  obtain⟨i,hi⟩:=i;obtain⟨u,x⟩:=G i;have r:=λ(h:i<L.length)=>Jy (AX f k) L (0,0) l h;have C:=x.length_le;generalize w:(L.take i).foldl (AX f k) l=c at u x r C;simp only[HL];repeat'(first|exact trivial|apply eS rfl|apply AC|refine rX d ?_ ?_|refine rC ?_ ?_<;>intro b<;>try(cases b;done))
  .exact b
  .have g:i<L.length:=IN.1 (by assumption);have y:=s _ (AE L (0,0) g);have j:(L.getD i (0,0)).2∉c:=by rw[Kt]at b;simpa using b
   have e:AX f k c (L.getD i (0,0))=Ba f k c (L.getD i (0,0)).2:=BY j;refine cP 3 d ?_ ?_
   .trivial
   refine rM d (H c (L.getD i (0,0)).2 u y.1 y.2 j oa) [(1,.nm 1),(2,.nm 2),(3,.nm 3),(4,.nm 4),(5,.nm 5),(6,.nm 6)] [5] ?_ ?_ ?_
   .first|exact eN|refine eM ?_
   .simp only[HL];first|exact eN|refine eM ?_
   rintro _ _ ⟨rfl,rfl⟩;refine⟨[(1,.nm 1),(2,.nm 2),(3,.nm 3),(4,.nm 4),(5,.nm 5),(6,.nm 6)],.raw (.tuple #[]),HL f (Ba f k c (L.getD i (0,0)).2),rfl,rfl,?_,?_,rfl,rfl,Cu ?_⟩
   .simp only[HL];first|exact eN|refine eM ?_
   .first|exact eN|refine eM ?_
   simp only[HL];repeat'(first|exact trivial|apply eS rfl|apply AC|refine rX d ?_ ?_|refine rC ?_ ?_<;>intro b<;>try(cases b;done))
   .omega
   refine⟨⟨i+1,by omega⟩,by simp only;omega,AD [(1,.nm 1),(2,.nm 2),(3,.nm 3),(4,.nm 4),(5,.nm 5),(6,.nm 6)] rfl rfl ?_ ?_⟩
   .simp only[r g,e];first|exact eN|refine eM ?_
   first|exact eN|refine eM ?_
  .omega
  .have g:i<L.length:=IN.1 (by assumption);have j:(L.getD i (0,0)).2∈c:=by rw[Kt]at b;simpa using b
   have e:AX f k c (L.getD i (0,0))=c:=DO j;refine⟨⟨i+1,by omega⟩,by simp only;omega,AD [(1,.nm 1),(2,.nm 2),(3,.nm 3),(4,.nm 4),(5,.nm 5),(6,.nm 6)] rfl rfl ?_ ?_⟩
   .simp only[r g,e];first|exact eN|refine eM ?_
   first|exact eN|refine eM ?_
  have hk:L.take i=L:=By (SY.1 b);rw[hk]at w;rw[B,w];exact fM d [] (.raw (.tuple #[])) rfl ⟨rfl,rfl⟩
def qI:Ab:={ ins:=[G2,T3],pre:=λ(f,n,_)=>AO f/\0<=n/\n<(List.length f:Int),out:=λ(f,n,_)=>[.p D7 (AH f n)] }
theorem A3u:Ag Tryz.prog 100 qI:=by
 refine fKP [0,1,2,4,5,6,7,8,10,11,13,19,20,21,22,35,36,37,38] [50] [] Tryz.func100 Tryz.ntmps100 AI ?_;rintro w0 O0 ⟨f,root,u⟩ b-⟨hf,n,q⟩;have hf:AO f:=hf;simp only[qI,AN];have F:=hf.1;have k:JA f []:=⟨by simp,λx hx=>by cases hx⟩;obtain⟨l,I⟩:=DR hf f.length [] root k n q sc;have w:AH f root=(Ba f f.length [] root).map (CG f (Ba f f.length [] root)):=rfl;rw[w];repeat'(first|exact trivial|apply eS rfl|apply AC|refine rX b ?_ ?_|refine rC ?_ ?_<;>intro a<;>try(cases a;done))
 refine cP 2 b ?_ ?_
 .trivial
 refine rM b (zH f hf (List.length f) [] root k n q sc sc) [(1,.nm 6),(2,.nm 5),(3,.nm 2),(4,.nm 7),(5,.nil),(6,.nm 14)] [] ?_ ?_ ?_
 .first|exact eN|refine eM ?_
 .simp only[HL];first|exact eN|refine eM ?_
  try rfl
 rintro _ _ ⟨rfl,rfl⟩;refine⟨[(6,.nm 1),(5,.nm 2),(2,.nm 3),(7,.nm 4),(101,.nm 5),(14,.nm 6)],.raw (.tuple #[]),[(6,.box 61 false [.sr 101 T3 0 (Ba f (List.length f) [] root).length]),(5,.box 177 false [.mp 14]),(2,.box 23 false [.p G2 f]),(7,.box 178 false [.clo 143 [6,5,2,7]]),(101,.arr 3 T3 (Ba f (List.length f) [] root)),(14,.mapo T3 T3 (lN (Ba f (List.length f) [] root)))],rfl,rfl,?_,?_,rfl,rfl,Cu ?_⟩
 .simp only[HL];first|exact eN|refine eM ?_
 .first|exact eN|refine eM ?_
 generalize Ba f (List.length f) [] root=o at *;have H:=l.len;repeat'(first|exact trivial|apply eS rfl|apply AC|refine rX b ?_ ?_|refine rC ?_ ?_<;>intro a<;>try(cases a;done))
 refine AL (ι:={i:Nat//i<=o.length}) (λi=>⟨[(2,.bp 2 [] 0),(4,.bp 4 [] 0),(5,.bp 5 [] 0),(8,.bp 8 [] 0),(19,.sr 101 T3 0 o.length),(20,.p (.int .i64) (o.length:Int)),(21,.p (.int .i64) (i.1:Int))],[(8,.box 25 true [.sr 58 He 0 ((o.take i.1).map (CG f o)).length]),(58,.arr 93 He ((o.take i.1).map (CG f o))),(5,.box 177 false [.mp 14]),(2,.box 23 false [.p G2 f]),(101,.arr 3 T3 o),(14,.mapo T3 T3 (lN o)),(4,.box 25 true [.raw (.slice none 0 0)])]⟩) (λi=>o.length-i.1) ⟨0,by omega⟩ (AD [(8,.nm 8),(58,.nil),(5,.nm 5),(2,.nm 2),(101,.nm 101),(14,.nm 14),(4,.nm 4)] rfl rfl ?_ ?_) (λi=>?_)
 .first|exact eN|refine eM ?_
  try exact⟨rfl,rfl⟩
 .first|exact eN|refine eM ?_
 obtain⟨i,hi⟩:=i;have C:((o.take i).map (CG f o)).length=i:=by rw[OF,OS];omega
 have D:=λh:i<o.length=>CK (CG f o) o 0 h;have e:=λh:i<o.length=>l.rng _ (AE o 0 h);simp only;generalize m:(o.take i).map (CG f o)=os at *;repeat'(first|exact trivial|apply eS rfl|apply AC|refine rX b ?_ ?_|refine rC ?_ ?_<;>intro a<;>try(cases a;done))
 .exact a
 .exact e (IN.1 a)
 .exact e (IN.1 a)
 .have d:i<o.length:=IN.1 a;have B:=e d;have g:=D d;have r:=(hf.2 _ (AE f (0,[]) (c9 B))).1;have A:CG f o (o.getD i 0)=((List.getD f (Int.toNat (o.getD i 0)) (0,[])).1,(List.getD f (Int.toNat (o.getD i 0)) (0,[])).2.map (Fg o)):=rfl;rw[A]at g;generalize List.getD f (Int.toNat (o.getD i 0)) (0,[])=x at *;obtain⟨E,xs⟩:=x;simp only at r g ⊢;refine AL (ι:={j:Nat//j<=xs.length}) (λj=>⟨[(2,.bp 2 [] 0),(4,.bp 4 [] 0),(5,.bp 5 [] 0),(8,.bp 8 [] 0),(11,.bp 11 [] 0),(19,.sr 101 T3 0 o.length),(20,.p (.int .i64) (o.length:Int)),(21,.p (.int .i64) (i:Int)),(35,.p DK xs),(36,.p (.int .i64) (xs.length:Int)),(37,.p (.int .i64) (j.1:Int))],[(8,.box 25 true [.sr 58 He 0 os.length]),(58,.arr 93 He os),(5,.box 177 false [.mp 14]),(2,.box 23 false [.p G2 f]),(101,.arr 3 T3 o),(14,.mapo T3 T3 (lN o)),(4,.box 25 true [.raw (.slice none 0 0)]),(11,.box 93 true [.p T3 E,.sr 51 A2 0 ((xs.take j.1).map (Fg o)).length]),(51,.arr 106 A2 ((xs.take j.1).map (Fg o)))]⟩) (λj=>xs.length-j.1) ⟨0,ON _⟩ (AD [(8,.nm 8),(58,.nm 58),(5,.nm 5),(2,.nm 2),(101,.nm 101),(14,.nm 14),(4,.nm 4),(11,.nm 11),(51,.nil)] rfl rfl ?_ ?_) (λj=>?_)
  .first|exact eN|refine eM ?_
   try exact⟨rfl,rfl⟩
  .first|exact eN|refine eM ?_
  obtain⟨j,G⟩:=j;have s:((xs.take j).map (Fg o)).length=j:=by rw[OF,OS];omega
  have t:=λh:j<xs.length=>CK (Fg o) xs (0,0) h;have z:=tG o;simp only;repeat'(first|exact trivial|apply eS rfl|apply AC|refine rX b ?_ ?_|refine rC ?_ ?_<;>intro a<;>try(cases a;done))
  .exact a
  .rw[s];simp only[AP];omega
  .omega
  .have c:j<xs.length:=IN.1 a;have v:=t c;refine⟨⟨j+1,c⟩,by simp only;omega,AD [(8,.nm 8),(58,.nm 58),(5,.nm 5),(2,.nm 2),(101,.nm 101),(14,.nm 14),(4,.nm 4),(11,.nm 11),(51,.nm 51)] rfl rfl ?_ ?_⟩
   .simp only[v,Fg];simp only[<-z];first|exact eN|refine eM ?_
   first|exact eN|refine eM ?_
  .rw[C];simp only[AP];omega
  .omega
  have c:xs.take j=xs:=By (SY.1 a);rw[c];refine⟨⟨i+1,d⟩,by simp only;omega,AD [(8,.nm 8),(58,.nm 58),(5,.nm 5),(2,.nm 2),(101,.nm 101),(14,.nm 14),(4,.nm 4)] rfl rfl ?_ ?_⟩
  .simp only[g];first|exact eN|refine eM ?_
  first|exact eN|refine eM ?_
 have y:i=o.length:=by
  have:=SY.1 a;omega
 subst y;rw[SW]at m;rw[m];exact fI b [.cell 4 25]
end
section
attribute [local go_sem] dA dI
theorem k9 (N g:List AB):Dv N++CP g g.length=Dv (Al N g):=by
 unfold CP Dv Al;rw[SW,UK,bY];rfl
theorem qJ (N g:List AB):F7 N++EV N.length g g.length=F7 (Al N g):=by
 unfold EV F7 Al;rw[SW,UK,bY];rfl
theorem X4 (p:List Int):BS p [((0:Int),[])]=Cc p:=rfl
theorem A3v {h:AG} (ht:Mb h) {f:List AB} {p q:List Int} (hf:VF h f) (i:p.length<=1000) (j:q.length<=1000) (hl:f.length<=10000) {P:List (Int×Int)} (c:∀r∈P,r∈eqP f p q) (g:∀X v,Cj h X->¬G7 h (t7 f p q) P X v):SA h f p q=([],false):=by
 refine Zn λX b l h1 n d e=>?_;obtain⟨v,a,-⟩:=Uz ht hf i j hl b h1 d e;exact g X v b.ty ⟨a.rng,a.ty,a.arc,λr k=>a.eq r (c r k)⟩
noncomputable def A5S:Ab:={ ins:=[Ey,D7,G0,G0],pre:=λ(h,f,p,q,_)=>HU h/\Mb h/\VF h f/\pN h p/\pN h q/\List.length p<=1000/\List.length q<=1000/\List.length f<=1000,out:=λ(h,f,p,q,_)=>[.p D7 (SA h f p q).1,.p .bool (SA h f p q).2] }
attribute [local go_sem] A5S
theorem A7Z:Ag Tryz.prog 99 A5S:=by
  refine fK [0,1,2,3,4,5,8,9,10,11,12,13,14,69] Tryz.func99 Tryz.ntmps99 (AF A2S (AF A3b AI)) ?_;rintro w0 O0 ⟨h,f,p,q,u⟩ c-⟨hu,ht,vf,O,Q,au,aw,ah⟩;simp only[A5S,AN];have R:AO ([((0:Int),[])]:List AB):=⟨by simp,by simp⟩;have D:p.length<=1000:=au;have E:q.length<=1000:=aw;have bh:f.length<=1000:=ah;have S:=Dw D;have T:=Dw E;have Y:=B6 p;have az:=B6 q;have U:0<h.1.length:=by
    have:=vf.ty _ (AE f (0,[]) vf.pos);omega
  have pos:=vf.pos;have af:=Uy f p q;have ay:=CT f (Cc p);rw[Y]at ay;have ae:=Ef vf.good S oa;have ad:=Ef ae T oa;have bd:=IZ (IZ vf.ty (J7 U p)) (J7 U q);have Z:=GY (GY vf.str (Hw p)) (Hw q);have V:∀g:List AB,(∀x∈g,∀a∈x.2,0<=a.1/\a.1<(h.2.length:Int))->c6 g:=λg aj x hx a ha=>by
    have h1:=aj x hx a ha;have be:=hu.ft;omega
  have M:=Ia (Ia (vf.ft64 hu) (V _ (Gw O))) (V _ (Gw Q));have an:=Ux ad bd Z;have ai:=pK (N:=t7 f p q) λx hx=>pJ (Z x hx) (M x hx);have W:=λP ty ar ak z=>pO ht vf O Q D E oa (P:=P) (ty:=ty) (ar:=ar) ak z;have C:=λP ag=>A3v ht vf D E oa (P:=P) ag;have av:=X4 p;have ax:=X4 q;repeat'(first|exact trivial|apply eS rfl|apply AC|refine rX c ?_ ?_|refine rC ?_ ?_<;>intro d<;>try(cases d;done))
  . exact⟨⟨D,R⟩,E,R⟩
  rw[av,ax]
  unfold t7 at af ai W C;generalize bf:Cc p=A at *;generalize bg:Cc q=B at *;have K:CP f f.length++CP A A.length=Dv (Al f A):=pI f A;have I:EV 0 f f.length++EV f.length A A.length=F7 (Al f A):=yQ f A;have G:Bd 0 f.length++Bd f.length A.length=Bd 0 (Al f A).length:=by rw[Zk,CT]
  have L:=k9 (Al f A) B;have J:=qJ (Al f A) B;have H:Bd 0 (Al f A).length++Bd (Al f A).length B.length=Bd 0 (Al (Al f A) B).length:=by rw[Zk,<-CT]
  refine cP 3 c ?_ ?_
  . trivial
  refine rM c (pD h [] [] [] f vf.good sc rfl rfl) [(1,.nm 23),(2,.nil),(3,.nil),(4,.nil)] [] ?_ ?_ ?_
  . first|exact eN|refine eM ?_
  . simp only[YG]
    first|exact eN|refine eM ?_
  rintro _ _ ⟨rfl,rfl⟩
  refine ⟨[(23, .nm 1), (102, .nm 2), (103, .nm 3), (104, .nm 4)], .raw (.tuple #[]),
          [(23,.box 111 true [.p Ey h,.sr 102 T3 0 (Bd 0 f.length).length,.sr 103 T3 0 (CP f f.length).length,.sr 104 DK 0 (EV 0 f f.length).length]),(102,.arr 3 T3 (Bd 0 f.length)),(103,.arr 3 T3 (CP f f.length)),(104,.arr 91 DK (EV 0 f f.length))]
    ,rfl,rfl,?_,?_,rfl,rfl,Cu ?_⟩
  . simp only[YG]
    first|exact eN|refine eM ?_
  . first|exact eN|refine eM ?_
  have la:(Bd 0 f.length).length=f.length:=Hv 0 f.length
  have lt:(CP f f.length).length=f.length:=by unfold CP;rw[OF,SW]
  have ba:(EV 0 f f.length).length=f.length:=by unfold EV;rw[OF,SW]
  repeat'(first|exact trivial|apply eS rfl|apply AC|refine rX c ?_ ?_|refine rC ?_ ?_<;>intro d<;>try(cases d;done))
  refine cP 3 c ?_ ?_
  . trivial
  refine rM c (pD h (Bd 0 f.length) (CP f f.length) (EV 0 f f.length) A S oa oa oa) [(1,.nm 23),(2,.nm 102),(3,.nm 103),(4,.nm 104)] [102,103,104] ?_ ?_ ?_
  . first|exact eN|refine eM ?_
  . simp only[YG]
    first|exact eN|refine eM ?_
  rintro _ _ ⟨rfl,rfl⟩
  rw[la,G,K,I];have X:(Bd 0 (Al f A).length).length=(Al f A).length:=Hv 0 _;have bc:(Dv (Al f A)).length=(Al f A).length:=by unfold Dv;rw[OF]
  have bb:(F7 (Al f A)).length=(Al f A).length:=by unfold F7;rw[OF]
  refine⟨[(23,.nm 1),(102,.nm 2),(103,.nm 3),(104,.nm 4)],.raw (.tuple #[]),
    [(23,.box 111 true [.p Ey h,.sr 102 T3 0 (Bd 0 (Al f A).length).length,.sr 103 T3 0 (Dv (Al f A)).length,.sr 104 DK 0 (F7 (Al f A)).length]),(102,.arr 3 T3 (Bd 0 (Al f A).length)),(103,.arr 3 T3 (Dv (Al f A))),(104,.arr 91 DK (F7 (Al f A)))]
    ,rfl,rfl,?_,?_,rfl,rfl,Cu ?_⟩
  . simp only[YG]
    first|exact eN|refine eM ?_
  . first|exact eN|refine eM ?_
  repeat'(first|exact trivial|apply eS rfl|apply AC|refine rX c ?_ ?_|refine rC ?_ ?_<;>intro d<;>try(cases d;done))
  refine cP 3 c ?_ ?_
  . trivial
  . refine rM c (pD h (Bd 0 (Al f A).length) (Dv (Al f A)) (F7 (Al f A)) B T oa oa oa) [(1,.nm 23),(2,.nm 102),(3,.nm 103),(4,.nm 104)] [102,103,104] ?_ ?_ ?_
    . first|exact eN|refine eM ?_
    . simp only[YG]
      first|exact eN|refine eM ?_
    . rintro _ _ ⟨rfl,rfl⟩
      rw[X,H,L,J];have aa:(((Al f A).length:Nat):Int)=((f.length+(p.length+1):Nat):Int):=by omega
      refine⟨[(23,.nm 1),(102,.nm 2),(103,.nm 3),(104,.nm 4)],.raw (.tuple #[]),
  [(23, .box 111 true [.p Ey h, .sr 102 T3 0 (Bd 0 (Al (Al f A) B).length).length, .sr 103 T3 0 (Dv (Al (Al f A) B)).length, .sr 104 DK 0 (F7 (Al (Al f A) B)).length]), (102, .arr 3 T3 (Bd 0 (Al (Al f A) B).length)), (103, .arr 3 T3 (Dv (Al (Al f A) B))), (104, .arr 91 DK (F7 (Al (Al f A) B)))]
        ,rfl,rfl,?_,?_,rfl,rfl,Cu ?_⟩
      . simp only[YG]
        first|exact eN|refine eM ?_
      . first|exact eN|refine eM ?_
      . clear la lt ba X bc bb K I G L J H
        rw[aa];have bi:A.length=p.length+1:=Y;have bj:B.length=q.length+1:=az;generalize Al (Al f A) B=y at *;generalize Bd 0 y.length=p0 at *;generalize Dv y=bm at *;generalize F7 y=bl at *;have bk:0<y.length:=by omega
        repeat'(first|exact trivial|apply eS rfl|apply AC|refine rX c ?_ ?_|refine rC ?_ ?_<;>intro d<;>try(cases d;done))
        refine evP c 2 ?_ ?_
        . trivial
        . refine clG c (cU h hu.ok an (a:=0) (b:=(f.length:Int)) oa oa oa oa) [(101,.nm 23),(102,.nm 102),(103,.nm 103),(104,.nm 104)] [102,103,104] ?_ ?_ ?_
          . first|exact eN|refine eM ?_
          . simp only[Zh]
            first|exact eN|refine eM ?_
          . rintro res F (⟨rfl,n,v,s,rfl,al⟩|⟨rfl,⟨n,v,s,rfl⟩,ao⟩)
            . refine⟨[(23,.nm 101),(102,.nm 102),(103,.nm 103),(104,.nm 104)],.p .bool true,
  [(23, .box 111 true [.p Ey h, .sr 102 T3 0 n.length, .sr 103 T3 0 v.length, .sr 104 DK 0 s.length]), (102, .arr 3 T3 n), (103, .arr 3 T3 v), (104, .arr 91 DK s)]
                ,rfl,rfl,?_,?_,rfl,rfl,?_⟩
              . simp only[Zh]
                first|exact eN|refine eM ?_
              . first|exact eN|refine eM ?_
              . refine rN 5 c ?_ ?_
                . trivial
                . refine clG c (cU h hu.ok al (a:=(f.length:Int)) (b:=((f.length+(p.length+1):Nat):Int)) oa oa oa oa) [(101,.nm 23),(102,.nm 102),(103,.nm 103),(104,.nm 104)] [102,103,104] ?_ ?_ ?_
                  . first|exact eN|refine eM ?_
                  . simp only[Zh]
                    first|exact eN|refine eM ?_
                  . rintro res F (⟨rfl,o,w,t,rfl,am⟩|⟨rfl,⟨o,w,t,rfl⟩,ap⟩)
                    . refine⟨[(23,.nm 101),(102,.nm 102),(103,.nm 103),(104,.nm 104)],.p .bool true,
  [(23, .box 111 true [.p Ey h, .sr 102 T3 0 o.length, .sr 103 T3 0 w.length, .sr 104 DK 0 t.length]), (102, .arr 3 T3 o), (103, .arr 3 T3 w), (104, .arr 91 DK t)]
                        ,rfl,rfl,?_,?_,rfl,rfl,?_⟩
                      . simp only[Zh]
                        first|exact eN|refine eM ?_
                      . first|exact eN|refine eM ?_
                      . refine rN 12 c ?_ ?_
                        . exact eV
                        . refine clG c (cU h hu.ok am (a:=(f.length:Int)+(p.length:Int)) (b:=((f.length+(p.length+1):Nat):Int)+(q.length:Int)) oa oa oa oa) [(101,.nm 23),(102,.nm 102),(103,.nm 103),(104,.nm 104)] [102,103,104] ?_ ?_ ?_
                          . first|exact eN|refine eM ?_
                          . simp only[Zh]
                            first|exact eN|refine eM ?_
                          . have ab:[]++[(0,(f.length:Int))]++[((f.length:Int),((f.length+(p.length+1):Nat):Int))]++[((f.length:Int)+(p.length:Int),((f.length+(p.length+1):Nat):Int)+(q.length:Int))]=eqP f p q:=by
                              rw[show (f.length:Int)+(p.length:Int)=((f.length+p.length:Nat):Int) by omega,show ((f.length+(p.length+1):Nat):Int)+(q.length:Int)=((f.length+(p.length+1)+q.length:Nat):Int) by omega];rfl
                            rw[ab];rintro res F (⟨rfl,i,m,l,rfl,e⟩|⟨rfl,⟨i,m,l,rfl⟩,aq⟩)
                            . have z:=Qi e oa M
                              have j:=SB hu (W i m l e z);refine⟨[(23,.nm 101),(102,.nm 102),(103,.nm 103),(104,.nm 104)],.p .bool true,
  [(23, .box 111 true [.p Ey h, .sr 102 T3 0 i.length, .sr 103 T3 0 m.length, .sr 104 DK 0 l.length]), (102, .arr 3 T3 i), (103, .arr 3 T3 m), (104, .arr 91 DK l)]
                                ,rfl,rfl,?_,?_,rfl,rfl,?_⟩
                              . simp only[Zh]
                                first|exact eN|refine eM ?_
                              . first|exact eN|refine eM ?_
                              refine rL c ?_ ?_
                              . trivial
                              repeat'(first|exact trivial|apply eS rfl|apply AC|refine rX c ?_ ?_|refine rC ?_ ?_<;>intro d<;>try(cases d;done))
                              refine cP 1 c ?_ ?_
                              . trivial
                              refine rM c (A2I h e.fo z (by rw[e.lt,e.lp]) (by rw[e.la,e.lp]) (λk x hx=>by rw[e.lp];exact(e.arr k x hx).1) (r:=0) oa (by rw[e.lp];omega)) [(101,.nm 23),(102,.nm 102),(103,.nm 103),(104,.nm 104)] [23,102,103,104] ?_ ?_ ?_
                              . first|exact eN|refine eM ?_
                              . simp only[Zh]
                                first|exact eN|refine eM ?_
                              rintro _ F rfl
                              refine⟨[],.p D7 (AH (quo i m l) (D9 i 0)),[],rfl,rfl,?_,?_,rfl,rfl,?_⟩
                              . first|exact eN|refine eM ?_
                              . first|exact eN|refine eM ?_
                              refine rL c ?_ ?_
                              . trivial
                              repeat'(first|exact trivial|apply eS rfl|apply AC|refine rX c ?_ ?_|refine rC ?_ ?_<;>intro d<;>try(cases d;done))
                              exact fI c [.cell 8 25,.tmp 9] (by rw[j];exact eR)
                            . have j:=C (eqP f p q) (λ_ h=>h) aq
                              refine⟨[(23,.nm 101),(102,.nm 102),(103,.nm 103),(104,.nm 104)],.p .bool false,
  [(23, .box 111 true [.p Ey h, .sr 102 T3 0 i.length, .sr 103 T3 0 m.length, .sr 104 DK 0 l.length]), (102, .arr 3 T3 i), (103, .arr 3 T3 m), (104, .arr 91 DK l)]
                                ,rfl,rfl,?_,?_,rfl,rfl,?_⟩
                              . simp only[Zh]
                                first|exact eN|refine eM ?_
                              . first|exact eN|refine eM ?_
                              refine rL c ?_ ?_
                              . trivial
                              repeat'(first|exact trivial|apply eS rfl|apply AC|refine rX c ?_ ?_|refine rC ?_ ?_<;>intro d<;>try(cases d;done))
                              exact fI c [.cell 8 25,.tmp 9] (by rw[j];exact eR)
                    . have j:=C [(0,(f.length:Int)),((f.length:Int),((f.length+(p.length+1):Nat):Int))] sc ap
                      refine⟨[(23,.nm 101),(102,.nm 102),(103,.nm 103),(104,.nm 104)],.p .bool false,
  [(23, .box 111 true [.p Ey h, .sr 102 T3 0 o.length, .sr 103 T3 0 w.length, .sr 104 DK 0 t.length]), (102, .arr 3 T3 o), (103, .arr 3 T3 w), (104, .arr 91 DK t)]
                        ,rfl,rfl,?_,?_,rfl,rfl,?_⟩
                      . simp only[Zh]
                        first|exact eN|refine eM ?_
                      . first|exact eN|refine eM ?_
                      refine rL c ?_ ?_
                      . trivial
                      repeat'(first|exact trivial|apply eS rfl|apply AC|refine rX c ?_ ?_|refine rC ?_ ?_<;>intro d<;>try(cases d;done))
                      exact fI c [.cell 8 25,.tmp 9] (by rw[j];exact eR)
            . have j:=C [(0,(f.length:Int))] sc ao
              refine⟨[(23,.nm 101),(102,.nm 102),(103,.nm 103),(104,.nm 104)],.p .bool false,
  [(23, .box 111 true [.p Ey h, .sr 102 T3 0 n.length, .sr 103 T3 0 v.length, .sr 104 DK 0 s.length]), (102, .arr 3 T3 n), (103, .arr 3 T3 v), (104, .arr 91 DK s)]
                ,rfl,rfl,?_,?_,rfl,rfl,?_⟩
              . simp only[Zh]
                first|exact eN|refine eM ?_
              . first|exact eN|refine eM ?_
              refine rL c ?_ ?_
              . trivial
              repeat'(first|exact trivial|apply eS rfl|apply AC|refine rX c ?_ ?_|refine rC ?_ ?_<;>intro d<;>try(cases d;done))
              exact fI c [.cell 8 25,.tmp 9] (by rw[j];exact eR)
end
section
attribute [local go_sem] Ja KD A5S atS qI
def GD (w:LW) (U:List AB):List AB:=U++[(w.dlist,[(w.last,(Ic U 0 [w.rest,w.last]).1),(w.head,(Ic U 0 [w.first,w.head]).1)])]
noncomputable def LS (h:AG) (a b:List AB):List AB×Bool:=SA h (Au 0 (AM h).first (AM h).rest a b) [(AM h).first,(AM h).last] [(AM h).rest,(AM h).head]
noncomputable def Cs (h:AG) (a b:List AB):List AB×Int :=
 if FH h=true then
  if (Ap h a 0).2≠0 then ([],(Ap h a 0).2)
  else if (Ap h b 0).2≠0 then ([],(Ap h b 0).2)
  else if (LS h a b).2=false then ([],12)
  else if 4096<(AH (GD (AM h) (LS h a b).1) ((LS h a b).1.length:Int)).length then ([],7)
  else (AH (GD (AM h) (LS h a b).1) ((LS h a b).1.length:Int),0)
 else ([],5)
theorem A3w {h:AG} {a:List AB} (b:VF h a) (p:List Int):0<=(Ic a 0 p).1/\(Ic a 0 p).1<(a.length:Int):=by
 have d:=b.pos;cases hb:(Ic a 0 p).2 with
 | true=>exact A5N b p hb
 | false =>
  have e:=Qt b.good b.str p 0;rw[e]at hb ⊢;cases c:AY a 0 p with
  | some m=>rw[c]at hb;cases hb
  | none =>
   simp only;omega
theorem KF {h:AG} {b:List AB} (w:LW) (c:VF h b) (hl:b.length<=10000):AO (GD w b)/\(GD w b).length=b.length+1:=by
 have h1:=A3w c [w.rest,w.last];have e:=A3w c [w.first,w.head];have d:(GD w b).length=b.length+1:=by
  unfold GD;rw[As];rfl
 refine⟨⟨by omega,λx hx=>?_⟩,d⟩;rw[d];unfold GD at hx;rcases Do.1 hx with q|q
 .refine⟨(c.good.2 x q).1,λa ha=>?_⟩;have:=(c.good.2 x q).2 a ha;omega
 rw[SQ.1 q];refine⟨by show 2<=100000;omega,λa ha=>?_⟩;simp only[At,TO,AAw]at ha;rcases ha with rfl|rfl
 .simp only;omega
 simp only;omega
noncomputable def uV:Ab:={ ins:=[Ey,D7,D7],pre:=λ(h,a,b,_)=>(HU h/\Mb h/\(FH h=true->(AM h).first<(AM h).rest))/\VF h a/\VF h b/\List.length a+List.length b<=990,out:=λ(h,a,b,_)=>[.p D7 (Cs h a b).1,.p HD (Cs h a b).2] }
theorem uW:Ag Tryz.prog 44 uV:=by
 refine fKP [0,1,2,3,4,5,6,7,8,9,11,13,14,15,16,17,19,21,22,29,34,35,36,37,47,91,139] [34,61,81,86,99,109,123,130] [] Tryz.func44 Tryz.ntmps44 (AF Mc (AF Ts (AF A7Z (AF A9j (AF A3u AI))))) ?_;rintro w0 O0 ⟨h,a,b,u⟩ d-⟨⟨hu,ht,T⟩,va,vb,hl⟩;have va:VF h a:=va;have vb:VF h b:=vb;have hl:List.length a+List.length b<=990:=hl;have l:(h.1,h.2)=h:=rfl;simp only[uV,AN];repeat'(first|exact trivial|apply eS rfl|apply AC|refine rP d ?_ ?_|refine rA d ?_ ?_|refine rC ?_ ?_<;>intro c<;>try(cases c;done))
 all_goals have n:(h.1,h.2)=h:=rfl
 all_goals simp only[n]at *
 .have i:FH h=false:=by
   cases hb:FH h with
   | true=>rw[hb]at c;exact absurd rfl c
   | false=>rfl
  have f:Cs h a b=([],5):=by unfold Cs;rw[i,BY sc]
  simp only[i,AA0,AAp,f];exact fI d [.cell 6 25,.tmp 7]
 have i:FH h=true:=by
  have q:((if FH h=true then (0:Int) else 5) != 0)=false:=by assumption
  cases hb:FH h with
  | false=>rw[hb]at q;exact absurd q dc
  | true=>rfl
 simp only[DO i,zR]at *;refine AL (ι:={k:Nat//k<=2/\(1<=k->(Ap h a 0).2=0)/\(2<=k->(Ap h b 0).2=0)}) (λk=>⟨[(3,.bp 3 [] 0),(4,.bp 4 [] 0),(5,.bp 5 [] 0),(6,.bp 6 [] 0),(8,.bp 8 [] 0),(34,.p Um [a,b]),(35,.p (.int .i64) (2:Int)),(36,.p (.int .i64) (k.1:Int))],[(8,.box 115 true [.p Ey h,.p T3 (AM h).list,.p T3 (AM h).cons,.p T3 (AM h).null,.p T3 (AM h).dlist,.p T3 (AM h).first,.p T3 (AM h).rest,.p T3 (AM h).head,.p T3 (AM h).last]),(6,.box 25 true [.raw (.slice none 0 0)]),(5,.box 25 true [.p G2 b]),(4,.box 25 true [.p G2 a]),(3,.box 31 true [.p wX h.1,.p T29 h.2])]⟩) (λk=>2-k.1) ⟨0,by omega,λq=>by omega,λq=>by omega⟩ (AD [(3,.nm 3),(4,.nm 4),(5,.nm 5),(6,.nm 6),(8,.nm 8)] rfl rfl ?_ ?_) (λk=>?_)
 .first|exact eN|refine eM ?_
 .first|exact eN|refine eM ?_
  rfl
 obtain⟨k,hk,J,U⟩:=k;have hx:k<2->∃x,[a,b].getD k []=x/\VF h x/\((Ap h x 0).2≠0->Cs h a b=([],(Ap h x 0).2))/\((Ap h x 0).2=0->(1<=k+1->(Ap h a 0).2=0)/\(2<=k+1->(Ap h b 0).2=0)):=λo=>by
  have:k=0\/k=1:=by omega
  rcases this with rfl|rfl
  .exact⟨a,rfl,va,λq=>by unfold Cs;rw[DO i,DO q],λq=>⟨λ_=>q,λK=>by omega⟩⟩
  have t:=J (No _);exact⟨b,rfl,vb,λq=>by unfold Cs;rw[DO i,BY (λK=>K t),DO q],λq=>⟨λ_=>t,λ_=>q⟩⟩
 simp only;repeat'(first|exact trivial|apply eS rfl|apply AC|refine rP d ?_ ?_|refine rA d ?_ ?_|refine rC ?_ ?_<;>intro c<;>try(cases c;done))
 all_goals have n:(h.1,h.2)=h:=rfl
 all_goals simp only[n]at *
 .exact c
 .obtain⟨x,e,r,-⟩:=hx (IN.1 c);rw[e];exact⟨r.good,r.ty,IN.2 r.pos⟩
 .obtain⟨x,e,r,f,-⟩:=hx (IN.1 (by assumption));have F:(Ap h ([a,b].getD k []) 0).2≠0:=c;rw[e]at F;rw[f F,<-e];exact fI d [.cell 6 25,.tmp 7]
 .omega
 .have o:k<2:=IN.1 (by assumption);obtain⟨x,e,r,-,f⟩:=hx o;have z:(Ap h ([a,b].getD k []) 0).2=0:=by simpa using c
  rw[e]at z;refine⟨⟨k+1,o,(f z).1,(f z).2⟩,by simp only;omega,AD [(3,.nm 3),(4,.nm 4),(5,.nm 5),(6,.nm 6),(8,.nm 8)] rfl rfl ?_ ?_⟩
  .first|exact eN|refine eM ?_
  first|exact eN|refine eM ?_
 .omega
 have o:2<=k:=SY.1 c;have t:=J oa;have V:=U o;clear hx;have L:=va.pos;have ab:=va.good.1;have I:=Hk 1 a (No a.length);have G:=VE [((0:Int),[((AM h).first,(1:Int)),((AM h).rest,1+(a.length:Int))])] a va.good sc;have H:=VE ([((0:Int),[((AM h).first,(1:Int)),((AM h).rest,1+(a.length:Int))])]++NL 1 a a.length) b vb.good (by rw[As,I,If];omega);have D:([((0:Int),[((AM h).first,(1:Int)),((AM h).rest,1+(a.length:Int))])]++NL 1 a a.length).length=1+a.length:=by rw[As,I,If]
 simp only[If]at G;rw[D,show [((0:Int),[((AM h).first,(1:Int)),((AM h).rest,1+(a.length:Int))])]++NL 1 a a.length++NL (1+a.length) b b.length=Au 0 (AM h).first (AM h).rest a b from rfl]at H;refine HB drawsAny d 8 [([0,1,2,3],4),([5,6],7)] [] (by kernel_rfl) (Uk ?_ ?_)
 .trivial
 refine mxC d (G) [(50,.nm 63)] [63] ?_ ?_ ?_
 .exact eN
 .exact eN
 rintro _ _ ⟨rfl,rfl⟩;refine⟨[(63,.nm 50)],.sr 63 He 0 (1+a.length),[(63,.arr 93 He ([((0:Int),[((AM h).first,(1:Int)),((AM h).rest,1+(a.length:Int))])]++NL 1 a a.length))],rfl,rfl,?_,?_,rfl,rfl,rfl,?_⟩
 .exact eN
 .simp only[D];exact eN
 refine Uk ?_ ?_
 .trivial
 refine mxC d (H) [(50,.nm 63)] [63] ?_ ?_ ?_
 .exact eN
 .exact eN
 rintro _ _ ⟨rfl,rfl⟩;refine⟨[(63,.nm 50)],.sr 63 He 0 (Au 0 (AM h).first (AM h).rest a b).length,[(63,.arr 93 He (Au 0 (AM h).first (AM h).rest a b))],rfl,rfl,?_,?_,rfl,rfl,rfl,?_⟩
 .exact eN
 .exact eN
 refine wU d ?_ ?_ ?_
 .trivial
 .trivial
 refine GB [63] ?_;have m:=Gx i;have v:=(F9 h ⟨#[70,73,82,83,84]⟩).2;have w:=(F9 h ⟨#[82,69,83,84]⟩).2;have A:=(F9 h ⟨#[76,73,83,84]⟩).2;have B:=(F9 h ⟨#[76,65,83,84]⟩).2;obtain⟨-,-,-,-,W,X,Y,Z⟩:=pR h;rw[W]at v;rw[X]at w;rw[Y]at A;rw[Z]at B;have O:0<h.1.length:=by
  have:=va.ty _ (AE a (0,[]) L);omega
 have aa:=Mk ⟨Sh 0,IN.2 O⟩ (T i) ⟨m.1.1,v⟩ ⟨m.1.2,w⟩ va vb oa;have ad:=Be 0 (AM h).first (AM h).rest a b;have M:pN h [(AM h).first,(AM h).last]:=λe l=>by
  simp only[At,TO,AAw]at l;rcases l with rfl|rfl
  .exact⟨m.1.1,v⟩
  exact⟨m.2.2.2.2.2.2,B⟩
 have N:pN h [(AM h).rest,(AM h).head]:=λe l=>by
  simp only[At,TO,AAw]at l;rcases l with rfl|rfl
  .exact⟨m.1.2,w⟩
  exact⟨m.2.2.2.2.2.1,A⟩
 have j:(LS h a b).2=true->UG h (Au 0 (AM h).first (AM h).rest a b) [(AM h).first,(AM h).last] [(AM h).rest,(AM h).head] (LS h a b).1:=Zo;have f:Cs h a b=if (LS h a b).2=false then ([],12) else if 4096<(AH (GD (AM h) (LS h a b).1) ((LS h a b).1.length:Int)).length then ([],7) else (AH (GD (AM h) (LS h a b).1) ((LS h a b).1.length:Int),0):=by
  unfold Cs;rw[DO i,BY (λq=>q t),BY (λq=>q V)]
 rw[f];clear f;unfold LS at j ⊢;generalize Au 0 (AM h).first (AM h).rest a b=P at *;repeat'(first|exact trivial|apply eS rfl|apply AC|refine rP d ?_ ?_|refine rA d ?_ ?_|refine rC ?_ ?_<;>intro c<;>try(cases c;done))
 all_goals have n:(h.1,h.2)=h:=rfl
 all_goals simp only[n]at *
 all_goals generalize SA h P [(AM h).first,(AM h).last] [(AM h).rest,(AM h).head]=R at *
 .exact⟨hu,ht,aa,M,N,by omega⟩
 .rw[DO c];exact fI d [.cell 6 25,.tmp 7]
 .exact⟨(j c).vf.good,(j c).vf.pos⟩
 .exact⟨(j c).vf.good,(j c).vf.pos⟩
 have C:=j c;have S:=C.len;simp only[IF,AA1]at S;obtain⟨E,Q⟩:=KF (AM h) C.vf oa;rw[BY (by rw[c];simp)];clear j;unfold GD at E Q ⊢;generalize R.1=s at *;refine HB drawsAny d 13 [([0,1,2],3),([4,5],6),([7,8,9],10),([11],12)] [] (by kernel_rfl) (Uk ?_ ?_)
 .trivial
 refine WM d [125] ?_ ?_
 .simp only[AP];omega
 refine Uk ?_ ?_
 .trivial
 refine mxF 125 d [125] ?_ ?_
 .simp only[AP];omega
 refine Uk ?_ ?_
 .trivial
 refine WM d [] ?_ ?_
 .exact⟨E,Int.lt_add_one_of_le (Sh _)⟩
 refine Uk ?_ ?_
 .trivial
 refine WM d [] ?_ ?_
 .trivial
 refine wU d ?_ ?_ ?_
 .trivial
 .trivial
 generalize AH (s++[((AM h).dlist,[((AM h).last,(Ic s 0 [(AM h).rest,(AM h).last]).1),((AM h).head,(Ic s 0 [(AM h).first,(AM h).head]).1)])]) (s.length:Int)=g at *;repeat'(first|exact trivial|apply eS rfl|apply AC|refine rX d ?_ ?_|refine rC ?_ ?_<;>intro c<;>try(cases c;done))
 .have y:4096<g.length:=IN.1 (show ((4096:Nat):Int)<(g.length:Int) from c);rw[DO y];exact fI d [.cell 6 25,.tmp 7]
 have y:¬4096<g.length:=Nat.not_lt.2 (SY.1 (show (g.length:Int)<=((4096:Nat):Int) from c));rw[BY y];exact fI d [.cell 6 25,.tmp 7]
end
def Cg:Nat->List Int->Int->Int
 | 0,_,n=>n
 | k+1,p,n=>if EF p n=n then n else Cg k p (EF p n)
def X5 (p:List Int) (n:Int):Bool:=EF p (Cg 100 p n)==Cg 100 p n
theorem lC {p:List Int}:∀ {k:Nat} {n:Int},EF p (Cg k p n)=Cg k p n->Rt p n (Cg k p n)
 | 0,n,h=>.base h
 | k+1,n,h=>by
  unfold Cg at h ⊢;split
  .rename_i e;exact .base e
  rename_i e;rw[BY e]at h;exact .step e (lC h)
theorem X6 {p:List Int} {n:Int} (h:X5 p n=true):Rt p n (Cg 100 p n):=lC (by unfold X5 at h;simpa using h)
abbrev ClD:=List Int×List Int×List (List (Int×Int))
def Z6 (h:AG):Nat->ClD->List (Int×Int)->Option (Option ClD)
 | 0,_,_=>none
 | k+1,s,W=>match W.getLast? with
  | none=>some (some s)
  | some w =>
   if (X5 s.1 w.1&&X5 s.1 w.2)=true then
    if Cg 100 s.1 w.1=Cg 100 s.1 w.2 then Z6 h k s W.dropLast
    else if (Bt h (s.2.1.getD (Cg 100 s.1 w.1).toNat 0) (s.2.1.getD (Cg 100 s.1 w.2).toNat 0)).2=false then some none
    else Z6 h k (s.1.set (Cg 100 s.1 w.2).toNat (Cg 100 s.1 w.1),s.2.1.set (Cg 100 s.1 w.1).toNat (Bt h (s.2.1.getD (Cg 100 s.1 w.1).toNat 0) (s.2.1.getD (Cg 100 s.1 w.2).toNat 0)).1,s.2.2.set (Cg 100 s.1 w.1).toNat (Bw (s.2.2.getD (Cg 100 s.1 w.1).toNat []) (s.2.2.getD (Cg 100 s.1 w.2).toNat [])).1)
     (W.dropLast++(Bw (s.2.2.getD (Cg 100 s.1 w.1).toNat []) (s.2.2.getD (Cg 100 s.1 w.2).toNat [])).2)
   else none
theorem A5T {α:Type} {W:List α} {w:α} (h:W.getLast?=some w):W=W.dropLast++[w]:=by
 obtain⟨a,e⟩:=List.getLast?_eq_some_iff.1 h;rw[e];simp
theorem X7 {h:AG} (hk:Hu h) {N:List AB} {P:List (Int×Int)}:∀(k:Nat) (s:ClD) (W:List (Int×Int)),JI h N P s.1 s.2.1 s.2.2 W ->
  (∀t,Z6 h k s W=some (some t)->JI h N P t.1 t.2.1 t.2.2 [])/\(Z6 h k s W=some none->∀X v,Cj h X->¬G7 h N P X v)
 | 0,s,W,a=>⟨λt e=>(by cases e),λe=>(by cases e)⟩
 | k+1,s,W,a=>by
  unfold Z6;cases f:W.getLast? with
  | none =>
   have:W=[]:=List.getLast?_eq_none_iff.1 f;subst this;refine⟨λt e=>?_,λe=>(by cases e)⟩;have e:s=t:=by simpa using e
   rw[<-e];exact a
  | some w =>
   simp only;have g:=A5T f;obtain⟨x,y⟩:=w;rw[g]at a;by_cases c:(X5 s.1 x&&X5 s.1 y)=true
   .rw[DO c];rw[An]at c;have ha:=X6 c.1;have hb:=X6 c.2;by_cases d:Cg 100 s.1 x=Cg 100 s.1 y
    .rw[DO d];rw[<-d]at hb;exact X7 hk k s _ (cR a ha hb)
    rw[BY d];by_cases b:(Bt h (s.2.1.getD (Cg 100 s.1 x).toNat 0) (s.2.1.getD (Cg 100 s.1 y).toNat 0)).2=false
    .rw[DO b];refine⟨λt e=>(by cases e),λ_ X v i j=>?_⟩;have:=(Uw hk a ha hb i j).2.1;rw[b]at this;cases this
    rw[BY b];have b:(Bt h (s.2.1.getD (Cg 100 s.1 x).toNat 0) (s.2.1.getD (Cg 100 s.1 y).toNat 0)).2=true:=by simpa using b
    exact X7 hk k _ _ (XS hk a ha hb d b)
   rw[BY c];exact⟨λt e=>(by cases e),λe=>(by cases e)⟩
def SM (h:AG):ClD->List (Int×Int)->Option (Option ClD)
 | s,[]=>some (some s)
 | s,q :: P=>match Z6 h 1000 s [q] with
  | some (some t)=>SM h t P
  | r=>r
theorem Z7 {h:AG} (hk:Hu h) {N:List AB}:∀(R P:List (Int×Int)) (s:ClD),(∀q∈R,(0<=q.1/\q.1<(N.length:Int))/\(0<=q.2/\q.2<(N.length:Int)))->JI h N P s.1 s.2.1 s.2.2 [] ->
  (∀t,SM h s R=some (some t)->JI h N (P++R) t.1 t.2.1 t.2.2 [])/\(SM h s R=some none->∀X v,Cj h X->¬G7 h N (P++R) X v)
 | [],P,s,g,f=>⟨λt e=>by
   have e:s=t:=by simpa[SM] using e
   rw[<-e,UL];exact f,λe=>(by cases e)⟩
 | q :: R,P,s,g,f=>by
  obtain⟨a,b⟩:=q;have c:=g (a,b) sc;obtain⟨l,m⟩:=X7 hk 1000 s [(a,b)] (XT f c.1 c.2);have i:P++(a,b) :: R=P++[(a,b)]++R:=by simp
  unfold SM;rw[i];split
  .rename_i t ht;exact Z7 hk R (P++[(a,b)]) t (λq c=>g q (by simp[c])) (l t ht)
  rename_i r k;refine⟨λt e=>absurd e (k t),λe X v j d=>m e X v j ⟨d.rng,d.ty,d.arc,λq c=>d.eq q (UM _ c)⟩⟩
def A5U (s:ClD):List AB:=(List.range s.1.length).map λk=>(s.2.1.getD k 0,(s.2.2.getD k []).map λa=>(a.1,Cg 100 s.1 a.2))
def dT (s:ClD):Bool:=(List.range s.1.length).all λ(k:Nat)=>X5 s.1 (k:Int)
theorem Z8 {h:AG} {N:List AB} {P:List (Int×Int)} {s:ClD} (b:JI h N P s.1 s.2.1 s.2.2 []) (a:dT s=true) {x:Int} (c:0<=x) (d:x<(N.length:Int)):Cg 100 s.1 x=D9 s.1 x:=by
 unfold dT at a;rw[NO]at a;have hl:=b.lp;have:=a x.toNat (UJ.2 oa);rw[AAG c]at this;rw[cV (X6 this)]
theorem A5V {h:AG} {N:List AB} {P:List (Int×Int)} {s:ClD} (b:JI h N P s.1 s.2.1 s.2.2 []) (c:dT s=true):A5U s=quo s.1 s.2.1 s.2.2:=by
 unfold A5U quo;refine Of λk _=>?_
 congr 1
 refine Of λa ha=>?_;have:=(b.arr k a ha).1;rw[Z8 b c this.1 this.2]
def A3y (N:List AB):ClD:=(Bd 0 N.length,Dv N,F7 N)
def A5W (h:AG) (N:List AB) (P:List (Int×Int)):Option (List AB×Bool):=match SM h (A3y N) P with
 | some (some s)=>if dT s=true then some (AH (A5U s) (Cg 100 s.1 0),true) else none
 | some none=>some ([],false)
 | none=>none
theorem A5X {h:AG} (hk:Hu h) {N:List AB} (j:AO N) (ht:Cj h N) (hs:∀x∈N,Ih x.2) (h0:0<N.length) {P:List (Int×Int)} (i:∀q∈P,(0<=q.1/\q.1<(N.length:Int))/\(0<=q.2/\q.2<(N.length:Int))) :
  (∀a,A5W h N P=some (a,true)->∃p ty ar,JI h N P p ty ar []/\a=AH (quo p ty ar) (D9 p 0))/\(∀a,A5W h N P=some (a,false)->a=[]/\∀X v,Cj h X->¬G7 h N P X v):=by
 obtain⟨f,g⟩:=Z7 hk P [] (A3y N) i (Ux j ht hs);rw[AAl]at f g;unfold A5W;split
 .rename_i s c;have b:=f s c;split
  .rename_i d;refine⟨λa e=>⟨s.1,s.2.1,s.2.2,b,?_⟩,λa e=>(by cases e)⟩;have e:AH (A5U s) (Cg 100 s.1 0)=a:=by simpa using e
   rw[<-e,A5V b d,Z8 b d oa oa]
  exact⟨λa e=>(by cases e),λa e=>(by cases e)⟩
 .rename_i c;refine⟨λa e=>(by cases e),λa e=>⟨?_,g c⟩⟩;have e:[]=a:=by simpa using e
  exact e.symm
 exact⟨λa e=>(by cases e),λa e=>(by cases e)⟩
def A9l (h:AG) (f:List AB) (p q:List Int):Option (List AB×Bool):=A5W h (t7 f p q) (eqP f p q)
theorem A5Y {h:AG} (hu:HU h) (ht:Mb h) {f:List AB} {p q:List Int} (vf:VF h f) (i:pN h p) (j:pN h q) (c:p.length<=1000) (d:q.length<=1000) (hl:f.length<=1000) {r:List AB×Bool} (b:A9l h f p q=some r):SA h f p q=r:=by
 have I:=Uy f p q;have J:=vf.pos;obtain⟨e,z⟩:=r;have K:=CT f (Cc p);have L:=B6 p;have M:=B6 q;have u:=Ef vf.good (Dw c) oa;have t:=Ef u (Dw d) oa;have k:0<h.1.length:=by
  have:=vf.ty _ (AE f (0,[]) vf.pos);omega
 have G:=IZ (IZ vf.ty (J7 k p)) (J7 k q);have F:=GY (GY vf.str (Hw p)) (Hw q);have l:∀g:List AB,(∀x∈g,∀a∈x.2,0<=a.1/\a.1<(h.2.length:Int))->c6 g:=λg w x hx a ha=>by
  have h1:=w x hx a ha;have H:=hu.ft;omega
 have s:=Ia (Ia (vf.ft64 hu) (l _ (Gw i))) (l _ (Gw j));obtain⟨D,E⟩:=A5X hu.ok (N:=t7 f p q) t G F oa (P:=eqP f p q) (λr b=>by
  simp only[At,TO,AAw]at b;rcases b with rfl|rfl|rfl<;>simp only<;>omega)
 cases z with
 | true =>
  obtain⟨Q,ty,ar,o,rfl⟩:=D e b;exact SB hu (pO ht vf i j c d oa o (Qi o oa s))
 | false =>
  obtain⟨rfl,B⟩:=E e b;refine Zn λX m O h1 n y A=>?_;obtain⟨v,C,-⟩:=Uz ht vf c d oa m h1 y A;exact B X v m.ty C
def roB (f:List AB):Bool:=(List.range f.length).all λ(i:Nat)=>i==0||(List.range i).any λj=>(f.getD j (0,[])).2.any λa=>a.2==(i:Int)
def A5Z:List (Int×Int)->Bool
 | a :: b :: l=>decide (a.1<b.1)&&A5Z (b :: l)
 | _=>true
theorem uX:∀ {l:List (Int×Int)},A5Z l=true->Ih l
 | [],_=>.nil
 | [a],_=>AA8 _ _
 | a :: b :: l,h=>by
  simp only[A5Z,An,Is]at h;have e:=uX h.2;refine Sm.2 ⟨λc d=>?_,e⟩;rcases At.1 d with rfl|d
  .exact h.1
  have:=(Sm.1 e).1 c d;omega
def vfB (h:AG) (f:List AB):Bool :=
 decide (0<f.length)&&decide (f.length<=100)&&roB f&&(AH f 0==f)&&f.all λx=>decide (0<=x.1)&&decide (x.1<(h.1.length:Int))&&decide (x.2.length<=100)&&A5Z x.2&&x.2.all λa=>decide (0<=a.1)&&decide (a.1<(h.2.length:Int))&&decide (0<=a.2)&&decide (a.2<(f.length:Int))
theorem X8 {h:AG} {f:List AB} (hb:vfB h f=true):VF h f:=by
 unfold vfB at hb;simp only[An,Is,NO,UQ]at hb;obtain⟨⟨⟨⟨h1,k⟩,c⟩,g⟩,b⟩:=hb;refine⟨⟨by omega,λx hx=>⟨by have:=(b x hx).1.1.2;omega,λa ha=>?_⟩⟩,h1,λx hx=>?_,λx hx=>?_,λx hx a ha=>?_,g,λi l m=>?_⟩
 .have:=(b x hx).2 a ha;exact⟨this.1.2,this.2⟩
 .exact(b x hx).1.1.1
 .exact uX (b x hx).1.2
 .exact((b x hx).2 a ha).1.1
 unfold roB at c;rw[NO]at c;have:=c i.toNat (UJ.2 oa);rw[UO,UQ]at this;rcases this with e|e
 .omega
 obtain⟨j,d,e⟩:=To.1 e;obtain⟨a,ha,e⟩:=To.1 e;have d:=UJ.1 d;refine⟨(j:Int),by omega,by omega,a,by rw[AK,Sc];exact ha,?_⟩;have e:a.2=(i.toNat:Int):=by simpa using e
 omega
def D5:AG:=([(ByteArray.mk #[116,111,112],[8191],[],[]),(ByteArray.mk #[105,110,100,101,120],[60],[0],[]),(ByteArray.mk #[108,105,115,116],[193],[0],[]),(ByteArray.mk #[99,111,110,115],[1],[2],[(2,0),(10,2)]),(ByteArray.mk #[100,108,105,115,116],[2],[0],[(6,2),(7,2)]),(ByteArray.mk #[101,110,116,105,116,121],[4],[1],[]),(ByteArray.mk #[101,118,101,110,116],[8],[1],[]),(ByteArray.mk #[104,97,110,100,108,101],[16],[1],[]),(ByteArray.mk #[110,117,108,108],[128],[2],[]),(ByteArray.mk #[113,101,113],[256],[0],[(3,7),(8,7)]),(ByteArray.mk #[114,101,108],[512],[0],[(5,7)]),(ByteArray.mk #[115,101,109],[1024],[0],[(1,4),(4,1),(9,4),(12,7)]),(ByteArray.mk #[115,105,103,110],[2048],[0],[(0,2),(11,11)])],[(ByteArray.mk #[65,82,71,83],12),(ByteArray.mk #[67,79,78,83],11),(ByteArray.mk #[70,73,82,83,84],3),(ByteArray.mk #[72,73,71,72],9),(ByteArray.mk #[73,78,68,69,88],11),(ByteArray.mk #[76,65,66,69,76],10),(ByteArray.mk #[76,65,83,84],4),(ByteArray.mk #[76,73,83,84],4),(ByteArray.mk #[76,79,87],9),(ByteArray.mk #[82,69,76,83],11),(ByteArray.mk #[82,69,83,84],3),(ByteArray.mk #[83,69,77],12),(ByteArray.mk #[84,79,80],11)])
instance baDec:DecidableEq ByteArray:=λa b =>
 if h:a.data.toList=b.data.toList then isTrue (by
  cases a
  cases b
  exact oN ByteArray.mk (Array.toList_inj.1 h))
 else isFalse λe=>h (by rw[e])
theorem A3z:((VA []).1:List (ByteArray×List Int×List Int×List (Int×Int)))=D5.1:=by decide +kernel
theorem A3A:((VA []).2:List (ByteArray×Int))=D5.2:=by decide +kernel
theorem A60:VA []=D5:=Prod.ext A3z A3A
theorem A3B:HR []=D5:=by
 rw[<-A60];unfold HR VA;simp
theorem A9m (d:List AJ):H11 (HR d):=by
 unfold HR;split
 .exact Tr _
 exact Tr _
theorem VG:H11 D5:=by rw[<-A3B];exact A9m []
theorem lD:Mb D5:=VG.top
theorem A9O:HK D5 (AM D5).null [[(5,[])],[(6,[])]]=([(3,[(2,1),(10,2)]),(5,[]),(3,[(2,3),(10,4)]),(6,[]),(8,[])],0):=by decide +kernel
theorem A9P:Gc D5 []=([(4,[(6,1),(7,1)]),(2,[])],0):=by decide +kernel
theorem A9Q:Gc D5 [[(5,[])]]=([(4,[(6,1),(7,2)]),(2,[]),(3,[(2,3),(10,1)]),(5,[])],0):=by decide +kernel
theorem A9R:Dx D5 [(3,[(2,1),(10,2)]),(5,[]),(3,[(2,3),(10,4)]),(6,[]),(8,[])] 0=([1,3],true,0):=by decide +kernel
theorem A9S:Dx D5 [(3,[(2,1),(10,0)]),(5,[])] 0=([],false,6):=by decide +kernel
def xD:List AB:=[(4,[(6,1),(7,2)]),(2,[]),(3,[(2,3),(10,1)]),(5,[])]
def xU:List AB:=[(0,[(2,1),(10,7)]),(4,[(6,2),(7,5)]),(3,[(2,3),(10,4)]),(5,[]),(2,[]),(3,[(2,6),(10,2)]),(5,[]),(4,[(6,4),(7,2)])]
def xK:List AB:=[(4,[(6,1),(7,2)]),(2,[]),(3,[(2,3),(10,4)]),(5,[]),(3,[(2,5),(10,1)]),(5,[])]
theorem A80:VF D5 xD:=X8 (by decide +kernel)
theorem A9T:VF D5 xK:=X8 (by decide +kernel)
theorem xlw:AM D5=⟨2,3,8,4,2,10,7,6⟩:=by
 have e1:(AM D5).list=2:=by decide +kernel
 have e2:(AM D5).cons=3:=by decide +kernel
 have a:(AM D5).null=8:=by decide +kernel
 have b:(AM D5).dlist=4:=by decide +kernel
 have c:(AM D5).first=2:=by decide +kernel
 have d:(AM D5).rest=10:=by decide +kernel
 have e:(AM D5).head=7:=by decide +kernel
 have f:(AM D5).last=6:=by decide +kernel
 generalize AM D5=w at *;obtain⟨g,h,i,j,k,l,m,n⟩:=w;simp only at e1 e2 a b c d e f;rw[e1,e2,a,b,c,d,e,f]
theorem A9U:A9l D5 (Au 0 2 10 xD xD) [2,6] [10,7]=some (xU,true):=by decide +kernel
theorem xu:LS D5 xD xD=(xU,true):=by
 unfold LS;rw[xlw];have hf:D5.2.length=13:=by decide +kernel
 have h0:0<D5.1.length:=by decide +kernel
 refine A5Y VG.hu lD (Mk ⟨Sh 0,IN.2 h0⟩ dc (by rw[hf];decide) (by rw[hf];decide) A80 A80 dc) (λe a=>?_) (λe a=>?_) dc dc dc A9U
 .rw[hf];simp only[At,TO,AAw]at a;rcases a with rfl|rfl<;>decide
 rw[hf];simp only[At,TO,AAw]at a;rcases a with rfl|rfl<;>decide
theorem A9V:Cs D5 xD xD=(xK,0):=by
 unfold Cs;rw[xu];have e1:FH D5=true:=by decide +kernel
 have e2:(Ap D5 xD 0).2=0:=by decide +kernel
 have a:AH (GD (AM D5) xU) (xU.length:Int)=xK:=by decide +kernel
 rw[DO e1,BY (λq=>q e2),BY (λq=>q e2),BY dc];simp only[a];rfl
theorem A9W:NM D5 xK=([[(5,[])],[(5,[])]],0):=by decide +kernel
section
attribute [local go_sem] Rq Kz
def dU:Ab:={ ins:=[Ey,D7],pre:=λ_=>True,out:=λ(h,f,_)=>[.p .bool (Jb h f)],lend:=true }
theorem A3C:Ag Tryz.prog 36 dU:=by
 refine fK [0,1,2,3,4] Tryz.func36 Tryz.ntmps36 (AF A2e (AF yX AI)) ?_;rintro w0 O0 ⟨⟨ht,hf⟩,f,u⟩ a - -;simp only[dU,AN];repeat'(first|exact trivial|apply eS rfl|apply AC|refine rX a ?_ ?_|refine rC ?_ ?_<;>intro b<;>try(cases b;done))
 .intro h;obtain⟨h1,c⟩:=MR h;exact⟨SX h1 dc,λx hx=>SX (c x hx) dc⟩
 exact fI a [.tmp 4] (by unfold Jb;exact eR)
end
section
attribute [local go_sem] Z5 i6 Xw SL Qv uV Mj Kq A3h dU
def dV:Ab:={ ins:=[G0,G0],pre:=λ_=>True,out:=λ(a,b,_)=>[.p .bool (decide ((a:List Int)=b))],lend:=true }
attribute [local go_sem] dV
theorem A3D:Ag Tryz.prog 42 dV:=by
 refine fK [0,1,4,5,10,14,25] Tryz.func42 Tryz.ntmps42 AI ?_;rintro w0 O0 ⟨a,b,u⟩ d ⟨⟨j,-⟩,-⟩ -;simp only[AP]at j;simp only[dV,AN];repeat'(first|exact trivial|apply eS rfl|apply AC|refine rX d ?_ ?_|refine rC ?_ ?_<;>intro c<;>try(cases c;done))
 .have h:(a:List Int)≠b:=λe=>c (by rw[e]);exact fI d [.tmp 4] (by rw[ABh h];exact eR)
 have i:List.length a=List.length b:=by
  have:=c;simp only[bne_eq_false_iff_eq]at this;omega
 refine AL (ι:={k:Nat//k<=List.length a/\(a:List Int).take k=(b:List Int).take k}) (λk=>⟨[(0,.p G0 a),(1,.p G0 b),(5,.p (.int .i64) (k.1:Int))],[]⟩) (λk=>List.length a-k.1) ⟨0,ON _,rfl⟩ (AD [] rfl rfl ?_ ?_) (λk=>?_)
 .first|exact eN|refine eM ?_
 .first|exact eN|refine eM ?_
 obtain⟨k,hk,g⟩:=k;repeat'(first|exact trivial|apply eS rfl|apply AC|refine rX d ?_ ?_|refine rC ?_ ?_<;>intro c<;>try(cases c;done))
 .exact⟨by assumption,by rw[<-i];assumption⟩
 .have f:k<List.length a:=by exact eV
  have h:(a:List Int)≠b:=λe=>c (by rw[e]);exact fI d [.tmp 4] (by rw[ABh h];exact eR)
 .exact eV
 .have f:k<List.length a:=by exact eV
  refine⟨⟨k+1,f,?_⟩,by simp only;omega,AD [] rfl rfl ?_ ?_⟩
  .have e:List.getD a k 0=List.getD b k 0:=by simpa using c
   rw[Aw (a:List Int) 0 f,Aw (b:List Int) 0 oa,g,e]
  .first|exact eN|refine eM ?_
  first|exact eN|refine eM ?_
 have f:k=List.length a:=by exact eV
 rw[f,SW,i,SW]at g;exact fI d [.tmp 4] (by rw[AB0 g];exact eR)
def Z9:Ab:={ ins:=[],pre:=λ_=>True,out:=λ_=>[.p .bool true] }
attribute [local go_sem] Z9
theorem A61:Ag Tryz.prog 37 Z9:=by
 refine fKP [0,1,2,3,4,5,6,7,8,9,10,11,12,13,16,17,18,19,20,21,22] [28,33,37,41,44,48,51,57,83,125,148] [] Tryz.func37 Tryz.ntmps37 (AF uU (AF A57 (AF A3l (AF kX (AF qA (AF uW (AF qC (AF QU (AF A3D (AF A7V AI)))))))))) ?_;rintro w0 O0 u c - -;simp only[Z9,AN];have k:((HR []).1,(HR []).2)=D5:=A3B;have e:=A80;have a:=A9T;have b:VF D5 [(3,[(2,1),(10,2)]),(5,[]),(3,[(2,3),(10,4)]),(6,[]),(8,[])]:=X8 (by decide +kernel);have g:VF D5 [(3,[(2,1),(10,0)]),(5,[])]:=X8 (by decide +kernel);have f:VF D5 [(4,[(6,1),(7,1)]),(2,[])]:=X8 (by decide +kernel);have j:(AM D5).first<(AM D5).rest:=by rw[xlw];decide
 have hl:∀n:Int,AO [(n,[])]/\Et [(n,[])]:=λn=>⟨⟨by simp,by simp⟩,by simp[Et,SS]⟩;have i:xD=[(4,[(6,1),(7,2)]),(2,[]),(3,[(2,3),(10,1)]),(5,[])]:=rfl;have t:xK=[(4,[(6,1),(7,2)]),(2,[]),(3,[(2,3),(10,4)]),(5,[]),(3,[(2,5),(10,1)]),(5,[])]:=rfl;have m:=A9O;have o:=A9P;have d:=A9Q;have p:=A9R;have q:=A9S;have r:=A9V;have s:=A9W;rw[<-i]at d;repeat'(first|exact trivial|apply eS rfl|apply AC|refine rX c ?_ ?_|refine rC ?_ ?_<;>intro h<;>try(cases h;done))
 all_goals try simp only[k,m,o,d,p,q,r,s]
 .intro x hx;simp only[At,TO,AAw]at hx;rcases hx with rfl|rfl
  .exact hl 5
  exact hl 6
 .intro x hx;cases hx
 .exact⟨b.good,b.ty,by decide⟩
 .exact⟨g.good,g.ty,by decide⟩
 .intro x hx;rw[SQ.1 hx];exact hl 5
 .exact⟨⟨VG.hu,lD,λ_=>j⟩,e,e,by decide⟩
 .exact⟨a.good,a.srt VG.hu,a.ty,a.pos⟩
 .have hs:∀x∈([[((5:Int),[])],[((5:Int),[])]]:List (List AB)),E1 x:=λx hx=>by
   simp only[At,TO,AAw,or_self]at hx;rw[hx];exact Xn (hl 5).1
  exact⟨λ_=>⟨b.small,b.small⟩,λ_=>⟨f.small,f.small⟩,λ_=>⟨hs,hs⟩⟩
 have l:UH [[((5:Int),[])],[((5:Int),[])]] [[((5:Int),[])],[((5:Int),[])]]=true:=by decide +kernel
 simp only[JY,l];exact fI c [.tmp 0]
def Ie (h:AG) (l:List (List AB)):Bool:=decide (l.length<=5)&&l.all (Jb h)
def Ml:Ab:={ ins:=[Ey,Um],pre:=λ_=>True,out:=λ(h,l,_)=>[.p .bool (Ie h l)],lend:=true }
attribute [local go_sem] Ml
theorem qK:Ag Tryz.prog 46 Ml:=by
 refine fK [0,1,2,4,5,8,12,21] Tryz.func46 Tryz.ntmps46 (AF A3C AI) ?_;rintro w0 O0 ⟨h,l,u⟩ c - -;simp only[Ml,AN];have e:(h.1,h.2)=h:=rfl;repeat'(first|exact trivial|apply eS rfl|apply AC|refine rX c ?_ ?_|refine rC ?_ ?_<;>intro a<;>try(cases a;done))
 .have d:Ie h l=false:=by
   unfold Ie;rw[ABh (by have g:(5:Int)<(List.length l:Int):=a;omega)];rfl
  exact fI c [.tmp 4] (by rw[d];exact eR)
 have f:(List.length l:Int)<=5:=a;have d:Ie h l=List.all (l:List (List AB)) (Jb h):=by
  unfold Ie;rw[AB0 oa,ABK]
 rw[d];refine AL (ι:={k:Nat//k<=List.length l/\List.all (List.take k (l:List (List AB))) (Jb h)=true}) (λk=>⟨[(1,.p Um l),(2,.bp 2 [] 0),(5,.p (.int .i64) (k.1:Int))],[(2,.box 31 true [.p wX h.1,.p T29 h.2])]⟩) (λk=>List.length l-k.1) ⟨0,ON _,rfl⟩ (AD [(2,.nm 2)] rfl rfl ?_ ?_) (λk=>?_)
 .first|exact eN|refine eM ?_
 .first|exact eN|refine eM ?_
 obtain⟨k,hk,ha⟩:=k;simp only;repeat'(first|exact trivial|apply eS rfl|apply AC|refine rX c ?_ ?_|refine rC ?_ ?_<;>intro a<;>try(cases a;done))
 all_goals try simp only[e]at *
 .exact a
 .have b:k<List.length l:=IN.1 (by assumption);have hf:List.all (l:List (List AB)) (Jb h)=false:=by
   rw[AB6];refine⟨_,AE (l:List (List AB)) [] b,?_⟩;rw[show Jb h (List.getD l k [])=false from a];simp
  exact fI c [.tmp 4] (by rw[hf];exact eR)
 .omega
 .have b:k<List.length l:=IN.1 (by assumption);refine⟨⟨k+1,b,by rw[Aw (l:List (List AB)) [] b,AB7,ha,AAz,a];rfl⟩,by simp only;omega,AD [(2,.nm 2)] rfl rfl ?_ ?_⟩
  .first|exact eN|refine eM ?_
  first|exact eN|refine eM ?_
 have b:List.take k (l:List (List AB))=l:=By (SY.1 a);rw[b]at ha;exact fI c [.tmp 4] (by rw[ha];exact eR)
end
section
attribute [local go_sem] Z5 Ml Z9 Xw SL Kq
theorem aA:∀ {l:List (List AB)} {m:Int},(∀x∈l,x.length<=100)->m+101*(l.length:Int)<=4096->Fe l m=true
 | [],_,_,_=>rfl
 | x :: l,m,hl,h=>by
  have hx:=hl x sc;rw[IF]at h;unfold Fe;rw[BY oa];exact aA (λy hy=>hl y (GO _ hy)) oa
theorem aB {h:AG} (hh:H11 h) {l:List (List AB)} (e:Ie h l=true):l.length<=5/\∀x∈l,VF h x/\x.length<=12:=by
 unfold Ie at e;rw[An,Is,NO]at e;exact⟨e.1,λx hx=>A35 hh.b1 hh.hu.ft (e.2 x hx)⟩
theorem lE {h:AG} (hu:HU h) {x:List AB} (v:VF h x):Et x:=λy hy=>⟨(v.srt hu y hy).2,.inr (v.srt hu y hy).1⟩
end
def dW (h:AG) (w:LW) (F:List AB):List (List AB)->Int->List Int->Int->Prop
 | [],n,ns,z=>ns=[]/\n=z
 | x :: l,n,ns,z=>∃a,ns=n :: a/\BL h w (BE F n)=2/\AH F (Av (BE F n).2 w.first)=x/\dW h w F l (Av (BE F n).2 w.rest) a z
theorem uY {ψ:Int->Int} {e:Int}:∀ {l:List (Int×Int)},(∀a∈l,0<=a.2/\0<=ψ a.2)->(0<=Av l e->Av (l.map λa=>(a.1,ψ a.2)) e=ψ (Av l e))/\(Av (l.map λa=>(a.1,ψ a.2)) e<0↔Av l e<0)
 | [],_=>⟨λh=>absurd h (by unfold Av;decide),Iff.rfl⟩
 | a :: l,h=>by
  have b:=uY (e:=e) (l:=l) λx hx=>h x (GO _ hx);have ha:=h a gO;rw[Sj];unfold Av;simp only;split
  .exact⟨λ_=>rfl,by omega⟩
  exact b
section
variable {h:AG} {w:LW} {Q R:List AB} {ψ:Int->Int} {C:Int->Prop} (hi:o9 Q R ψ C) (gQ:AO Q) (h0:∀i,C i->0<=ψ i) (hty:∀i,C i->(BE R (ψ i)).1=(BE Q i).1)
include hi gQ h0
omit hty in
theorem VH {n:Int} (hn:C n) (e:Int):(0<=Av (BE Q n).2 e->Av (BE R (ψ n)).2 e=ψ (Av (BE Q n).2 e)/\C (Av (BE Q n).2 e))/\(Av (BE R (ψ n)).2 e<0↔Av (BE Q n).2 e<0):=by
 have ha:(BE R (ψ n)).2=(BE Q n).2.map λa=>(a.1,ψ a.2):=hi.arc n hn
 have ht:=uY (ψ:=ψ) (e:=e) (l:=(BE Q n).2) λa ha=>⟨(Af gQ ha).1,h0 _ (hi.cl n hn a ha)⟩
 rw[ha]
 refine⟨λq=>⟨ht.1 q,?_⟩,ht.2⟩
 obtain⟨a,ha,-,e2⟩:=FE q
 rw[<-e2]
 exact hi.cl n hn a ha
include hty
theorem X9 {n:Int} (hn:C n):BL h w (BE R (ψ n))=BL h w (BE Q n):=by
 have s1:=(VH hi gQ h0 hn w.first).2;have s2:=(VH hi gQ h0 hn w.rest).2;have c:∀a b:Int,(a<0↔b<0)->decide (a<0)=decide (b<0)/\decide (0<=a)=decide (0<=b):=λa b q=>⟨ABE.2 q,ABE.2 oa⟩;unfold BL YY Nx Tk Nv Nw;rw[hty n hn,(c _ _ s1).1,(c _ _ s1).2,(c _ _ s2).1,(c _ _ s2).2]
theorem dX (b:∀i,C i->AH R (ψ i)=AH Q i):∀(l:List (List AB)) (n:Int) (ns:List Int) (z:Int),C n->dW h w Q l n ns z->dW h w R l (ψ n) (ns.map ψ) (ψ z)/\C z/\∀m∈ns,C m
 | [],n,ns,z,hn,⟨e1,e2⟩=>by
  subst e1 e2;exact⟨⟨rfl,rfl⟩,hn,λm a=>by cases a⟩
 | x :: l,n,ns,z,hn,⟨c,e1,e2,f,g⟩=>by
  subst e1;have hk:=NH e2;have d:=(VH hi gQ h0 hn w.first).1 hk.1;have e:=(VH hi gQ h0 hn w.rest).1 hk.2;obtain⟨j,k,o⟩:=dX b l _ c z e.2 g;refine⟨⟨c.map ψ,rfl,by rw[X9 hi gQ h0 hty hn,e2],by rw[d.1,b _ d.2];exact f,by rw[e.1];exact j⟩,k,λm a=>?_⟩;rcases At.1 a with rfl|a
  .exact hn
  exact o m a
end
theorem lF {h:AG} {w:LW} {F:List AB}:∀(l:List (List AB)) (n:Int) (ns:List Int) (z:Int),dW h w F l n ns z->LO F (ns.map λm=>Av (BE F m).2 w.first)=l/\ns.length=l.length
 | [],n,ns,z,⟨e1,_⟩=>by
  subst e1;exact⟨rfl,rfl⟩
 | x :: l,n,ns,z,⟨a,e1,_,b,c⟩=>by
  subst e1;obtain⟨d,e⟩:=lF l _ a z c;refine⟨?_,by rw[IF,IF,e]⟩;show AH F _ :: LO F (a.map _)=x :: l;rw[d,b]
theorem lG {h:AG} {w:LW} {F:List AB}:∀(l:List (List AB)) (n:Int) (ns:List Int) (z:Int) (k:Nat) (a out:List Int),dW h w F l n ns z->(ns++[z]).Nodup->(∀m∈ns++[z],m∉a)->l.length<k->BL h w (BE F z)=3 ->
  Eh h w F z k a out n=(out++ns.map (λm=>Av (BE F m).2 w.first),0)
 | _,_,_,_,0,_,_,_,_,_,hk,_=>absurd hk (Nat.not_lt_zero _)
 | [],n,ns,z,k+1,a,out,⟨e1,e2⟩,hd,c,hk,d=>by
  subst e1 e2;unfold Eh Ya;rw[DO rfl,DO d];simp
 | x :: l,n,ns,z,k+1,a,out,⟨i,e1,e2,j,e⟩,hd,c,hk,d=>by
  subst e1;rw[AAo,UN]at hd;have hn:=c n sc;rw[IF]at hk;have f:n≠z:=λq=>hd.1 (by rw[q];simp);have g:=lG l _ i z k (a++[n]) (out++[Av (BE F n).2 w.first]) e hd.2 (λm b q=>by
   rcases Do.1 q with q|q
   .exact c m (GO _ b) q
   rw[SQ.1 q]at b;exact hd.1 b) oa d
  unfold Eh Ya;rw[BY f,BY hn,DO e2];refine g.trans ?_;rw[SZ];rfl
theorem aC {h:AG} {w:LW} {x b:List AB} (e:w.first<w.rest):BL h w (BE (Au w.cons w.first w.rest x b) 0)=2/\Av (BE (Au w.cons w.first w.rest x b) 0).2 w.first=1/\Av (BE (Au w.cons w.first w.rest x b) 0).2 w.rest=((1+x.length:Nat):Int):=by
 have d:BE (Au w.cons w.first w.rest x b) 0=(w.cons,[(w.first,1),(w.rest,1+(x.length:Int))]):=rfl;have a:Av [(w.first,(1:Int)),(w.rest,1+(x.length:Int))] w.first=1:=by simp[Av]
 have c:Av [(w.first,(1:Int)),(w.rest,1+(x.length:Int))] w.rest=1+(x.length:Int):=by
  have:w.first≠w.rest:=by omega
  simp[Av,this]
 rw[d];refine⟨?_,a,by rw[c];omega⟩;unfold BL YY Nx Nv Nw;simp only;rw[a,c,BY sc,DO];rw[An,An];exact⟨CF h _,by decide,AB0 oa⟩
theorem qL {h:AG} {w:LW} {t:Int} (cw:CW h w.cons w.first w.rest) (ht:0<=t/\t<(h.1.length:Int)):∀ {l:List (List AB)},(∀x∈l,VF h x/\x.length<=100)->l.length<=40 ->
  ∃ns,dW h w (Q5 w.cons w.first w.rest t l) l 0 ns ((Q5 w.cons w.first w.rest t l).length-1:Nat)/\BE (Q5 w.cons w.first w.rest t l) ((Q5 w.cons w.first w.rest t l).length-1:Nat)=(t,[]) /\
   (ns++[(((Q5 w.cons w.first w.rest t l).length-1:Nat):Int)]).Nodup/\∀m∈ns++[(((Q5 w.cons w.first w.rest t l).length-1:Nat):Int)],0<=m/\m<((Q5 w.cons w.first w.rest t l).length:Int)
 | [],_,_=>⟨[],⟨rfl,rfl⟩,rfl,by simp,λm a=>by
  rw[SQ.1 a];simp[Q5]⟩
 | x :: l,hx,hl=>by
  rw[IF]at hl;have k:∀y∈l,VF h y/\y.length<=100:=λy hy=>hx y (GO _ hy);obtain⟨ns,c1,c2,o,g⟩:=qL cw ht k oa;obtain⟨v1,A⟩:=qG cw ht k oa;obtain⟨f,C⟩:=hx x gO;show ∃ns,dW h w (Au w.cons w.first w.rest x (Q5 w.cons w.first w.rest t l)) (x :: l) 0 ns ((Au w.cons w.first w.rest x (Q5 w.cons w.first w.rest t l)).length-1:Nat)/\BE (Au w.cons w.first w.rest x (Q5 w.cons w.first w.rest t l)) ((Au w.cons w.first w.rest x (Q5 w.cons w.first w.rest t l)).length-1:Nat)=(t,[])/\(ns++[(((Au w.cons w.first w.rest x (Q5 w.cons w.first w.rest t l)).length-1:Nat):Int)]).Nodup/\∀m∈ns++[(((Au w.cons w.first w.rest x (Q5 w.cons w.first w.rest t l)).length-1:Nat):Int)],0<=m/\m<((Au w.cons w.first w.rest x (Q5 w.cons w.first w.rest t l)).length:Int);rw[Be];generalize Q5 w.cons w.first w.rest t l=B at *;have bp:=v1.pos;have d:((1+x.length+B.length-1:Nat):Int)=((1+x.length:Nat):Int)+((B.length-1:Nat):Int):=by omega
  obtain⟨s,u,v⟩:=aC (h:=h) (w:=w) (x:=x) (b:=B) cw.lt;have j:=dX (h:=h) (w:=w) (Z4 (c:=w.cons) (e1:=w.first) (e2:=w.rest) x v1.good) v1.good (λi hi=>by omega) (λi hi=>k6 x hi) (λi hi=>qE x v1.good hi) l 0 ns _ ⟨Sh _,by omega⟩ c1;rw[AAc]at j;refine⟨0 :: ns.map λi=>((1+x.length:Nat):Int)+i,⟨_,rfl,s,?_,?_⟩,?_,?_,?_⟩
  .rw[u];have:=zE (c:=w.cons) (e1:=w.first) (e2:=w.rest) f B (n:=0) (Sh _) (by have:=f.pos;omega);rw[AAc,f.can]at this;exact this
  .rw[v,d];exact j.1
  .rw[d];unfold BE;rw[Dz w.cons w.first w.rest x oa oa];have c2:B.getD (((B.length-1:Nat):Int)).toNat (0,[])=(t,[]):=c2;rw[c2];rfl
  .rw[d,AAo,UN];have e:(ns.map λi=>((1+x.length:Nat):Int)+i)++[((1+x.length:Nat):Int)+((B.length-1:Nat):Int)]=(ns++[((B.length-1:Nat):Int)]).map λi=>((1+x.length:Nat):Int)+i:=by
    rw[UK];rfl
   rw[e];refine⟨λa=>?_,?_⟩
   .obtain⟨m,a,e⟩:=Y1.1 a;have:=g m a;have e:((1+x.length:Nat):Int)+m=0:=e;omega
   unfold List.Nodup;rw[iF];exact o.imp λp q=>p oa
  intro m a;rw[d]at a;rcases At.1 a with rfl|a
  .omega
  have e:(ns.map λi=>((1+x.length:Nat):Int)+i)++[((1+x.length:Nat):Int)+((B.length-1:Nat):Int)]=(ns++[((B.length-1:Nat):Int)]).map λi=>((1+x.length:Nat):Int)+i:=by
   rw[UK];rfl
  have a:m∈(ns.map λi=>((1+x.length:Nat):Int)+i)++[((1+x.length:Nat):Int)+((B.length-1:Nat):Int)]:=a;rw[e]at a;obtain⟨z,r,rfl⟩:=Y1.1 a;have:=g z r;omega
abbrev Jd (h:AG) (t:Int) (l:List (List AB)):List AB:=Q5 (AM h).cons (AM h).first (AM h).rest t l
theorem Q0.cw {h:AG} (lo:Q0 h):CW h (AM h).cons (AM h).first (AM h).rest:=by
 have a:=Gx lo.lw;have b:=lo.rng;exact⟨⟨a.2.1,b.1.2.1⟩,lo.first_rest,⟨a.1.1,b.2.1⟩,⟨a.1.2,b.2.2.1⟩⟩
theorem Q0.nul {h:AG} (lo:Q0 h):0<=(AM h).null/\(AM h).null<(h.1.length:Int):=⟨(Gx lo.lw).2.2.1,lo.rng.1.2.2.1⟩
theorem Q0.lis {h:AG} (lo:Q0 h):0<=(AM h).list/\(AM h).list<(h.1.length:Int):=⟨(Gx lo.lw).2.2.2.1,lo.rng.1.1⟩
theorem Q0.dli {h:AG} (lo:Q0 h):0<=(AM h).dlist/\(AM h).dlist<(h.1.length:Int):=⟨(Gx lo.lw).2.2.2.2.1,lo.rng.1.2.2.2⟩
theorem Ei {h:AG} (lo:Q0 h) {t:Int} (ht:0<=t/\t<(h.1.length:Int)) {l:List (List AB)} (hx:∀x∈l,VF h x/\x.length<=100) (hl:l.length<=40):VF h (Jd h t l)/\(Jd h t l).length<=101*l.length+1:=qG lo.cw ht hx hl
theorem A3E (h:AG) (t:Int) (l:List (List AB)):Dd (AM h).cons (AM h).first (AM h).rest t l=Jd h t l:=Xz _ _ _ _ l
theorem A3F {h:AG} (lo:Q0 h) (hu:HU h):BL h (AM h) ((AM h).null,[])=1/\BL h (AM h) ((AM h).list,[])=3:=by
 have c:A3 h (AM h).null (AM h).list=false:=by
  cases hb:A3 h (AM h).null (AM h).list with
  | false=>rfl
  | true=>exact absurd (hu.inj _ _ lo.lis.1 lo.lis.2 lo.nul.1 lo.nul.2 lo.sub.2 hb) lo.ne
 have a:Nv (AM h) []=true:=by
  unfold Nv Av;rfl
 have b:Nw (AM h) []=false:=by
  unfold Nw Av;rfl
 unfold BL YY Nx Tk;simp only[a,b,c,CF,lo.sub.1,AC5,Bool.and_false,AA0,AAp,AAd,true_and]
section
variable {h:AG} (lo:Q0 h) (hu:HU h) {l:List (List AB)} (hx:∀x∈l,VF h x/\x.length<=100) (hl:l.length<=30)
include lo hu hx hl
def Je (w:LW) (B:List AB):List AB:=(w.dlist,[(w.last,(B.length:Int)),(w.head,1)]) :: B.map λx=>(x.1,AR 1 x.2)
omit lo hu hx hl
theorem Hl (w:LW) (B:List AB):(Je w B).length=B.length+1:=by simp[Je]
theorem YA (w:LW) {B:List AB} {i:Int} (a:0<=i) (b:i<(B.length:Int)):(Je w B).getD ((1:Int)+i).toNat (0,[])=((B.getD i.toNat (0,[])).1,AR 1 (B.getD i.toNat (0,[])).2):=by
 unfold Je;rw[show ((1:Int)+i).toNat=i.toNat+1 by omega,List.getD_cons_succ,AS,nO,AT oa,AS,AT oa];rfl
theorem VI {w:LW} {B:List AB} {x:AB} (hx:x∈Je w B):x=(w.dlist,[(w.last,(B.length:Int)),(w.head,1)])\/∃y∈B,x=(y.1,AR 1 y.2):=by
 rcases At.1 hx with e|q
 .exact .inl e
 obtain⟨y,hy,rfl⟩:=Y1.1 q;exact .inr ⟨y,hy,rfl⟩
theorem SP (lo:Q0 h) {B:List AB} (d:VF h B) (j:B.length<=10000):PF h (Je (AM h) B):=by
 have bp:=d.pos;have hl:=Hl (AM h) B;refine⟨⟨by omega,λx hx=>?_⟩,by omega,λx hx=>?_,λx hx=>?_,λx hx a ha=>?_⟩
 .rw[hl];rcases VI hx with rfl|⟨y,hy,rfl⟩
  .refine⟨by show 2<=100000;omega,λa ha=>?_⟩;simp only[At,TO,AAw]at ha;rcases ha with rfl|rfl
   .try simp only
    omega
   try simp only
   omega
  have g:=d.good.2 y hy;refine⟨by show (AR 1 y.2).length<=_;unfold AR;rw[OF];exact g.1,λa ha=>?_⟩;obtain⟨b,hb,rfl⟩:=A6.1 ha;have:=g.2 b hb;try simp only
  omega
 .rcases VI hx with rfl|⟨y,hy,rfl⟩
  .exact lo.dli
  exact d.ty y hy
 .rcases VI hx with rfl|⟨y,hy,rfl⟩
  .exact Sm.2 ⟨λc i=>by rw[SQ.1 i];exact lo.last_head,AA8 _ _⟩
  exact B4 (d.str y hy)
 have e:=Gx lo.lw;have f:=lo.rng;rcases VI hx with rfl|⟨y,hy,rfl⟩
 .simp only[At,TO,AAw]at ha;rcases ha with rfl|rfl
  .exact⟨e.2.2.2.2.2.2,f.2.2.2.2⟩
  exact⟨e.2.2.2.2.2.1,f.2.2.2.1⟩
 obtain⟨b,hb,rfl⟩:=A6.1 ha;exact d.ft y hy b hb
theorem uZ (w:LW) {B:List AB} (a:AO B):o9 B (Je w B) (λi=>1+i) λi=>0<=i/\i<(B.length:Int) :=
 ⟨λi hi=>by
  rw[AK,YA w hi.1 hi.2];refine Of λx _=>?_;show (x.1,x.2+((1:Nat):Int))=(x.1,1+x.2);rw[AB9];rfl,λi hi x hx=>Af a hx,λi j hi b e=>by have e:(1:Int)+i=1+j:=e;omega⟩
abbrev NY (h:AG) (l:List (List AB)):List AB:=AH (Je (AM h) (Jd h (AM h).list l)) 0
include lo hu hx hl
omit hu in
theorem YB:VF h (NY h l)/\PF h (Je (AM h) (Jd h (AM h).list l)):=by
 have v:=Ei lo lo.lis hx oa
 have pf:=SP lo v.1 oa
 exact⟨HJ pf (Sh _) (by rw[Hl];omega),pf⟩
theorem A62:Gc h l=(NY h l,0):=by
 have v:=Ei lo lo.lis hx oa;have pf:=SP lo v.1 oa;have p:=Hl (AM h) (Jd h (AM h).list l);unfold Gc;rw[DO lo.lw,aA (λx q=>(hx x q).2) oa,DO rfl,A3E];have bp:=v.1.pos;have n:=v.2;have hd:(NY h l)=AH (Je (AM h) (Jd h (AM h).list l)) 0:=rfl;rw[hd];have b:IX (Jd h (AM h).list l):=v.1.srt hu;generalize Jd h (AM h).list l=B at *;have hT:E2 (AM h).dlist (AM h).head (AM h).last B=((AM h).dlist,[((AM h).head,1),((AM h).last,(B.length:Int))]) :: B.map λx=>(x.1,AR 1 x.2):=by
  unfold E2;rw[Hj,show (1:Int)+((B.length:Int)-1)=(B.length:Int) by omega];rfl
 have j:=lo.last_head;have d:AO (E2 (AM h).dlist (AM h).head (AM h).last B):=by
  rw[hT];refine⟨by rw[IF,OF];omega,λx hx=>?_⟩;rcases At.1 hx with rfl|hx
  .have:=pf.good.2 ((AM h).dlist,[((AM h).last,(B.length:Int)),((AM h).head,1)]) gO;refine⟨this.1,λa ha=>this.2 a ?_⟩;simp only[At,TO,AAw]at ha ⊢;exact ha.symm
  exact pf.good.2 x (GO _ hx)
 have k:DS (E2 (AM h).dlist (AM h).head (AM h).last B)=Je (AM h) B:=by
  rw[hT];unfold DS Je;rw[Sj];refine congr (oN List.cons ?_) ?_
  .have:AZ [((AM h).head,(1:Int)),((AM h).last,(B.length:Int))]=[((AM h).last,(B.length:Int)),((AM h).head,1)]:=by
    simp[AZ,NT,Hf,j]
   simp only[this]
  rw[bY];refine Of λx hx=>?_;show (x.1,AZ (AR 1 x.2))=_;rw[Fa];exact(FD _).2 (B4 ((FD _).1 (b x hx).1))
 have nd:NdF (E2 (AM h).dlist (AM h).head (AM h).last B):=by
  rw[hT];intro x hx;rcases At.1 hx with rfl|hx
  .exact⟨Sm.2 ⟨λc g=>by rw[SQ.1 g];simp only;omega,AA8 _ _⟩,by show 2<=200;omega,.inl (by show 2<=12;omega)⟩
  obtain⟨y,hy,rfl⟩:=Y1.1 hx;exact⟨(B4 ((FD _).1 (b y hy).1)).imp λq e=>by omega,SS.shift ⟨(b y hy).2,.inr (b y hy).1⟩ 1⟩
 have m:CE (E2 (AM h).dlist (AM h).head (AM h).last B)=0:=by
  have o:(E2 (AM h).dlist (AM h).head (AM h).last B).length=B.length+1:=by rw[hT,IF,OF]
  unfold CE;rw[BY oa,BY oa];refine kJ λx hx=>?_;have i:=d.2 x hx;have hn:=(nd x hx).1;have f:(0<=x.1)/\∀a∈x.2,0<=a.1:=by
   rw[hT]at hx;rcases At.1 hx with rfl|hx
   .refine⟨lo.dli.1,λa ha=>?_⟩;have:=pf.ft ((AM h).dlist,[((AM h).last,(B.length:Int)),((AM h).head,1)]) gO a (by simp only[At,TO,AAw]at ha ⊢;exact ha.symm);exact this.1
   exact⟨(pf.ty x (GO _ hx)).1,λa ha=>(pf.ft x (GO _ hx) a ha).1⟩
  exact⟨f.1,A37 (by rw[List.Nodup,iF];exact hn) λa ha=>⟨f.2 a ha,i.2 a ha⟩⟩
 unfold BA;rw[DO m,Td d nd (Sh _) (by rw[hT,IF];omega),k]
theorem A3G:∃ns hd z,Av (BE (NY h l) 0).2 (AM h).head=hd/\Av (BE (NY h l) 0).2 (AM h).last=z/\0<=hd/\0<=z/\dW h (AM h) (NY h l) l hd ns z/\BL h (AM h) (BE (NY h l) z)=3/\(ns++[z]).Nodup/\ns.length<(NY h l).length:=by
 obtain⟨ns,c1,c2,G,N⟩:=qL (w:=AM h) lo.cw lo.lis hx oa;have v:=Ei lo lo.lis hx oa;have pf:=SP lo v.1 oa;have af:=Hl (AM h) (Jd h (AM h).list l);have V:=(A3F lo hu).2;have bp:=v.1.pos;have hd:(NY h l)=AH (Je (AM h) (Jd h (AM h).list l)) 0:=rfl;rw[hd];generalize P:Jd h (AM h).list l=B at *;have Q:Q5 (AM h).cons (AM h).first (AM h).rest (AM h).list l=B:=P;simp only[Q]at c1 c2 G N v;have F:(0:Int)<((Je (AM h) B).length:Int):=by omega
 have x:=uZ (AM h) v.1.good;have ty1:∀i,0<=i/\i<(B.length:Int)->(BE (Je (AM h) B) (1+i)).1=(BE B i).1:=λi hi=>by
  unfold BE;rw[YA (AM h) hi.1 hi.2]
 have L:=dX (h:=h) (w:=AM h) x v.1.good (λi hi=>by omega) ty1 (λi hi=>Cr x v.1.good hi hi.1 hi.2 oa ty1) l 0 ns _ ⟨Sh _,by omega⟩ c1;have E:=X9 (h:=h) (w:=AM h) x v.1.good (λi hi=>by omega) ty1 (n:=((B.length-1:Nat):Int)) ⟨by omega,by omega⟩;rw[c2]at E;have c:=Cw pf.good (r:=0) (Sh _) F;have t:=EA (Je (AM h) B) 0;obtain⟨ci,O,ad,cl⟩:=Qz pf.good (r:=0) (Sh _) F;have U:=λi=>Ee (f:=Je (AM h) B) (r:=0) (i:=i);have S:∀i,i∈Ba (Je (AM h) B) (Je (AM h) B).length [] 0->AH (AH (Je (AM h) B) 0) (Ax (Ba (Je (AM h) B) (Je (AM h) B).length [] 0) i)=AH (Je (AM h) B) i:=λi hi=>by
  have q:=A0 hi;have vc:=HJ pf (Sh _) F;have:=Cr ci vc.good (r:=Ax (Ba (Je (AM h) B) (Je (AM h) B).length [] 0) i) ⟨q.1,by rw[t];exact q.2.1⟩ q.1 (by rw[t];exact q.2.1) cl λj g=>(O j g.1 g.2).2;simp only[q.2.2]at this;exact this.symm
 generalize ae:AH (Je (AM h) B) 0=D at *;generalize Ba (Je (AM h) B) (Je (AM h) B).length [] 0=o at *;have u:(0:Int)∈o:=by
  have:=AE o 0 c.zero.2;rw[c.zero.1]at this;exact this
 have s:∀i,i∈o->BE D (Ax o i)=CG (Je (AM h) B) o i:=λi hi=>by
  have q:=A0 hi;unfold BE;rw[U (Ax o i).toNat oa,q.2.2]
 have A:o9 (Je (AM h) B) D (Ax o) (·∈o):=by
  refine⟨λi hi=>?_,c.cl,λi j hi g e=>?_⟩
  .have:=s i hi;unfold BE at this;rw[AK,this];rfl
  have aa:=A0 hi;have ab:=A0 g;rw[<-aa.2.2,<-ab.2.2,e]
 have ty2:∀i,i∈o->(BE D (Ax o i)).1=(BE (Je (AM h) B) i).1:=λi hi=>by
  rw[s i hi];rfl
 have M:(1:Int)∈o:=c.cl 0 u ((AM h).head,1) (by show _∈[((AM h).last,(B.length:Int)),((AM h).head,1)];simp);have k:(B.length:Int)∈o:=c.cl 0 u ((AM h).last,(B.length:Int)) (by show _∈[((AM h).last,(B.length:Int)),((AM h).head,1)];simp);have p:(1:Int)+((B.length-1:Nat):Int)=(B.length:Int):=by omega
 rw[p]at L E;have C:=dX (h:=h) (w:=AM h) A pf.good (λi hi=>(A0 hi).1) ty2 S l _ _ _ M L.1;have Z:=X9 (h:=h) (w:=AM h) A pf.good (λi hi=>(A0 hi).1) ty2 k;have Y:Ax o 0=0:=by
  have:=DI c.ok.nd c.zero.2;rw[c.zero.1]at this;exact this
 have ag:=lo.last_head;have J:=s 0 u;rw[Y]at J;have W:(AM h).last≠(AM h).head:=by omega
 have K:BE D 0=((AM h).dlist,[((AM h).last,Ax o (B.length:Int)),((AM h).head,Ax o 1)]):=J;have I:((ns.map λi=>1+i).map (Ax o)++[Ax o (B.length:Int)]).Nodup:=by
  have e:(ns.map λi=>1+i).map (Ax o)++[Ax o (B.length:Int)]=(ns++[((B.length-1:Nat):Int)]).map λi=>Ax o (1+i):=by
   rw[UK,bY,List.map_singleton,p];rfl
  rw[e];unfold List.Nodup;rw[iF];refine List.Pairwise.imp_of_mem (λ{a b} ha hb R q=>R ?_) G;have H:∀a∈ns++[((B.length-1:Nat):Int)],1+a∈o:=λa ha=>by
   rcases Do.1 ha with ha|ha
   .exact C.2.2 _ (Y1.2 ⟨a,ha,rfl⟩)
   rw[SQ.1 ha,p];exact k
  have:=A.inj _ _ (H a ha) (H b hb) q;omega
 have X:∀m∈(ns.map λi=>1+i).map (Ax o)++[Ax o (B.length:Int)],0<=m/\m<(D.length:Int):=λm d=>by
  rw[t];rcases Do.1 d with d|d
  .obtain⟨y,hy,rfl⟩:=Y1.1 d;have:=A0 (C.2.2 y hy);exact⟨this.1,this.2.1⟩
  rw[SQ.1 d];have:=A0 k;exact⟨this.1,this.2.1⟩
 have T:=JA.len (f:=D) ⟨I,X⟩;rw[As,If]at T;refine⟨_,Ax o 1,Ax o (B.length:Int),?_,?_,(A0 M).1,(A0 k).1,C.1,?_,I,by omega⟩
 .rw[K];simp[Av,W]
 .rw[K];simp[Av]
 rw[Z,E];exact V
theorem aD:NM h (NY h l)=(l,0):=by
 obtain⟨ns,hd,z,e1,e2,e,f,c1,c2,c,d⟩:=A3G lo hu hx hl;have a:=lF _ _ _ _ c1;have b:=lG l hd ns z ((NY h l).length+1) [] [] c1 c (λm _ q=>by cases q) (by rw[<-a.2];omega) c2;rw[AAl]at b;unfold NM Ap;rw[DO lo.lw,e1,e2,BY oa,b];try simp only
 rw[a.1]
end
theorem A9X {h:AG} {P X:List AB} (m:PF h P) (k:PF h X) (D:Int->Prop) (f:Int->Int) (t:∀i,D i->∀a∈AK P i,D a.2) (n:∀i,0<=i->i<(P.length:Int)->D i->0<=f i/\f i<(X.length:Int))
  (hty:∀i,0<=i->i<(P.length:Int)->D i->A3 h (P.getD i.toNat (0,[])).1 (X.getD (f i).toNat (0,[])).1=true) (s:∀i,0<=i->i<(P.length:Int)->D i->∀a∈AK P i,Av (AK X (f i)) a.1=f a.2) (hl:P.length+X.length<=10000) :
  ∃Q ψ,PF h Q/\G7 h P [] Q ψ/\(∀i,D i->ψ i=f i)/\(∀i,0<=i->i<(X.length:Int)->Q.getD i.toNat (0,[])=X.getD i.toNat (0,[]))/\X.length<=Q.length/\AH Q 0=AH X 0:=by
 classical
 have w:=k.pos;have r:∀i,0<=i->i<(P.length:Int)->0<=(if D i then f i else (X.length:Int)+i)/\(if D i then f i else (X.length:Int)+i)<((X.length+P.length:Nat):Int):=λi c g=>by
  split
  .rename_i d;have:=n i c g d;omega
  omega
 have o:(X++P.map λx=>(x.1,x.2.map λa=>(a.1,if D a.2 then f a.2 else (X.length:Int)+a.2)):List AB).length=X.length+P.length:=by rw[As,OF]
 have l:∀i,0<=i->i<(X.length:Int)->(X++P.map λx=>(x.1,x.2.map λa=>(a.1,if D a.2 then f a.2 else (X.length:Int)+a.2)):List AB).getD i.toNat (0,[])=X.getD i.toNat (0,[]):=λi c g=>by
  rw[AS,Se oa,AS]
 have p:∀i,0<=i->i<(P.length:Int)->(X++P.map λx=>(x.1,x.2.map λa=>(a.1,if D a.2 then f a.2 else (X.length:Int)+a.2)):List AB).getD ((X.length:Int)+i).toNat (0,[])=((P.getD i.toNat (0,[])).1,(AK P i).map λa=>(a.1,if D a.2 then f a.2 else (X.length:Int)+a.2)):=λi c g=>by
  unfold AK;rw[AS,Sf oa,show ((X.length:Int)+i).toNat-X.length=i.toNat by omega,nO,AT oa,AS,AT oa];rfl
 refine⟨X++P.map λx=>(x.1,x.2.map λa=>(a.1,if D a.2 then f a.2 else (X.length:Int)+a.2)),λi=>if D i then f i else (X.length:Int)+i,⟨⟨by omega,λx hx=>?_⟩,by omega,λx hx=>?_,λx hx=>?_,λx hx a ha=>?_⟩,⟨λi c g=>?_,λi c g=>?_,λi c g a ha=>?_,λq u=>by cases u⟩,λi d=>DO d,l,by omega,?_⟩
 .rw[o];rcases Do.1 hx with q|q
  .have:=k.good.2 x q;exact⟨this.1,λa ha=>by have:=this.2 a ha;omega⟩
  obtain⟨y,hy,rfl⟩:=Y1.1 q;have:=m.good.2 y hy;refine⟨by simp only[OF];exact this.1,λa ha=>?_⟩;obtain⟨b,hb,rfl⟩:=Y1.1 ha;have hb:=this.2 b hb;exact r b.2 hb.1 hb.2
 .rcases Do.1 hx with q|q
  .exact k.ty x q
  obtain⟨y,hy,rfl⟩:=Y1.1 q;exact m.ty y hy
 .rcases Do.1 hx with q|q
  .exact k.str x q
  obtain⟨y,hy,rfl⟩:=Y1.1 q;show List.Pairwise _ _;rw[iF];exact m.str y hy
 .rcases Do.1 hx with q|q
  .exact k.ft x q a ha
  obtain⟨y,hy,rfl⟩:=Y1.1 q;obtain⟨b,hb,rfl⟩:=Y1.1 ha;exact m.ft y hy b hb
 .rw[o];exact r i c g
 .try simp only
  split
  .rename_i d;have:=n i c g d;rw[l _ this.1 this.2];exact hty i c g d
  rw[p i c g];exact CF h _
 .try simp only
  by_cases d:D i
  .have q:=n i c g d;rw[DO d,DO (t i d a ha)];unfold AK;rw[l _ q.1 q.2];exact s i c g d a ha
  rw[BY d];unfold AK;rw[p i c g];refine Bi (a:=(a.1,if D a.2 then f a.2 else (X.length:Int)+a.2)) ?_ (Y1.2 ⟨a,ha,rfl⟩);rw[iF];exact Cd m.str i
 refine Cr (ψ:=λi=>i) (C:=λi=>0<=i/\i<(X.length:Int)) ⟨λi hi=>?_,λi hi x hx=>Af k.good hx,λi j hi v e=>e⟩ k.good ⟨Sh _,by omega⟩ (Sh _) oa oa λi hi=>?_
 .unfold AK;rw[l i hi.1 hi.2];exact(ABT _).symm
 rw[l i hi.1 hi.2]
theorem N0 {f:List AB} (hf:AO f) (hs:∀x∈f,Ih x.2) {n e z:Int} (h:AY f n [e]=some z):Av (AK f n) e=z/\0<=z/\z<(f.length:Int):=by
 obtain⟨h1,b⟩:=KE h;obtain⟨a,ha,e1,e2⟩:=qD (Cd hs n) h1;injection b with b
 rw[<-b,<-e2,<-e1];exact⟨Bi (Cd hs n) ha,Af hf ha⟩
structure Dn (h:AG) (f:List AB) (n z:Int) (k:Nat):Prop where
 hd:AY f 0 [(AM h).head]=some n
 la:AY f 0 [(AM h).last]=some z
 go:AY f n (List.replicate k (AM h).rest)=some z
structure qM (h:AG) (sa sb:List AB) (k m:Nat) (X:List AB):Prop where
 ty:A3 h (AM h).dlist (X.getD (0:Int).toNat (0,[])).1=true
 ex:∃p q z,AY X 0 [(AM h).head]=some p/\(∃v,G7 h sa [] X v/\v 0=p)/\AY X p (List.replicate k (AM h).rest)=some q/\(∃v,G7 h sb [] X v/\v 0=q)/\AY X q (List.replicate m (AM h).rest)=some z/\AY X 0 [(AM h).last]=some z
theorem A3H {h:AG} (hk:Hu h) {sa sb T:List AB} (va:VF h sa) (vb:VF h sb) (a:PF h T) {r n1 e l:Int} (b:0<=r) (c:r<(T.length:Int)) {k m:Nat} (hty:A3 h (AM h).dlist (T.getD r.toNat (0,[])).1=true)
  (g:AY T r [(AM h).head]=some n1) (z:AY T n1 (List.replicate k (AM h).rest)=some e) (A:AY T e (List.replicate m (AM h).rest)=some l) (B:AY T r [(AM h).last]=some l)
  {v w:Int->Int} (s:G7 h sa [] T v) (v0:v 0=n1) (t:G7 h sb [] T w) (w0:w 0=e):qM h sa sb k m (AH T r):=by
 have i:=(Qy _ (List.replicate k (AM h).rest) _ _ g).trans z;have C:=(Qy _ (List.replicate m (AM h).rest) _ _ i).trans A;have s1:=EI a b c g;have s2:=EI a b c B;have o:=EI a b c i;have x:=EI a b c C;obtain⟨D,E,F⟩:=uR hk va a b c g s v0;obtain⟨G,H,I⟩:=uR hk vb a b c i t w0;refine⟨?_,_,_,_,s1.1,⟨D,E,F⟩,?_,⟨G,H,I⟩,?_,s2.1⟩
 .have u:=(EI a b c (p:=[]) (n:=r) rfl);have q:=DI (Cw a.good b c).ok.nd (Cw a.good b c).zero.2;rw[(Cw a.good b c).zero.1]at q;have f:=u.2.2.2.2;rw[q]at f;rw[show (((0:Nat):Int))=0 from rfl]at f;rw[f];exact hty
 .obtain⟨y,d,j⟩:=K6 _ _ _ _ o.1;rw[s1.1]at d;injection d with d
  rw[d];exact j
 obtain⟨y,d,j⟩:=K6 _ _ _ _ x.1;rw[o.1]at d;injection d with d
 rw[d];exact j
section
variable {h:AG} (lo:Q0 h) (hu:HU h) (ht:Mb h) {a b:List AB} (va:VF h a) (vb:VF h b) (hl:a.length+b.length<=900) {ha la hb lb:Int} {k m:Nat} (da:Dn h a ha la k) (db:Dn h b hb lb m)
include lo va vb
theorem YC {e z:Int}:(AY a 0 [e]=some z->AY (Au 0 (AM h).first (AM h).rest a b) 0 [(AM h).first,e]=some (1+z))/\(AY b 0 [e]=some z->AY (Au 0 (AM h).first (AM h).rest a b) 0 [(AM h).rest,e]=some (((1+a.length:Nat):Int)+z)):=by
 have q:=lo.first_rest;have ap:=va.pos;have bp:=vb.pos;have h0:AK (Au 0 (AM h).first (AM h).rest a b) 0=[((AM h).first,1),((AM h).rest,1+(a.length:Int))]:=rfl;have f:Ih [((AM h).first,(1:Int)),((AM h).rest,1+(a.length:Int))]:=Sm.2 ⟨λc p=>by rw[SQ.1 p];exact q,AA8 _ _⟩;have hs:∀x∈Au 0 (AM h).first (AM h).rest a b,Ih x.2:=λx hx=>by
  rcases Hx hx with rfl|⟨y,hy,rfl⟩|⟨y,hy,rfl⟩
  .exact f
  .exact B4 (va.str y hy)
  exact B4 (vb.str y hy)
 constructor
 .intro e1;obtain⟨d,g,r⟩:=N0 va.good va.str e1;rw[D0 hs (m:=1) oa (by rw[h0];exact Bi (a:=((AM h).first,1)) f sc)];have n:=EX 0 (AM h).first (AM h).rest b (a:=a) (i:=0) (Sh _) oa;rw[D0 hs (m:=1+z) oa]
  .rfl
  obtain⟨y,hy,j,k⟩:=FE (l:=AK a 0) (e:=e) (by rw[d];exact g);rw[AAc]at n;unfold AK;rw[n,<-d,<-k,<-j,show 1+y.2=y.2+((1:Nat):Int) by omega];exact Bi (a:=(y.1,y.2+((1:Nat):Int))) (B4 (Cd va.str 0)) (A6.2 ⟨y,hy,rfl⟩)
 intro e1;obtain⟨d,g,r⟩:=N0 vb.good vb.str e1;rw[D0 hs (m:=((1+a.length:Nat):Int)) oa (by rw[h0];exact(Bi (a:=((AM h).rest,1+(a.length:Int))) f sc).trans oa)];have o:=Dz 0 (AM h).first (AM h).rest a (b:=b) (i:=0) (Sh _) oa;rw[D0 hs (m:=((1+a.length:Nat):Int)+z) oa]
 .rfl
 obtain⟨y,hy,j,k⟩:=FE (l:=AK b 0) (e:=e) (by rw[d];exact g);rw[AAc]at o;unfold AK;rw[o,<-d,<-k,<-j,AB9];exact Bi (a:=(y.1,y.2+((1+a.length:Nat):Int))) (B4 (Cd vb.str 0)) (A6.2 ⟨y,hy,rfl⟩)
include hl in
theorem lH:VF h (Au 0 (AM h).first (AM h).rest a b):=by
 have c:=Gx lo.lw
 have d:=lo.rng
 exact Mk ⟨Sh 0,IN.2 va.h0⟩ lo.first_rest ⟨c.1.1,d.2.1⟩ ⟨c.1.2,d.2.2.1⟩ va vb oa
omit va vb in
theorem A81:pN h [(AM h).first,(AM h).last]/\pN h [(AM h).rest,(AM h).head]:=by
 have b:=Gx lo.lw
 have c:=lo.rng
 constructor
 .intro e a
  simp only[At,TO,AAw]at a
  rcases a with rfl|rfl
  .exact⟨b.1.1,c.2.1⟩
  exact⟨b.2.2.2.2.2.2,c.2.2.2.2⟩
 intro e a
 simp only[At,TO,AAw]at a
 rcases a with rfl|rfl
 .exact⟨b.1.2,c.2.2.1⟩
 exact⟨b.2.2.2.2.2.1,c.2.2.2.1⟩
omit va vb in
theorem u5 {d:List AB} (b:VF h d) (i:d.length<=10000):PF h (GD (AM h) d):=by
 obtain⟨g,j⟩:=KF (AM h) b i
 have e:=Gx lo.lw
 have f:=lo.rng
 refine⟨g,by omega,λx hx=>?_,λx hx=>?_,λx hx c a=>?_⟩
 .rcases Do.1 hx with q|q
  .exact b.ty x q
  rw[SQ.1 q]
  exact⟨e.2.2.2.2.1,f.1.2.2.2⟩
 .rcases Do.1 hx with q|q
  .exact b.str x q
  rw[SQ.1 q]
  exact Sm.2 ⟨λc a=>by rw[SQ.1 a];exact lo.last_head,AA8 _ _⟩
 rcases Do.1 hx with q|q
 .exact b.ft x q c a
 rw[SQ.1 q]at a
 simp only[At,TO,AAw]at a
 rcases a with rfl|rfl
 .exact⟨e.2.2.2.2.2.2,f.2.2.2.2⟩
 exact⟨e.2.2.2.2.2.1,f.2.2.2.1⟩
omit lo va vb in
theorem NP (w:LW) {a:List AB} {i:Int} (b:0<=i) (c:i<(a.length:Int)):(GD w a).getD i.toNat (0,[])=a.getD i.toNat (0,[]):=by
 unfold GD
 rw[AS,Se oa,AS]
omit lo va vb in
theorem YD (w:LW) (U:List AB):(GD w U).getD ((U.length:Int)).toNat (0,[])=(w.dlist,[(w.last,(Ic U 0 [w.rest,w.last]).1),(w.head,(Ic U 0 [w.first,w.head]).1)]):=by
 unfold GD
 rw[AS,Sf oa,show ((U.length:Int)).toNat-U.length=0 by omega]
 rfl
omit lo va vb in
theorem zI (w:LW) {a:List AB} (d:VF h a) (e:a.length<=10000):G7 h a [] (GD w a) λi=>i:=by
 obtain⟨g,j⟩:=KF w d e
 refine⟨λi b c=>by omega,λi b c=>by rw[NP w b c];exact CF h _,λi b c x hx=>?_,λq f=>by cases f⟩
 try simp only
 unfold AK
 rw[NP w b c]
 exact Bi (Cd d.str i) hx
omit lo va vb in
theorem lI {f:List AB} (vf:VF h f) {p:Int} (p0:0<=p/\p<(f.length:Int)) {X:List AB} (d:∀x∈X,Ih x.2) {v:Int->Int} (b:G7 h (AH f p) [] X v) {a:List Int} {n:Int} (c:AY f p a=some n):n∈Ba f f.length [] p/\AY X (v 0) a=some (v (Ax (Ba f f.length [] p) n)):=by
 obtain⟨e,j,k,g,-⟩:=EI vf.pf p0.1 p0.2 c
 have vc:=HJ vf.pf p0.1 p0.2
 have i:=vc.pos
 exact⟨g,(DJ vc.good vc.str d b a 0 _ (Sh _) oa e).1⟩
omit lo va vb in
theorem lJ {f:List AB} (vf:VF h f) {p:Int} (p0:0<=p/\p<(f.length:Int)):Ax (Ba f f.length [] p) p=0/\p∈Ba f f.length [] p:=by
 have a:=Cw vf.good p0.1 p0.2
 have:=DI a.ok.nd a.zero.2
 have b:=AE (Ba f f.length [] p) 0 a.zero.2
 rw[a.zero.1]at this b
 exact⟨this,b⟩
include hl hu ht da db
theorem A3I {X:List AB} (E:VF h X) (ce:X.length<=5000) (be:qM h (AH a ha) (AH b hb) k m X):∃u,UG h (Au 0 (AM h).first (AM h).rest a b) [(AM h).first,(AM h).last] [(AM h).rest,(AM h).head] u/\∃j,Ig h (AH (GD (AM h) u) (u.length:Int)) X j:=by
 have w:=lH lo va vb hl;have ca:=Be 0 (AM h).first (AM h).rest a b;have H:=λe z=>YC lo va vb (e:=e) (z:=z);have h1:=N0 va.good va.str da.hd;have S:=N0 vb.good vb.str db.hd;obtain⟨hty,p,q,z,bu,⟨f,hf,ak⟩,bv,⟨g,T,al⟩,bw,bx⟩:=be;have ax:=lJ va h1.2;have ay:=lJ vb S.2;have ad:=lI va h1.2 E.str hf da.go;have ae:=lI vb S.2 E.str T db.go;rw[ak,bv]at ad;rw[al,bw]at ae;have ap:=va.pos;have bp:=vb.pos;have F:=Cw va.good h1.2.1 h1.2.2;have G:=Cw vb.good S.2.1 S.2.2;have ch:=EA a ha;have ci:=EA b hb;have am:=λi=>Ee (f:=a) (r:=ha) (i:=i);have an:=λi=>Ee (f:=b) (r:=hb) (i:=i);generalize cf:Ba a a.length [] ha=A at *;generalize cg:Ba b b.length [] hb=B at *;obtain⟨Q,ψ,D,Y,au,aq,cc,bj⟩:=A9X w.pf E.pf (λt=>(1<=t/\t<=(a.length:Int)/\t-1∈A)\/((a.length:Int)<t/\t-((1+a.length:Nat):Int)∈B)) (λt=>if t<=(a.length:Int) then f (Ax A (t-1)) else g (Ax B (t-((1+a.length:Nat):Int)))) (λi d c v=>by
   rcases d with ⟨J,M,o⟩|⟨J,o⟩
   .have l:=F.ok.rng _ o;rw[AK,show i.toNat=((1:Int)+(i-1)).toNat by omega,EX 0 _ _ b l.1 l.2]at v;obtain⟨y,hy,rfl⟩:=A6.1 v;have K:=F.cl _ o y hy;have bm:=F.ok.rng _ K;exact .inl ⟨by simp only;omega,by simp only;omega,by simp only;rw[show y.2+((1:Nat):Int)-1=y.2 by omega];exact K⟩
   .have l:=G.ok.rng _ o;rw[AK,show i.toNat=(((1+a.length:Nat):Int)+(i-((1+a.length:Nat):Int))).toNat by omega,Dz 0 _ _ a l.1 l.2]at v;obtain⟨y,hy,rfl⟩:=A6.1 v;have K:=G.cl _ o y hy;have bm:=G.ok.rng _ K;exact .inr ⟨by simp only;omega,by simp only;rw[show y.2+((1+a.length:Nat):Int)-((1+a.length:Nat):Int)=y.2 by omega];exact K⟩) (λi C L d=>by
   rcases d with ⟨J,M,o⟩|⟨J,o⟩
   .have:=A0 o;rw[DO M];exact hf.rng _ this.1 oa
   .have:=A0 o;rw[BY oa];exact T.rng _ this.1 oa) (λi C L d=>by
   rcases d with ⟨J,M,o⟩|⟨J,o⟩
   .have hi:=A0 o;have l:=F.ok.rng _ o;have:=hf.ty _ hi.1 oa;rw[am _ oa,hi.2.2]at this;rw[DO M,show i.toNat=((1:Int)+(i-1)).toNat by omega,EX 0 _ _ b l.1 l.2];exact this
   .have hi:=A0 o;have l:=G.ok.rng _ o;have:=T.ty _ hi.1 oa;rw[an _ oa,hi.2.2]at this;rw[BY oa,show i.toNat=(((1+a.length:Nat):Int)+(i-((1+a.length:Nat):Int))).toNat by omega,Dz 0 _ _ a l.1 l.2];exact this) (λi C L d c v=>by
   rcases d with ⟨J,M,o⟩|⟨J,o⟩
   .have hi:=A0 o;have l:=F.ok.rng _ o;rw[AK,show i.toNat=((1:Int)+(i-1)).toNat by omega,EX 0 _ _ b l.1 l.2]at v;obtain⟨y,hy,rfl⟩:=A6.1 v;have K:=F.ok.rng _ (F.cl _ o y hy);have:=hf.arc _ hi.1 oa (Fg A y) (by rw[AK,am _ oa,hi.2.2];exact Y1.2 ⟨y,hy,rfl⟩);try simp only
    rw[DO M,DO oa,show y.2+((1:Nat):Int)-1=y.2 by omega];exact this
   have hi:=A0 o;have l:=G.ok.rng _ o;rw[AK,show i.toNat=(((1+a.length:Nat):Int)+(i-((1+a.length:Nat):Int))).toNat by omega,Dz 0 _ _ a l.1 l.2]at v;obtain⟨y,hy,rfl⟩:=A6.1 v;have K:=G.ok.rng _ (G.cl _ o y hy);have:=T.arc _ hi.1 oa (Fg B y) (by rw[AK,an _ oa,hi.2.2];exact Y1.2 ⟨y,hy,rfl⟩);try simp only
   rw[BY oa,BY oa,show y.2+((1+a.length:Nat):Int)-((1+a.length:Nat):Int)=y.2 by omega];exact this) oa
 generalize bz:Au 0 (AM h).first (AM h).rest a b=P at *;have cb:=w.pos;have I:=Y.rng 0 (Sh _) oa;have ai:∀t,t∈A->ψ (1+t)=f (Ax A t):=λt ht=>by
  have l:=F.ok.rng _ ht;have:=au (1+t) (.inl ⟨by omega,by omega,by rw[show 1+t-1=t by omega];exact ht⟩);rw[DO oa,show 1+t-1=t by omega]at this;exact this
 have aj:∀t,t∈B->ψ (((1+a.length:Nat):Int)+t)=g (Ax B t):=λt ht=>by
  have l:=G.ok.rng _ ht;have:=au (((1+a.length:Nat):Int)+t) (.inr ⟨by omega,by rw[show ((1+a.length:Nat):Int)+t-((1+a.length:Nat):Int)=t by omega];exact ht⟩);rw[BY oa,show ((1+a.length:Nat):Int)+t-((1+a.length:Nat):Int)=t by omega]at this;exact this
 have U:∀x t,AY P 0 x=some t->AY Q (ψ 0) x=some (ψ t):=λx t e=>(DJ w.good w.str D.str Y x 0 t (Sh _) oa e).1;have Z:=U _ _ ((H _ _).1 da.la);have av:=U _ _ ((H _ _).2 db.hd);have aw:=U _ _ ((H _ _).1 da.hd);have aa:=U _ _ ((H _ _).2 db.la);rw[ai _ ad.1]at Z;rw[aj _ ay.2,ay.1,al]at av;rw[ai _ ax.2,ax.1,ak]at aw;rw[aj _ ae.1]at aa;have e1:f (Ax A la)=q:=by have:=ad.2;injection this with this;exact this.symm
 have e2:g (Ax B lb)=z:=by have:=ae.2;injection this with this;exact this.symm
 rw[e1]at Z;rw[e2]at aa;have af:=HJ D I.1 I.2;have ao:=Xp w.good w.pos w.ro D Y;have bc:=(EI D I.1 I.2 Z).1;have bd:=(EI D I.1 I.2 av).1;have ft:=A81 lo;obtain⟨u,s⟩:=A7R hu ht w ft.1 ft.2 sc sc oa af ao bc bd;refine⟨u,s,?_⟩;obtain⟨j,ar⟩:=s.least _ af _ ao _ bc bd;obtain⟨L,bq⟩:=KB D I.1 I.2;have N:=EC hu.ok s.vf.good s.vf.ty af.ty D.ty (Cy ar) L;have ag:(Ba Q Q.length [] (ψ 0)).getD (j 0).toNat 0=ψ 0:=by rw[ar.zero];exact bq
 generalize bo:(λi=>(Ba Q Q.length [] (ψ 0)).getD (j i).toNat 0)=R at N;have ag:R 0=ψ 0:=by rw[<-bo];exact ag
 have br:=s.len;simp only[IF,AA1]at br;have up:=s.vf.pos;obtain⟨n,hn⟩:=s.left;have bb:∀x t,AY P 0 x=some t->AY u 0 x=some (n t)/\AY Q (ψ 0) x=some (R (n t)):=λx t e=>by
  have V:=(DJ w.good w.str s.vf.str (Cy hn) x 0 t (Sh _) oa e).1;rw[hn.zero]at V;have ah:=(DJ s.vf.good s.vf.str D.str N x 0 _ (Sh _) oa V).1;rw[ag]at ah;exact⟨V,ah⟩
 have az:=bb _ _ ((H _ _).1 da.hd);have ba:=bb _ _ ((H _ _).2 db.la);have bg:R (n (1+ha))=p:=by have:=az.2;rw[aw]at this;injection this with this;exact this.symm
 have bh:R (n (((1+a.length:Nat):Int)+lb))=z:=by have:=ba.2;rw[aa]at this;injection this with this;exact this.symm
 have ab:=u5 lo s.vf oa;have cd:=(KF (AM h) s.vf oa).2;have cj:=E.pos;have bs:=N0 E.good E.str bu;have bt:=N0 E.good E.str bx;have bk:G7 h (GD (AM h) u) [] Q λi=>if i<(u.length:Int) then R i else 0:=by
  refine⟨λi C L=>?_,λi C L=>?_,λi C L c v=>?_,λq bl=>by cases bl⟩
  .try simp only
   split
   .exact N.rng i C (by assumption)
   omega
  .try simp only
   split
   .rw[NP _ C (by assumption)];exact N.ty i C (by assumption)
   rw[show i=(u.length:Int) by omega,YD,aq 0 (Sh _) oa];exact hty
  try simp only
  split
  .rename_i hi;rw[AK,NP _ C hi]at v;have l:=Af s.vf.good v;rw[DO l.2];exact N.arc i C hi c v
  rw[AK,show i=(u.length:Int) by omega,YD]at v;have bn:AK Q 0=AK X 0:=by
   unfold AK;rw[aq 0 (Sh _) oa]
  simp only[At,TO,AAw]at v;rw[bn];rcases v with rfl|rfl
  .have:=Qu s.vf ba.1;have l:=(DJ w.good w.str s.vf.str (Cy hn) _ 0 _ (Sh _) oa ((H _ _).2 db.la)).2;have l:=hn.rng _ l.1 l.2;simp only[this];rw[DO l.2,bh];exact bt.1
  have:=Qu s.vf az.1;have l:=(DJ w.good w.str s.vf.str (Cy hn) _ 0 _ (Sh _) oa ((H _ _).1 da.hd)).2;have l:=hn.rng _ l.1 l.2;simp only[this];rw[DO l.2,bg];exact bs.1
 have O:=HJ ab (r:=(u.length:Int)) oa oa;obtain⟨c1,c2⟩:=KB ab (r:=(u.length:Int)) oa oa;have bi:=EC hu.ok O.good O.ty ab.ty D.ty c1 bk;have W:=Xp O.good O.pos O.ro D bi;have bf:(Ba (GD (AM h) u) (GD (AM h) u).length [] (u.length:Int)).getD (0:Int).toNat 0=(u.length:Int):=c2;simp only[bf,Int.lt_irrefl,AAp]at W;rw[bj,E.can]at W;exact⟨_,W⟩
omit ht in
theorem A82 {d:List AB} (f:UG h (Au 0 (AM h).first (AM h).rest a b) [(AM h).first,(AM h).last] [(AM h).rest,(AM h).head] d):VF h (AH (GD (AM h) d) (d.length:Int))/\(AH (GD (AM h) d) (d.length:Int)).length<=a.length+b.length+20/\qM h (AH a ha) (AH b hb) k m (AH (GD (AM h) d) (d.length:Int)):=by
 have s:=lH lo va vb hl
 have X:=Be 0 (AM h).first (AM h).rest a b
 have l:=λe z=>YC lo va vb (e:=e) (z:=z)
 have h1:=N0 va.good va.str da.hd
 have i:=N0 vb.good vb.str db.hd
 have ap:=va.pos
 have bp:=vb.pos
 have Q:=f.len
 simp only[IF,AA1]at Q
 have up:=f.vf.pos
 obtain⟨n,hn⟩:=f.left
 have g:=u5 lo f.vf oa
 have Y:=(KF (AM h) f.vf oa).2
 have H:=zI (AM h) f.vf (h:=h) oa
 have w:(0:Int)<=(d.length:Int):=by omega
 have x:(d.length:Int)<((GD (AM h) d).length:Int):=by omega
 have V:=HJ g w x
 have W:=(Qz g.good w x).2.2.2
 have B:=EC hu.ok s.good s.ty f.vf.ty g.ty (Cy hn) H
 have B:G7 h (Au 0 (AM h).first (AM h).rest a b) [] (GD (AM h) d) n:=B
 obtain⟨F,G,-,-,-⟩:=kZ lo.first_rest B
 have r:∀u t,AY (Au 0 (AM h).first (AM h).rest a b) 0 u=some t->AY d 0 u=some (n t)/\0<=n t:=λu t e=>by
  have j:=DJ s.good s.str f.vf.str (Cy hn) u 0 t (Sh _) oa e
  have J:=hn.rng _ j.2.1 j.2.2
  rw[hn.zero]at j
  exact⟨j.1,J.1⟩
 have T:=r _ _ ((l _ _).1 da.la)
 have U:=r _ _ ((l _ _).2 db.hd)
 have D:=r _ _ ((l _ _).1 da.hd)
 have E:=r _ _ ((l _ _).2 db.la)
 obtain⟨c,c1,c2⟩:=f.eq
 have em:n (1+la)=n (((1+a.length:Nat):Int)+hb):=by
  have o:=T.1
  have p:=U.1
  rw[c1]at o
  rw[c2]at p
  injection o with o
  injection p with p
  rw[<-o,p]
 have Z:=lo.last_head
 have I:(AM h).last≠(AM h).head:=by omega
 have q:=YD (AM h) d
 rw[Qu f.vf E.1,Qu f.vf D.1]at q
 have R:AY (GD (AM h) d) (d.length:Int) [(AM h).head]=some (n (1+ha)):=by
  rw[D0 g.str D.2 (by unfold AK;rw[q];simp[Av,I])]
  rfl
 have S:AY (GD (AM h) d) (d.length:Int) [(AM h).last]=some (n (((1+a.length:Nat):Int)+lb)):=by
  rw[D0 g.str E.2 (by unfold AK;rw[q];simp[Av])]
  rfl
 have C:=(DJ va.good va.str g.str F _ _ _ h1.2.1 h1.2.2 da.go).1
 have v:=(DJ vb.good vb.str g.str G _ _ _ i.2.1 i.2.2 db.go).1
 try simp only at C v
 rw[<-em]at v
 have y:=HJ va.pf h1.2.1 h1.2.2
 have A:=HJ vb.pf i.2.1 i.2.2
 obtain⟨K,L⟩:=KB va.pf h1.2.1 h1.2.2
 obtain⟨M,N⟩:=KB vb.pf i.2.1 i.2.2
 have O:=EC hu.ok y.good y.ty va.ty g.ty K F
 have P:=EC hu.ok A.good A.ty vb.ty g.ty M G
 refine⟨V,by omega,A3H hu.ok y A g w x (by rw[q];exact CF h _) R C v S O (by
  have:(Ba a a.length [] ha).getD (0:Int).toNat 0=ha:=L
  simp only[this]) P (by
  have:(Ba b b.length [] hb).getD (0:Int).toNat 0=hb:=N
  simp only[this]
  exact em.symm)⟩
end
theorem dY {h:AG} {w:LW} {F:List AB} (a:∀x∈F,Ih x.2):∀(l:List (List AB)) (n:Int) (ns:List Int) (z:Int),dW h w F l n ns z->AY F n (List.replicate l.length w.rest)=some z
 | [],n,ns,z,⟨_,e⟩=>oN some e
 | x :: l,n,ns,z,⟨c,_,e2,_,b⟩=>by
  rw[IF,AAR,D0 a (NH e2).2 rfl];exact dY a l _ c z b
def A63 (h:AG) (sa sb:List AB) (k m:Nat) (r:List AB×Int):Prop :=
 (r.2=0/\VF h r.1/\qM h sa sb k m r.1/\r.1.length<=2000/\∀X,VF h X->X.length<=5000->qM h sa sb k m X->∃j,Ig h r.1 X j)\/(r=([],12)/\∀X,VF h X->X.length<=5000->¬qM h sa sb k m X)
theorem A64 {h:AG} (hu:HU h) {sa sb:List AB} {k m:Nat} {r s:List AB×Int} (h1:A63 h sa sb k m r) (g:A63 h sa sb k m s):r=s:=by
 rcases h1 with ⟨b,a,c,l,e⟩|⟨b,a⟩<;>rcases g with ⟨b1,b2,d,n,f⟩|⟨b1,b2⟩
 .obtain⟨o,i⟩:=e _ b2 oa d;obtain⟨p,j⟩:=f _ a oa c;exact Prod.ext (A6r hu a b2 i j) (b.trans b1.symm)
 .exact(b2 _ a oa c).elim
 .exact(a _ b2 oa d).elim
 rw[b,b1]
theorem A3J {h:AG} (lo:Q0 h) (hu:HU h) (ht:Mb h) {a b:List AB} (va:VF h a) (vb:VF h b) (hl:a.length+b.length<=900) {ha la hb lb:Int} {k m:Nat} (da:Dn h a ha la k) (db:Dn h b hb lb m) (i:(Ap h a 0).2=0) (l:(Ap h b 0).2=0) :
  A63 h (AH a ha) (AH b hb) k m (Cs h a b):=by
 unfold Cs;rw[DO lo.lw,BY (λq=>q i),BY (λq=>q l)];cases d:(LS h a b).2 with
 | false =>
  rw[DO rfl];refine .inr ⟨rfl,λX g f e=>?_⟩;obtain⟨r,c,-⟩:=A3I lo hu ht va vb hl da db g f e;unfold LS at d;rw[SB hu c]at d;cases d
 | true =>
  have c:UG h (Au 0 (AM h).first (AM h).rest a b) [(AM h).first,(AM h).last] [(AM h).rest,(AM h).head] (LS h a b).1:=Zo d;obtain⟨n,s,o⟩:=A82 lo hu va vb hl da db c;rw[BY sc,BY oa];refine .inl ⟨rfl,n,o,by simp only;omega,λX g f e=>?_⟩;obtain⟨V,p,j⟩:=A3I lo hu ht va vb hl da db g f e;rw[tZ hu c p];exact j
section
variable {h:AG} (lo:Q0 h) (hu:HU h) {l k:List (List AB)} (hx:∀x∈l,VF h x/\x.length<=30) (hy:∀x∈k,VF h x/\x.length<=30) (l1:l.length<=12) (l2:k.length<=12)
theorem Yb {h:AG} {l:List (List AB)} (hx:∀x∈l,VF h x/\x.length<=30):∀x∈l,VF h x/\x.length<=100:=λx q=>⟨(hx x q).1,SX (hx x q).2 dc⟩
include lo hy l2
theorem u6 {X:List AB} (g:PF h X):∀ {l:List (List AB)},(∀x∈l,VF h x/\x.length<=30)->l.length<=12->∀ {v u:Int->Int},G7 h (Jd h (AM h).list l) [] X v->AY X (v 0) (List.replicate l.length (AM h).rest)=some (u 0)->G7 h (Jd h (AM h).list k) [] X u->∃w,G7 h (Jd h (AM h).list (l++k)) [] X w/\w 0=v 0
 | [],_,_,v,u,b,a,hu=>⟨u,hu,by injection a with a;exact a.symm⟩
 | x :: l,hx,hl,v,u,b,a,hu=>by
  have c:∀y∈l,VF h y/\y.length<=30:=λy q=>hx y (GO _ q);rw[IF]at hl;have j:=hx x gO;have r:=Ei lo lo.lis (Yb c) oa;have i:=Ei (l:=l++k) lo lo.lis (Yb λy q=>(Do.1 q).elim (c y) (hy y)) (by rw[As];omega);obtain⟨m,e,n,o,f⟩:=kZ lo.cw.lt b;have z:=j.1.pos;have d:=e.rng 0 (Sh _) (by have:0<(Jd h (AM h).list l).length:=r.1.pos;show (0:Int)<((Jd h (AM h).list l).length:Int);omega);rw[IF,AAR,D0 g.str (by simp only[AAc]at d;exact d.1) f]at a;obtain⟨w,s,t⟩:=u6 g c oa e (by simp only[AAc];exact a) hu;have p:=b.rng 0 (Sh _) (by show (0:Int)<((Au _ _ _ x _).length:Int);rw[Be];omega);exact⟨_,kY j.1.good i.1.good z i.1.pos m s p n o (by rw[t,f];simp only[AAc]),DO rfl⟩
include hu
theorem u7:∀ {l:List (List AB)},(∀x∈l,VF h x/\x.length<=30)->l.length<=12->∃v,Ig h (Jd h (AM h).list l) (Jd h (AM h).list (l++k)) v
 | [],_,_=>by
  have f:=Ei lo lo.lis (Yb hy) oa;have m:=f.1.pos;refine⟨λ_=>0,rfl,λi d a=>⟨Sh _,by show (0:Int)<((Jd h (AM h).list k).length:Int);omega⟩,λi d a=>?_,λi d a y hy=>?_⟩
  .have a:i<((1:Nat):Int):=a;rw[show i=0 by omega];cases k with
   | nil=>exact CF h _
   | cons y k=>exact lo.sub.1
  have a:i<((1:Nat):Int):=a;rw[show i=0 by omega]at hy;cases hy
 | x :: l,hx,hl=>by
  have b:∀y∈l,VF h y/\y.length<=30:=λy q=>hx y (GO _ q);rw[IF]at hl;have c:=hx x gO;have g:=Ei lo lo.lis (Yb b) oa;have j:=Ei (l:=l++k) lo lo.lis (Yb λy q=>(Do.1 q).elim (b y) (hy y)) (by rw[As];omega);obtain⟨v,e⟩:=u7 b oa;exact A3p hu.ok lo.cw c.1 g.1 c.1 j.1 (R8 c.1.str) e
theorem lK:∀ {l:List (List AB)},(∀x∈l,VF h x/\x.length<=30)->l.length<=12->∃v,G7 h (Jd h (AM h).list k) [] (Jd h (AM h).list (l++k)) v/\AY (Jd h (AM h).list (l++k)) 0 (List.replicate l.length (AM h).rest)=some (v 0)
 | [],_,_=>⟨id,Cy (R8 (Ei lo lo.lis (Yb hy) oa).1.str),rfl⟩
 | x :: l,hx,hl=>by
  have e:∀y∈l,VF h y/\y.length<=30:=λy q=>hx y (GO _ q);rw[IF]at hl;have j:=hx x gO;have f:=Ei lo lo.lis (Yb hy) oa;have a:=Ei (l:=l++k) lo lo.lis (Yb λy q=>(Do.1 q).elim (e y) (hy y)) (by rw[As];omega);obtain⟨v,h1,g⟩:=lK e oa;have hi:=k7 h (AM h).cons (AM h).first (AM h).rest x a.1.str;have d:=Mk lo.cw.c lo.cw.lt lo.cw.e1 lo.cw.e2 j.1 a.1 (by have:=a.2;have n:(l++k).length=l.length+k.length:=As;omega);refine⟨_,EC hu.ok f.1.good f.1.ty a.1.ty d.ty h1 hi,?_⟩;have lp:=a.1.pos;have i:=aC (h:=h) (w:=AM h) (x:=x) (b:=Jd h (AM h).list (l++k)) lo.cw.lt;rw[IF,AAR];show AY (Au (AM h).cons (AM h).first (AM h).rest x (Jd h (AM h).list (l++k))) 0 _=_;rw[D0 d.str (m:=((1+x.length:Nat):Int)) oa i.2.2];have:=(DJ a.1.good a.1.str d.str hi _ 0 _ (Sh _) oa g).1;rw[AAc]at this;exact this
omit hy l2 hu in
theorem A83 {l:List (List AB)} (hx:∀x∈l,VF h x/\x.length<=100) (hl:l.length<=40):AY (Jd h (AM h).list l) 0 (List.replicate l.length (AM h).rest)=some (((Jd h (AM h).list l).length-1:Nat):Int):=by
 obtain⟨ns,c1,-⟩:=qL (w:=AM h) lo.cw lo.lis hx hl
 exact dY (Ei lo lo.lis hx hl).1.str _ _ _ _ c1
omit lo hy l2 hu in
theorem A84 {w:LW} {B X:List AB} (f:AO B) (bp:0<B.length) {v:Int->Int} (a:G7 h B [] X v) {x:Int} (k:0<=x/\x<(X.length:Int)) (ht:A3 h w.dlist (X.getD x.toNat (0,[])).1=true) (h1:Av (AK X x) w.last=v ((B.length-1:Nat):Int)) (g:Av (AK X x) w.head=v 0) :
  G7 h (Je w B) [] X λi=>if i=0 then x else v (i-1):=by
 have hl:=Hl w B
 refine⟨λi c d=>?_,λi c d=>?_,λi c d y hy=>?_,λq j=>by cases j⟩
 .try simp only
  split
  .exact k
  exact a.rng _ oa oa
 .try simp only
  split
  .rename_i e
   subst e
   exact ht
  have:=a.ty (i-1) oa oa
  rw[show i.toNat=((1:Int)+(i-1)).toNat by omega,YA w oa oa]
  exact this
 try simp only
 split
 .rename_i e
  subst e
  have hy:y∈[(w.last,(B.length:Int)),(w.head,1)]:=hy
  simp only[At,TO,AAw]at hy
  rcases hy with rfl|rfl
  .try simp only
   rw[BY oa,h1]
   exact oN v oa
  try simp only
  rw[BY oa,g]
  rfl
 rw[AK,show i.toNat=((1:Int)+(i-1)).toNat by omega,YA w oa oa]at hy
 obtain⟨z,b,rfl⟩:=A6.1 hy
 have l:=Af f b
 have:=a.arc (i-1) oa oa z b
 try simp only
 rw[BY oa,this]
 exact oN v oa
omit lo hy l2 hu in
theorem A85 (w:LW) {B:List AB} (e:∀x∈B,Ih x.2):G7 h B [] (Je w B) λi=>1+i:=by
 have hl:=Hl w B
 refine⟨λi b c=>by omega,λi b c=>?_,λi b c y hy=>?_,λq d=>by cases d⟩
 .try simp only
  rw[YA w b c]
  exact CF h _
 try simp only
 rw[AK,YA w b c,show 1+y.2=y.2+((1:Nat):Int) by omega]
 exact Bi (a:=(y.1,y.2+((1:Nat):Int))) (B4 (Cd e i)) (A6.2 ⟨y,hy,rfl⟩)
omit hy l2 hu in
theorem lL {B:List AB} (a:PF h (Je (AM h) B)):AY (Je (AM h) B) 0 [(AM h).head]=some 1/\AY (Je (AM h) B) 0 [(AM h).last]=some (B.length:Int):=by
 have c:=lo.last_head
 have b:(AM h).last≠(AM h).head:=by omega
 have h0:AK (Je (AM h) B) 0=[((AM h).last,(B.length:Int)),((AM h).head,1)]:=rfl
 constructor
 .rw[D0 a.str (m:=1) oa (by rw[h0];simp[Av,b])]
  rfl
 rw[D0 a.str (m:=(B.length:Int)) oa (by rw[h0];simp[Av])]
 rfl
omit hy l2 hu in
theorem A65 {l:List (List AB)} (hx:∀x∈l,VF h x/\x.length<=100) (hl:l.length<=30) {hd:Int} (e:AY (NY h l) 0 [(AM h).head]=some hd):AH (NY h l) hd=Jd h (AM h).list l:=by
 have v:=Ei lo lo.lis hx oa
 have a:=SP lo v.1 oa
 have b:=Hl (AM h) (Jd h (AM h).list l)
 have bp:=v.1.pos
 have s:=EI a (r:=0) (Sh _) oa (lL lo a).1
 have s1:AY (NY h l) 0 [(AM h).head]=_:=s.1
 rw[e]at s1
 injection s1 with s1
 rw[s1]
 refine s.2.2.1.trans ?_
 have:=Cr (uZ (AM h) v.1.good) v.1.good (r:=0) ⟨Sh _,by omega⟩ (Sh _) oa oa λi hi=>by rw[YA _ hi.1 hi.2]
 simp only[AAc]at this
 rw[this,v.1.can]
omit hy l2 in
theorem A3K {l:List (List AB)} (hx:∀x∈l,VF h x/\x.length<=100) (hl:l.length<=30):∃hd z,Dn h (NY h l) hd z l.length/\AH (NY h l) hd=Jd h (AM h).list l:=by
 obtain⟨ns,hd,z,e1,e2,b,c,c1,c2,d,e⟩:=A3G lo hu hx hl
 have v:=(YB lo hx hl).1
 have a:AY (NY h l) 0 [(AM h).head]=some hd:=(D0 v.str b e1 []).trans rfl
 exact⟨hd,z,⟨a,(D0 v.str c e2 []).trans rfl,dY v.str _ _ _ _ c1⟩,A65 lo hx hl a⟩
include hx l1
theorem qN:A63 h (Jd h (AM h).list l) (Jd h (AM h).list k) l.length k.length (NY h (l++k),0):=by
 have i:∀x∈l++k,VF h x/\x.length<=30:=λy q=>(Do.1 q).elim (hx y) (hy y);have Z:(l++k).length<=24:=by rw[As];omega
 have A:=Ei lo lo.lis (Yb hx) oa;have u:=Ei lo lo.lis (Yb hy) oa;have v:=Ei (l:=l++k) lo lo.lis (Yb i) oa;have a:=SP lo v.1 oa;have s:=(YB lo (l:=l++k) (Yb i) oa).1;have G:=Hl (AM h) (Jd h (AM h).list (l++k));have O:(NY h (l++k)).length<=2000:=by
  have ae:(Jd h (AM h).list (l++k)).length<=_:=dS (c:=(AM h).cons) (e1:=(AM h).first) (e2:=(AM h).rest) (t:=(AM h).list) (n:=30) (l:=l++k) λx q=>(i x q).2;have T:=(Qz a.good (r:=0) (Sh _) (by rw[G];omega)).2.2.2;rw[G]at T;show (AH _ 0).length<=_;omega
 have F:=A83 lo (l:=l++k) (Yb i) oa;obtain⟨ab,h1⟩:=u7 lo hu hy l2 hx l1;obtain⟨ad,L,J⟩:=lK lo hu hy l2 hx l1;have H:=lL lo a;refine .inl ⟨rfl,s,?_,O,λX b aa K=>?_⟩
 .show qM h _ _ _ _ (AH (Je (AM h) (Jd h (AM h).list (l++k))) 0);generalize Jd h (AM h).list (l++k)=B at *;have bp:=v.1.pos;have hi:=A85 (h:=h) (AM h) v.1.str;have d:=(DJ v.1.good v.1.str a.str hi _ 0 _ (Sh _) oa J);have e2:=F;rw[As,<-ABA]at e2;obtain⟨y,j,Y⟩:=K6 _ _ _ _ e2;rw[J]at j;injection j with j
  subst j;have m:=(DJ v.1.good v.1.str a.str hi _ _ _ d.2.1 d.2.2 Y).1;have d:=d.1;simp only[AAc]at d m;rw[show (1:Int)+((B.length-1:Nat):Int)=(B.length:Int) by omega]at m;exact A3H hu.ok A.1 u.1 a (Sh _) oa (CF h _) H.1 d m H.2 (EC hu.ok A.1.good A.1.ty v.1.ty a.ty (Cy h1) hi) (by simp only[h1.zero];rfl) (EC hu.ok u.1.good u.1.ty v.1.ty a.ty L hi) rfl
 obtain⟨hty,p,q,z,U,⟨f,hf,D⟩,C,⟨g,N,E⟩,V,W⟩:=K;rw[<-D,<-E]at C;obtain⟨w,I,w0⟩:=u6 lo hy l2 b.pf hx l1 hf C N;have bp:=v.1.pos;have e:=(DJ v.1.good v.1.str b.str I _ 0 _ (Sh _) oa F).1;rw[As,<-ABA,w0,Qy _ _ _ _ C,E,V]at e;injection e with e
 have af:=b.pos;have R:=N0 b.good b.str U;have S:=N0 b.good b.str W;have hd:=A84 (w:=AM h) v.1.good bp I (x:=0) ⟨Sh _,by omega⟩ hty (by rw[S.1,e]) (by rw[R.1,w0,D]);have P:(0:Int)<((Je (AM h) (Jd h (AM h).list (l++k))).length:Int):=by omega
 obtain⟨Q,o⟩:=KB a (r:=0) (Sh _) P;have M:=EC hu.ok s.good s.ty a.ty b.ty Q hd;refine⟨_,uT M ?_⟩;have o:(Ba (Je (AM h) (Jd h (AM h).list (l++k))) (Je (AM h) (Jd h (AM h).list (l++k))).length [] 0).getD (0:Int).toNat 0=0:=o;simp only[o,AAd]
theorem qO (ht:Mb h) (hn:(NY h l).length+(NY h k).length<=900):Cs h (NY h l) (NY h k)=(NY h (l++k),0):=by
 obtain⟨ha,la,da,sa⟩:=A3K lo hu (Yb hx) oa;obtain⟨hb,lb,db,sb⟩:=A3K lo hu (Yb hy) oa;have va:=(YB lo (Yb hx) oa).1;have vb:=(YB lo (Yb hy) oa).1;have a:(Ap h (NY h l) 0).2=0:=oN Prod.snd (aD lo hu (Yb hx) oa);have b:(Ap h (NY h k) 0).2=0:=oN Prod.snd (aD lo hu (Yb hy) oa);have h1:=A3J lo hu ht va vb hn da db a b;rw[sa,sb]at h1;exact A64 hu h1 (qN lo hu hx hy l1 l2)
end
section
attribute [local go_sem] Z5 dU Qv KD Mj dV A3h Z9
end
section
attribute [local go_sem] Z5 Ml Z9 Gy SL uV Kq
theorem zJ {h:AG} (lo:Q0 h) {l:List (List AB)} (hx:∀x∈l,VF h x/\x.length<=12) (hl:l.length<=30):(NY h l).length<=13*l.length+2:=by
 have b:∀x∈l,VF h x/\x.length<=100:=λx q=>⟨(hx x q).1,SX (hx x q).2 dc⟩;have v:=Ei lo lo.lis b oa;have d:=SP lo v.1 oa;have a:=Hl (AM h) (Jd h (AM h).list l);have f:(Jd h (AM h).list l).length<=_:=dS (c:=(AM h).cons) (e1:=(AM h).first) (e2:=(AM h).rest) (t:=(AM h).list) (n:=12) (l:=l) λx q=>(hx x q).2;have e:=(Qz d.good (r:=0) (Sh _) (by rw[a];omega)).2.2.2;rw[a]at e;show (AH (Je (AM h) (Jd h (AM h).list l)) 0).length<=_;omega
structure u9 (h:AG) (l:List (List AB)) (n:Nat):Prop where
 el:∀x∈l,VF h x/\x.length<=12
 len:l.length<=n
theorem u9.app {h:AG} {l k:List (List AB)} {m n:Nat} (a:u9 h l m) (b:u9 h k n):u9 h (l++k) (m+n):=⟨λx q=>(Do.1 q).elim (a.el x) (b.el x),by rw[As];have:=a.len;have:=b.len;omega⟩
theorem u9.le {h:AG} {l:List (List AB)} {n:Nat} (a:u9 h l n):∀x∈l,VF h x/\x.length<=30:=λx q=>⟨(a.el x q).1,SX (a.el x q).2 dc⟩
theorem u9.df {h:AG} (lo:Q0 h) (hu:HU h) {l:List (List AB)} {n:Nat} (a:u9 h l n) (hn:n<=15):Gc h l=(NY h l,0)/\VF h (NY h l)/\(NY h l).length<=13*n+2:=by
 have:=a.len;have:=zJ lo a.el oa;exact⟨A62 lo hu (Yb a.le) oa,(YB lo (Yb a.le) oa).1,by omega⟩
theorem u9.ap {h:AG} (lo:Q0 h) (hu:HU h) (ht:Mb h) {l k:List (List AB)} {m n:Nat} (a:u9 h l m) (b:u9 h k n) (c:m<=12) (hn:n<=12):Cs h (NY h l) (NY h k)=(NY h (l++k),0):=by
 have d:=(a.df lo hu oa).2.2;have e:=(b.df lo hu oa).2.2;have:=a.len;have:=b.len;exact qO lo hu a.le b.le oa oa ht oa
def qP:Ab:={ ins:=[FC,Um,Um],pre:=λ_=>True,out:=λ_=>[.p .bool true] }
attribute [local go_sem] qP
theorem A3L:Ag Tryz.prog 11 qP:=by
 refine fK [0,1,2,6,7,8,10,12,14,16,17,18,19,20,21,22,23,24,25,26,27,44] Tryz.func11 Tryz.ntmps11 (AF uU (AF qK (AF A61 (AF p7 (AF kX (AF uW (AF QU AI))))))) ?_;rintro w0 O0 ⟨d,l,k,u⟩ a - -;simp only[qP,AN];have hh:=A9m d;have hs:=A3t d;have j:=λq=>aB hh (l:=l) q;have m:=λq=>aB hh (l:=k) q;generalize G:HR d=h at *;have e:(h.1,h.2)=h:=rfl;repeat'(first|exact trivial|apply eS rfl|apply AC|refine rX a ?_ ?_|refine rC ?_ ?_<;>intro c<;>try(cases c;done))
 all_goals try simp only[G,e]at *
 .exact λ_=>hh.hu.ok
 .exact fI a [.tmp 6]
 all_goals
  obtain⟨⟨p,r⟩,H⟩:=c;have J:List.length l<=5:=(j p).1;have I:List.length k<=5:=(m r).1;have hx:=(j p).2;have hy:=(m r).2;have n:∀x∈(l:List (List AB)),AO x/\Et x:=λx q=>⟨(hx x q).1.good,lE hh.hu (hx x q).1⟩;have o:∀x∈(k:List (List AB)),AO x/\Et x:=λx q=>⟨(hy x q).1.good,lE hh.hu (hy x q).1⟩;have L:∀x∈(l:List (List AB)),VF h x/\List.length x<=30:=λx q=>⟨(hx x q).1,SX (hx x q).2 dc⟩;have M:∀x∈(k:List (List AB)),VF h x/\List.length x<=30:=λx q=>⟨(hy x q).1,SX (hy x q).2 dc⟩;have lo:Q0 h:=⟨H,hs⟩
 .exact n
 .exact o
 .exact λx q=>by cases q
 have A:u9 h l 5:=⟨hx,J⟩;have B:u9 h k 5:=⟨hy,I⟩;have O:u9 h [] 0:=⟨(λx q=>by cases q),No _⟩;obtain⟨e1,v1,n1⟩:=A.df lo hh.hu dc;obtain⟨e2,v,N⟩:=B.df lo hh.hu dc;obtain⟨E,y,P⟩:=O.df lo hh.hu dc;obtain⟨F,v4,Q⟩:=(A.app B).df lo hh.hu dc;obtain⟨-,K,R⟩:=(B.app A).df lo hh.hu dc;obtain⟨-,v6,S⟩:=((A.app B).app A).df lo hh.hu dc;have z:=A.ap lo hh.hu hh.top B dc dc;have C:=(A.app B).ap lo hh.hu hh.top A dc dc;have D:=B.ap lo hh.hu hh.top A dc dc;have f:=A.ap lo hh.hu hh.top (B.app A) dc dc;have g:=O.ap lo hh.hu hh.top A dc dc;have i:=A.ap lo hh.hu hh.top O dc dc;rw[AAl]at g;rw[UL]at i;rw[<-SZ]at f;have b:(HU h/\Mb h/\(FH h=true->(AM h).first<(AM h).rest)):=⟨hh.hu,hh.top,λw=>lo.first_rest⟩;repeat'(first|exact trivial|apply eS rfl|apply AC|refine rP a ?_ ?_|fail)
 refine A4F drawsAny a 12 [([1,2],3,[]),([4],5,[]),([0],6,[]),([],7,[9]),([],8,[]),([10],11,[])] [] (by kernel_rfl) (mxB ?_ ?_)
 .trivial
 refine WM a [65] ?_ ?_
 .simp only[AP];omega
 refine⟨_,mxB ?_ ?_⟩
 .trivial
 refine mxF 65 a [65] ?_ ?_
 .simp only[AP];omega
 refine⟨_,mxB ?_ ?_⟩
 .trivial
 refine WM a [] ?_ ?_
 .exact λx q=>(Do.1 q).elim (n x) (o x)
 refine⟨_,mxB ?_ ?_⟩
 .trivial
 refine WM a [] ?_ ?_
 .trivial
 refine⟨_,mxB ?_ ?_⟩
 .trivial
 refine WM a [] ?_ ?_
 .trivial
 refine⟨_,mxB ?_ ?_⟩
 .trivial
 refine WM a [] ?_ ?_
 .trivial
 refine⟨_,wU a ?_ ?_ ?_⟩
 .trivial
 .trivial
 repeat'(first|exact trivial|apply eS rfl|apply AC|refine rX a ?_ ?_|refine rC ?_ ?_<;>intro c<;>try(cases c;done))
 all_goals have e:(h.1,h.2)=h:=rfl
 all_goals simp only[e,e1,e2,E,F,z,C,D,f,g,i,JY]
 .exact⟨b,v1,v,by omega⟩
 .exact⟨b,v4,v1,by omega⟩
 .exact⟨b,v,v1,by omega⟩
 .exact⟨b,v1,K,by omega⟩
 .exact⟨b,y,v1,by omega⟩
 .exact⟨b,v1,y,by omega⟩
 .have s1:=v1.small;have s:=v4.small;have t:=v6.small;exact⟨λ_=>⟨s,s⟩,λ_=>⟨t,t⟩,λ_=>⟨s1,s1⟩,λ_=>⟨s1,s1⟩⟩
 exact fI a [.tmp 6] (by simp;exact eR)
end
end Go.Proofs.YtapkhdkbkodbjaaGreat.Fw
