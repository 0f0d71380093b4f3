/- Contracts of functions and plain laws. -/
import Derived.Test.YtglkoagnnnpimaaGreatDoorAYA
import Derived.Test.YtglkoagnnnpimaaGreatDoorAZJ
import Derived.Test.YtglkoagnnnpimaaGreatDoorAZI
import Derived.Laws.Strings
set_option linter.unusedVariables false
set_option linter.unusedSimpArgs false
namespace Go.Proofs.YtglkoagnnnpimaaGreatDoor.Fw
attribute [local irreducible] Ev
attribute [local go_sem] jR AM List.toList_toArray Bt evG evK VR Ej KP Hk Gd F3 QN KO CL DW Nb C5 Ci frz m3 GJ DJ A6 FU BW AV.frz AV.frzs AV.drp AV.drps AV.names AV.namess aq GK KE KF SR I0 Bo Bw Jp D2 I3 D3 I5 I4 I6 VP QF Gy La FX EJ VQ RE qUn Jq X1 Mc E2 Dv I7 KH Ea SU Cn Eb E3 RF IP NZ E4 NY QH RG ME I8 KI DK Cz E7 Dw H2 DF E5 DG Ec F2 C5 Cq NW RD PJ GY I2 I1 KG Na QK MF Mg Me KK SV Mf KL Y7 QM QL AV.trn AV.trns D1 Cm Obj.trn Jv eL DI Dg DH Ed CP E6 Ab lk Hf GR H0 bin mY XS m5 ST SP zfx AV.cellss mZ zfs pfs AV.cells CD EZ IM FY QJ CE NX Ty.cell1 Iz El Du F0 Hz EY J9 MD NV Fz GX Mb SN VO L4 J8 Y3 dG SQ Hg Cr Gx RV.flat Ty.flat Ty.size St.add upd del Bb Value.oneCell' XQ Ty.dflt Ix Rm IX Rs List.take_succ_cons List.take_zero List.length_cons jU jV Rr Kj N4 IZ Ln A0G Ge Nt Nu Nv Nw Ss Su Nx JJ Xo Option.map_some Option.map_none Option.bind_some Option.getD_some Option.getD_none Option.isNone_none Option.isNone_some Bool.and_true Bool.true_and Bool.and_false Bool.false_and Bool.not_true Bool.not_false if_true if_false List.length_cons List.length_nil and_true true_and and_self List.all_cons List.all_nil List.append_nil List.nil_append List.cons_append List.getElem?_cons_zero List.getElem?_cons_succ List.getElem?_nil List.map_cons List.map_nil List.set_cons_zero List.set_cons_succ List.isEmpty_nil List.isEmpty_cons decide_true decide_false beq_self_eq_true bne_self_eq_false Nat.zero_add Nat.add_zero Nat.sub_zero Int.toNat_natCast Int.toNat_zero Int.toNat_one List.take_length List.length_append List.length_singleton true_or or_true or_self false_or or_false Ty.agg.injEq Ty.slice.injEq Ty.prod.injEq Ty.int.injEq Option.some.injEq beq_iff_eq Kh evMG evMQ opM IA MK B4 Ju Gf Sx Jt H9 JK Ll Kg PT N0 PU Sy Nz Ro Rp Lk AY Ag Op.operands Call.operands List.filterMap_cons List.filterMap_nil List.append_eq Bool.cond_false_right Bool.cond_true_left cond_true cond_false implies_true decide_eq_true_eq beq_true beq_false Bool.or_true Bool.or_false Bool.true_or Bool.false_or Option.isSome_some Array.empty_append List.append_toArray FW Nc E8 Hh Y6 QI Y5 F1 Gq Gp IQ H1 KJ Md XT m4 Gn inB KM Ft GZ KN Am jZ List.drop_zero Dr Hm Zd Ct Mr Cg AV.fgt AV.fgts Obj.fgt Aw Au AY D7 Kl Bp Km List.any_cons List.any_nil j7 eD Zf eF L5 RJ qs List.flatMap_cons List.flatMap_nil List.cons_append tn Zk ML List.take_succ_cons List.drop_succ_cons Zm HA BX tM Pd CG Ca Ai FA KZ Bz matchAVs C0 H8 JG G6 JH
attribute [local go_sem] ty1 ty2 ty3 ty4 ty5 ty9 A43 A44 A45 A46 A47 A48 A49 A4a A4b A4c A4d A4e A4f A4g A4h A4i A4j A4k A4l A4m A4n A4o A4p A4q A4r A4s A4t A4u tW tX tY tZ t4 t5 t6 t7 t8 t9 uA uB uC uD uE uF uG uH uI uJ uK uL uM uN uO uP uQ uR uS uT uU uV uW uX uY uZ u3 u4
set_option maxRecDepth 100000
set_option maxHeartbeats 4000000
variable {f g c:List AD} {p q Q:List Int} {n b S:Int} {h:AE} {m i k:Nat} {s x y:ByteArray} {l V:List (Int×Int)} {Z:List (List (Int×Int))} {A:List (List AD)} {v w:Int->Int} {Y:Type} {a:Int->Nat} {X d:Ds} {W:List (Int×Bool)} {U:List (List Int)} {T:Int×Int} {R:List Bool} {P:Program} {t:TypeId} {O:AD} {N:AP}
theorem UL {n:Int}:∀ {l seen:List (Int×Int)},GU n seen l=0->∀a∈l,0<=a.1/\0<=a.2/\a.2<n
 | [],_,_,a,ha=>by cases ha
 | x :: l,seen,h,a,ha=>by
  simp only[GU]at h;split at h
  .cases h
  split at h
  .cases h
  rename_i h1 _;rcases BY.1 ha with rfl|ha
  .omega
  exact UL h a ha
theorem UM {m:Int}:∀ {f:List (Int×List (Int×Int))},J2 m f=0->∀x∈f,0<=x.1/\∀a∈x.2,0<=a.1/\0<=a.2/\a.2<m
 | [],_,x,c=>by cases c
 | y :: f,h,x,c=>by
  simp only[J2]at h;split at h
  .cases h
  split at h
  .rename_i h1 b;exact absurd h b
  rename_i h1 b;have b:Oj y.2 m=0:=DO b;rcases BY.1 c with rfl|c
  .exact⟨by omega,UL b⟩
  exact UM h x c
def w9 (f:List (Int×List (Int×Int))):Prop:=∀x∈f,x.2.length<=100000
theorem UN {f:List (Int×List (Int×Int))} (h:FQ f=0) (hs:w9 f):Aa f/\0<f.length:=by
 unfold FQ at h;split at h
 .cases h
 split at h
 .cases h
 refine⟨⟨by omega,λx b=>⟨hs x b,λa ha=>?_⟩⟩,by omega⟩;have:=(UM h x b).2 a ha;exact⟨this.2.1,this.2.2⟩
def Ck (f:List AD):List AD×Int:=if FQ f=0 then (UF f 0,0) else ([],FQ f)
section
attribute [local go_sem] GE
theorem A39 {α:Type} (d:α) {l:List α} {k:Nat} (h:k<l.length):l.drop k=l.getD k d :: l.drop (k+1):=by
 rw[OF h];have e:l.getD k d=l[k]:=by simp[AS,h]
 rw[e]
end
section
attribute [local go_sem] GE R5
def bI (l:List (Int×Int)):List (Int×Bool):=l.foldl (λm a=>Em T3 .bool a.1 true m) []
theorem UO {b:Ty} (x k:Int) (v:b.den) (m:List (Int×b.den)):BO T3 b x (Em T3 b k v m)=if x=k then some v else BO T3 b x m:=by
 induction m with
 | nil=>simp[Em,BO,Gn]
 | cons y m g =>
  simp only[Em];by_cases c:Gn T3 k y.1=true
  .rw[At c];have d:k=y.1:=by simpa[Gn] using c
   simp only[BO,Gn,AA3];by_cases a:x=k
   .rw[At a,At a]
   rw[As a,As a,As (by rw[<-d];exact a)]
  rw[As c];have d:¬k=y.1:=by simpa[Gn] using c
  simp only[BO];by_cases a:Gn T3 x y.1=true
  .have f:x=y.1:=by simpa[Gn] using a
   rw[At a,At a,As (by rw[f];exact λe=>d e.symm)]
  rw[As a,As a,g]
theorem pL (x:Int) (l:List (Int×Int)):(BO T3 .bool x (bI l)).getD false=l.any λy=>y.1==x:=by
 induction l using Fv with
 | h0=>rfl
 | h1 l a c =>
  have e:bI (l++[a])=Em T3 .bool a.1 true (bI l):=by unfold bI;rw[AB7];rfl
  rw[e,UO,ABL,<-c];by_cases h:x=a.1
  .rw[At h,h];simp
  rw[As h];have b:¬a.1=x:=λe=>h e.symm;simp[b]
def FI (x:AD) (n:Int):Int:=if x.1<0 then 2 else Oj x.2 n
def UP:AX:={ ins:=[dC,T3],pre:=λ_=>True,out:=λ(x,n,_)=>[.p DD (FI x n)] }
attribute [local go_sem] UP
theorem gZ:Ac Tryz.prog 91 UP:=by
 refine fK [0,1,2,4,5,7,10,13,14,15,16,32,36] Tryz.func91 Tryz.ntmps91 AI ?_;rintro w0 O0 ⟨⟨t,l⟩,n,u⟩ d ⟨⟨-,⟨o,-⟩⟩,-⟩ -;simp only[AO]at o;simp only[UP,AM];repeat'(first|exact trivial|apply eS rfl|refine rX d ?_ ?_|refine rC ?_ ?_<;>intro b<;>try(cases b;done))
 .have h1:FI (t,l) n=2:=At b;exact fI d [.tmp 4] (by rw[h1];exact eR)
 have h0:FI (t,l) n=GU n [] l:=As (AAS.2 b);rw[h0];refine AJ (ι:={k:Nat//k<=List.length l/\GU n [] l=GU n ((l:List (Int×Int)).take k) ((l:List (Int×Int)).drop k)}) (λk=>⟨[(1,.p T3 n),(5,.mp 11),(13,.p VY l),(14,.p (.int .i64) (List.length l:Int)),(15,.p (.int .i64) (k.1:Int))],[(11,.mapo T3 .bool (bI ((l:List (Int×Int)).take k.1)))]⟩) (λk=>List.length l-k.1) ⟨0,Do _,rfl⟩ (AC [(11,.nm 11)] rfl rfl ?_ ?_) (λk=>?_)
 .refine eM ?_;rfl
 .exact eN
 obtain⟨k,hk,f⟩:=k;have g:=λh:k<l.length=>gX n l h;have q:=λh:k<l.length=>Wg (λ(m:List (Int×Bool)) (a:Int×Int)=>Em T3 .bool a.1 true m) l (0,0) [] h;have i:=λx=>pL x (List.take k (l:List (Int×Int)));simp only;repeat'(first|exact trivial|apply eS rfl|apply AB|refine rX d ?_ ?_|refine rC ?_ ?_<;>intro b<;>try(cases b;done))
 .exact b
 .have c:k<List.length l:=by exact eV
  have e:GU n [] l=2:=by rw[f,g c,At O1]
  exact fI d [.tmp 4] (by rw[e];exact eR)
 .have c:k<List.length l:=by exact eV
  rw[i]at b;have e:GU n [] l=4:=by rw[f,g c,As O1,At b]
  exact fI d [.tmp 4] (by rw[e];exact eR)
 .exact eV
 .have c:k<List.length l:=by exact eV
  rw[i]at b;refine⟨⟨k+1,c,by rw[f,g c,As O1,As (by rw[b];simp)]⟩,by simp only;omega,AC [(11,.nm 11)] rfl rfl ?_ ?_⟩
  .refine eM ?_;exact(q c).symm
  exact eN
 have j:List.drop k (l:List (Int×Int))=[]:=ON (by exact eV);have e:GU n [] l=0:=by rw[f,j];rfl
 exact fI d [.tmp 4] (by rw[e];exact eR)
theorem bJ {n:Int}:∀ {l seen:List (Int×Int)},GU n seen l=0->(∀a∈l,∀b∈seen,b.1≠a.1)/\bE l
 | [],_,_=>⟨λa ha=>(by cases ha),List.Pairwise.nil⟩
 | x :: l,seen,h=>by
  simp only[GU]at h;split at h
  .cases h
  split at h
  .cases h
  rename_i h1 g;obtain⟨c,f⟩:=bJ h;refine⟨λa ha b d=>?_,AAf.2 ⟨λa ha e=>c a ha x sc e,f⟩⟩;rcases BY.1 ha with rfl|ha
  .intro e;exact g (VK.2 ⟨b,d,by simp[e]⟩)
  exact c a ha b (by simp[d])
theorem bK {m:Int}:∀ {f:List AD},J2 m f=0->∀x∈f,bE x.2
 | [],_,x,b=>by cases b
 | y :: f,h,x,b=>by
  simp only[J2]at h;split at h
  .cases h
  split at h
  .rename_i h1 a;exact absurd h a
  rename_i h1 a;have a:Oj y.2 m=0:=DO a;rcases BY.1 b with rfl|b
  .exact(bJ a).2
  exact bK h x b
def Q1 (f:List AD):Prop:=∀x∈f,SS x.2
theorem bL (h:FQ f=0) (hs:Q1 f):NdF f:=by
 unfold FQ at h;split at h
 .cases h
 split at h
 .cases h
 exact λx a=>⟨bK h x a,hs x a⟩
def Ol:AX:={ ins:=[MM],pre:=λ(f,_)=>Q1 f,out:=λ(f,_)=>[.p MM (Ck f).1,.p DD (Ck f).2] }
attribute [local go_sem] Ol
theorem pM:Ac Tryz.prog 49 Ol:=by
 refine fK [0,1,2,3,5,6,10,15,18,19,20,21,30] Tryz.func49 Tryz.ntmps49 (AF gZ (AF pK AI)) ?_;rintro w0 O0 ⟨f,u⟩ c ⟨⟨n,-⟩,-⟩ hs;simp only[AO]at n;have hs:Q1 f:=hs;have l:w9 f:=λx o=>gO (hs x o).1 O1;simp only[Ol,AM];repeat'(first|exact trivial|apply eS rfl|refine rX c ?_ ?_|refine rC ?_ ?_<;>intro a<;>try(cases a;done))
 .have h1:FQ f=1:=by
   have h:f.length=0:=by exact eV
   unfold FQ;rw[At h]
  have e:Ck f=([],1):=by unfold Ck;rw[h1];rfl
  exact fI c [.cell 2 34,.tmp 3] (by rw[e];exact eR)
 .have h1:FQ f=7:=by
   have h:¬f.length=0:=by exact eV
   have i:4096<f.length:=by exact eV
   unfold FQ;rw[As h,At i]
  have e:Ck f=([],7):=by unfold Ck;rw[h1];rfl
  exact fI c [.cell 2 34,.tmp 3] (by rw[e];exact eR)
 have h1:FQ f=J2 f.length f:=by
  have h:¬f.length=0:=by exact eV
  have i:¬4096<f.length:=by exact eV
  unfold FQ;rw[As h,As i]
 have j:0<f.length:=by exact eV
 refine AJ (ι:={k:Nat//k<=f.length/\J2 f.length (f.drop k)=FQ f}) (λk=>⟨[(1,.bp 1 [] 0),(2,.bp 2 [] 0),(18,.p VZ f),(19,.p (.int .i64) (f.length:Int)),(20,.p (.int .i64) (k.1:Int))],[(1,.box 34 true [.p VZ f]),(2,.box 34 true [.raw (.slice none 0 0)])]⟩) (λk=>f.length-k.1) ⟨0,by simp[h1]⟩ (eW [(1,.nm 1),(2,.nm 2)]) (λk=>?_)
 obtain⟨k,hk,hf⟩:=k;simp only;repeat'(first|exact trivial|apply eS rfl|apply AB|refine rX c ?_ ?_|refine rC ?_ ?_<;>intro a<;>try(cases a;done))
 .exact a
 .have g:k<f.length:=by exact eV
  have a:¬FI (f.getD k (0,[])) f.length=0:=a;have m:FQ f=FI (f.getD k (0,[])) f.length:=by
   rw[<-hf,UK _ _ g];unfold FI at a ⊢;by_cases b:(f.getD k (0,[])).1<0
   .rw[At b,At b]
   rw[As b]at a;rw[As b,As b,At a]
  have e:Ck f=([],FI (f.getD k (0,[])) f.length):=by unfold Ck;rw[m,As a]
  exact fI c [.cell 2 34,.tmp 3] (by rw[e];exact eR)
 .exact eV
 .have g:k<f.length:=by exact eV
  have a:FI (f.getD k (0,[])) f.length=0:=by simpa using a
  refine⟨⟨k+1,g,?_⟩,by simp only;omega,AC [(1,.nm 1),(2,.nm 2)] rfl rfl ?_ ?_⟩
  .rw[<-hf,UK _ _ g];unfold FI at a;by_cases b:(f.getD k (0,[])).1<0
   .rw[At b]at a;cases a
   rw[As b]at a;rw[As b,As (by rw[a];simp)]
  .exact eN
  exact eN
 .have d:FQ f=0:=by rw[<-hf,ON (by exact eV)];rfl
  exact⟨(UN d l).1,bL d hs,iN.2 j⟩
 have d:FQ f=0:=by rw[<-hf,ON (by exact eV)];rfl
 have e:Ck f=(AQ (DE f) 0,0):=by unfold Ck;rw[At d,Q0 (UN d l).1 (bL d hs) (ABg 0) (iN.2 j)]
 exact fI c [.cell 2 34,.tmp 3] (by rw[e];exact eR)
end
def J3 (h:AE) (f:Int):Int:=(h.2.getD f.toNat (ByteArray.empty,0)).2
def LF (h:AE) (n:Int):List (Int×Int)->Ds->Option Ds
 | [],s=>some s
 | a :: l,s=>(Cw h s n (J3 h a.1)).bind (LF h n l)
def L9 (h:AE) (n:Int):List (Int×Int)->Ds->Option Ds
 | [],s=>some s
 | a :: l,s=>if (Cc h (s.1.getD n.toNat 0) a.1).2=true then (Cw h s a.2 (Cc h (s.1.getD n.toNat 0) a.1).1).bind (L9 h n l) else none
def J4 (h:AE) (f:List AD) (n:Int) (s:Ds):Option Ds:=(LF h n (f.getD n.toNat (0,[])).2 s).bind (L9 h n (f.getD n.toNat (0,[])).2)
def rB (h:AE) (f:List AD):Nat->Nat->Ds->Option (List Int)
 | 0,_,_=>none
 | k+1,i,s=>if i<s.2.length then (J4 h f (s.2.getD i 0) s).bind (rB h f k (i+1)) else some s.1
def Ba (f:List AD):List Int:=f.map λx=>x.1
def Dy (f:List AD):List Int:=(List.range f.length).map λi:Nat=>(i:Int)
def ET (f:List AD) (ty:List Int):List AD:=(List.range f.length).map λi=>(ty.getD i 0,(f.getD i (0,[])).2)
structure dF (h:AE):Prop where
 int:∀x∈h.2,0<=x.2/\x.2<(h.1.length:Int)
 val:∀t∈h.1,∀p∈t.2.2.2,0<=p.2/\p.2<(h.1.length:Int)
structure MA (h:AE) (m:Nat) (s:Ds):Prop where
 len:s.1.length=m
 ty:∀t∈s.1,0<=t/\t<(h.1.length:Int)
 wt:∀n∈s.2,0<=n/\n<(m:Int)
theorem MA.get {s:Ds} (hs:MA h m s) (n0:0<=n) (n1:n<(m:Int)):0<=s.1.getD n.toNat 0/\s.1.getD n.toNat 0<(h.1.length:Int):=by
 have a:n.toNat<s.1.length:=by rw[hs.len];omega
 rw[AS,An a];exact hs.ty _ (AAo a)
def pO (h:AE) (t:Int):Nat:=((List.range h.1.length).filter λi:Nat=>Ad h t (i:Int)).length
def Wj (h:AE) (ty:List Int):Nat:=(ty.map (pO h)).sum
theorem Wk {α:Type} {p q:α->Bool}:∀ {l:List α},(∀x∈l,q x=true->p x=true)->(∃b∈l,p b=true/\q b=false)->(l.filter q).length<(l.filter p).length
 | [],_,⟨b,c,_⟩=>by cases c
 | x :: l,h1,⟨b,c,f,g⟩=>by
  have i:∀ {l:List α},(∀x∈l,q x=true->p x=true)->(l.filter q).length<=(l.filter p).length:=by
   intro l h;induction l with
   | nil=>exact OS _
   | cons y l j =>
    have e:=j λz d=>h z (GO _ d);rw[AAp,AAp];by_cases a:q y=true
    .rw[At a,At (h y sc a)];simp only[NO];omega
    rw[As a];split
    .simp only[NO];omega
    exact e
  rw[AAp,AAp];rcases BY.1 c with rfl|c
  .rw[As (by rw[g];simp),At f];have:=i λz d=>h1 z (GO _ d);simp only[NO];omega
  have e:=Wk (λz d=>h1 z (GO _ d)) ⟨b,c,f,g⟩;by_cases a:q x=true
  .rw[At a,At (h1 x sc a)];simp only[NO];omega
  rw[As a];split
  .simp only[NO];omega
  exact e
theorem R6 (hk:GC h) {a:Int} (b:0<=a) (c:a<(h.1.length:Int)):Ad h a a=true:=(Bq hk b c b c).2 λ_ h=>h
theorem Gh (hk:GC h) {a c:Int} (d:0<=a) (e:a<(h.1.length:Int)) (f:0<=b) (b1:b<(h.1.length:Int)) (c0:0<=c) (c1:c<(h.1.length:Int)) (h1:Ad h a b=true) (g:Ad h b c=true):Ad h a c=true :=
 (Bq hk d e c0 c1).2 λi hi=>(Bq hk d e f b1).1 h1 i ((Bq hk f b1 c0 c1).1 g i hi)
theorem A1y (hk:GC h) (hi:IH h) {a m:Int} (b:0<=a) (c:a<(h.1.length:Int)) (f:0<=m) (g:m<(h.1.length:Int)) (hs:Ad h a m=true) (i:m≠a):pO h m<pO h a:=by
 refine Wk (λx d e=>?_) ⟨a.toNat,oN.2 O1,?_,?_⟩
 .have d:=oN.1 d;exact Gh hk b c f g (AAq _) O1 hs e
 .rw[AAX b];exact R6 hk b c
 rw[AAX b];cases e:Ad h m a with
 | false=>rfl
 | true=>exact absurd (hi m a f g b c e hs) i
theorem lK {α:Type} (g:α->Nat) (d:α):∀ {l:List α} {i:Nat} {v:α},i<l.length->((l.set i v).map g).sum+g (l.getD i d)=(l.map g).sum+g v
 | [],i,v,h=>by simp at h
 | x :: l,0,v,h=>by simp only[ACc,AA2,List.sum_cons,List.getD_cons_zero];omega
 | x :: l,i+1,v,h=>by
  have:=lK g d (l:=l) (i:=i) (v:=v) (by simpa using h);simp only[List.set_cons_succ,AA2,List.sum_cons,List.getD_cons_succ];omega
theorem EO (hk:GC h) (hi:IH h) {s b:Ds} (hs:MA h m s) {t:Int} (n0:0<=n) (n1:n<(m:Int)) (o:0<=t) (p:t<(h.1.length:Int)) (e:Cw h s n t=some b) :
  MA h m b/\Wj h b.1+b.2.length<=Wj h s.1+s.2.length/\s.2.length<=b.2.length:=by
 obtain⟨c,d⟩:=hs.get n0 n1;unfold Cw at e;split at e
 .rename_i j;obtain⟨f,g,l,u⟩:=(K9 hk c d o p).1 j;generalize (Cb h (s.1.getD n.toNat 0) t).1=v at *;injection e with e
  split at e
  .subst e;exact⟨hs,OS _,OS _⟩
  rename_i k;subst e;have r:=A1y hk hi c d f g l k;have i:n.toNat<s.1.length:=by rw[hs.len];omega
  have q:=lK (pO h) 0 (v:=v) i;refine⟨⟨by simp only[AAc];exact hs.len,λx a=>?_,λx a=>?_⟩,?_,by simp⟩
  .rcases AAN a with a|rfl
   .exact hs.ty x a
   exact⟨f,g⟩
  .rcases IS.1 a with a|a
   .exact hs.wt x a
   rw[oF.1 a];exact⟨n0,n1⟩
  unfold Wj;simp only[If,nO];omega
 cases e
def J5 (h:AE) (m:Nat) (a:Int×Int):Prop:=(0<=a.1/\a.1<(h.2.length:Int))/\0<=a.2/\a.2<(m:Int)
theorem LG (hf:dF h) {f:Int} (b:0<=f) (c:f<(h.2.length:Int)):0<=J3 h f/\J3 h f<(h.1.length:Int):=by
 have a:f.toNat<h.2.length:=by omega
 unfold J3;rw[AS,An a];exact hf.int _ (AAo a)
theorem Wl {f:Int}:∀ {l:List (Int×Int)},(Ei f l).2=true->(f,(Ei f l).1)∈l
 | [],h=>by cases h
 | x :: l,h=>by
  unfold Ei at h ⊢;split
  .rename_i e;rw[<-e];simp
  rename_i e;rw[As e]at h;exact GO _ (Wl h)
theorem pP {t:Int} (a:0<=t) (b:t<(h.1.length:Int)):h.1.getD t.toNat Qv∈h.1:=AG h.1 Qv O1
theorem Iq (hf:dF h) {t f:Int} (a:0<=t) (b:t<(h.1.length:Int)) (e:(Cc h t f).2=true):0<=(Cc h t f).1/\(Cc h t f).1<(h.1.length:Int) :=
 hf.val _ (pP a b) _ (Wl e)
theorem Om {h:AE} (hk:GC h) (hi:IH h) (hf:dF h) {m:Nat} {n:Int} (n0:0<=n) (n1:n<(m:Int)):∀ {l:List (Int×Int)} {s c:Ds},(∀a∈l,J5 h m a)->MA h m s->LF h n l s=some c ->
  MA h m c/\Wj h c.1+c.2.length<=Wj h s.1+s.2.length/\s.2.length<=c.2.length
 | [],s,c,_,hs,e=>by
  injection e with e
  subst e;exact⟨hs,OS _,OS _⟩
 | a :: l,s,c,f,hs,e=>by
  unfold LF at e;cases d:Cw h s n (J3 h a.1) with
  | none=>rw[d]at e;cases e
  | some s1 =>
   rw[d]at e;obtain⟨⟨g,i⟩,-⟩:=f a sc;obtain⟨o,p⟩:=LG hf g i;obtain⟨j,r,t⟩:=EO hk hi hs n0 n1 o p d;obtain⟨q,u,v⟩:=Om hk hi hf n0 n1 (λb k=>f b (by simp[k])) j e;exact⟨q,by omega,by omega⟩
theorem R7 {h:AE} (hk:GC h) (hi:IH h) (hf:dF h) {m:Nat} {n:Int} (n0:0<=n) (n1:n<(m:Int)):∀ {l:List (Int×Int)} {s c:Ds},(∀a∈l,J5 h m a)->MA h m s->L9 h n l s=some c ->
  MA h m c/\Wj h c.1+c.2.length<=Wj h s.1+s.2.length/\s.2.length<=c.2.length
 | [],s,c,_,hs,e=>by
  injection e with e
  subst e;exact⟨hs,OS _,OS _⟩
 | a :: l,s,c,g,hs,e=>by
  unfold L9 at e;split at e
  .rename_i o;obtain⟨j,f⟩:=hs.get n0 n1;obtain⟨p,q⟩:=Iq hf j f o;cases d:Cw h s a.2 (Cc h (s.1.getD n.toNat 0) a.1).1 with
   | none=>rw[d]at e;cases e
   | some s1 =>
    rw[d]at e;obtain⟨-,i,b1⟩:=g a sc;obtain⟨f,t,u⟩:=EO hk hi hs i b1 p q d;obtain⟨r,v,w⟩:=R7 hk hi hf n0 n1 (λb k=>g b (by simp[k])) f e;exact⟨r,by omega,by omega⟩
  cases e
def NI (h:AE) (f:List AD):Prop:=∀x∈f,∀a∈x.2,J5 h f.length a
theorem LH (ha:NI h f) (n0:0<=n) (n1:n<(f.length:Int)):∀a∈(f.getD n.toNat (0,[])).2,J5 h f.length a:=ha _ (AG f (0,[]) O1)
theorem UQ (hk:GC h) (hi:IH h) (hf:dF h) (ha:NI h f) (n0:0<=n) (n1:n<(f.length:Int)) {s a:Ds} (hs:MA h f.length s) (e:J4 h f n s=some a) :
  MA h f.length a/\Wj h a.1+a.2.length<=Wj h s.1+s.2.length/\s.2.length<=a.2.length:=by
 unfold J4 at e;cases b:LF h n (f.getD n.toNat (0,[])).2 s with
 | none=>rw[b]at e;cases e
 | some s1 =>
  rw[b]at e;obtain⟨c,g,i⟩:=Om hk hi hf n0 n1 (LH ha n0 n1) hs b;obtain⟨d,j,k⟩:=R7 hk hi hf n0 n1 (LH ha n0 n1) c e;exact⟨d,by omega,by omega⟩
theorem A1z (h:AE) (t:Int):pO h t<=h.1.length:=by
 unfold pO;exact gO (AAZ _ _) sc
theorem xA (h:AE):∀ty:List Int,Wj h ty<=ty.length*h.1.length
 | []=>by simp[Wj]
 | t :: ty=>by
  have h1:=xA h ty;have a:=A1z h t;unfold Wj at h1 ⊢;simp only[AA2,List.sum_cons,NO,ABR,Nat.one_mul];omega
def MV (h:AE) (f:List AD):Nat:=f.length*h.1.length+f.length+1
def HR (h:AE) (f:List AD):Option (List Int):=rB h f (MV h f) 0 (Ba f,Dy f)
def Dt (h:AE) (f:List AD):List AD×Bool:=match HR h f with
 | some ty=>(ET f ty,true)
 | none=>([],false)
theorem xB (a:∀x∈f,0<=x.1/\x.1<(h.1.length:Int)):MA h f.length (Ba f,Dy f):=by
 refine⟨by simp[Ba],λt h1=>?_,λn hn=>?_⟩
 .obtain⟨x,b,rfl⟩:=IF.1 h1;exact a x b
 obtain⟨i,hi,rfl⟩:=IF.1 hn;have:=oN.1 hi;omega
theorem xC (h:AE) (f:List AD):Wj h (Ba f)+(Dy f).length+1<=MV h f:=by
 have:=xA h (Ba f);unfold MV;rw[show (Ba f).length=f.length by simp[Ba]]at this;rw[show (Dy f).length=f.length by simp[Dy]];omega
def inF (l:List Int) (n:Int):Bool:=l.any λx=>x==n
def bM:AX:={ ins:=[T3],pre:=λ_=>True,out:=λ(t,_)=>[.p MM [(t,[])]] }
theorem A1A:Ac Tryz.prog 31 bM:=by
 refine fK [0,2] Tryz.func31 Tryz.ntmps31 AI ?_;rintro w0 O0 ⟨t,u⟩ a - -;simp only[bM,AM];repeat'(first|exact trivial|apply eS rfl|apply AB|refine rX a ?_ ?_|refine rC ?_ ?_<;>intro b<;>try(cases b;done))
 exact fI a [.cell 2 34]
theorem bN (l:List (Int×Int)):Og l↔l.Pairwise (λa b=>a.1<b.1):=by
 constructor
 .intro h;rw[mX];have key:∀d i,i+d+1<l.length->(l.getD i (0,0)).1<(l.getD (i+d+1) (0,0)).1:=by
   intro d;induction d with
   | zero=>intro i hi;exact h i hi
   | succ d e =>
    intro i hi;have h1:=e i O1;have f:=h (i+d+1) O1;have:i+(d+1)+1=i+d+1+1:=by omega
    rw[this];omega
  intro i j hi c g;have h1:=key (j-i-1) i O1;rw[show i+(j-i-1)+1=j by omega]at h1;simpa[AS,hi,c] using h1
 intro h i hi;rw[mX]at h;have:=h i (i+1) O1 hi O1;simpa[AS,hi,show i<l.length by omega] using this
def J6 (l:List Int):List (Int×Bool):=l.foldl (λm x=>Em T3 .bool x true m) []
theorem g8 {b:Ty} (x k:Int) (v:b.den) (m:List (Int×b.den)):BO T3 b x (Em T3 b k v m)=if x=k then some v else BO T3 b x m:=by
 induction m with
 | nil=>simp[Em,BO,Gn]
 | cons y m g =>
  simp only[Em];by_cases c:Gn T3 k y.1=true
  .rw[At c];have d:k=y.1:=by simpa[Gn] using c
   simp only[BO,Gn,AA3];by_cases a:x=k
   .rw[At a,At a]
   rw[As a,As a,As (by rw[<-d];exact a)]
  rw[As c];have d:¬k=y.1:=by simpa[Gn] using c
  simp only[BO];by_cases a:Gn T3 x y.1=true
  .have f:x=y.1:=by simpa[Gn] using a
   rw[At a,At a,As (by rw[f];exact λe=>d e.symm)]
  rw[As a,As a,g]
theorem A1B (l:List Int) (x:Int):(BO T3 .bool x (J6 l)).getD false=inF l x:=by
 induction l using Fv with
 | h0=>rfl
 | h1 l a c =>
  have e:J6 (l++[a])=Em T3 .bool a true (J6 l):=by simp[J6]
  rw[e,g8];by_cases b:x=a
  .rw[At b];subst b;simp[inF]
  rw[As b,c];simp only[inF,ABL,List.any_cons,List.any_nil,ABN];have:(a==x)=false:=by simpa using λe=>b e.symm
  rw[this,ABN]
def ftR (h:AE) (a:Int×Int):Bool:=decide (a.1<(h.2.length:Int))
def ndR (h:AE) (x:AD):Bool:=decide (x.1<(h.1.length:Int))&&x.2.all (ftR h)
def lL (h:AE) (f:List AD):Int:=if (Ck f).2≠0 then (Ck f).2 else if f.all (ndR h)=false then 2 else if (w8 f (Ck f).1==0)=false then 3 else 0
section
attribute [local go_sem] Qx MT
def Pz (h:AE) (f:List AD) (t:Int):List (Int×Int)->Int
 | []=>0
 | a :: l=>if (Cc h t a.1).2=false then 10 else if Ad h (Cc h t a.1).1 (f.getD a.2.toNat (0,[])).1=false then 11 else Pz h f t l
def LI (h:AE) (f:List AD):List AD->Int
 | []=>0
 | x :: l=>if Pz h f x.1 x.2=0 then LI h f l else Pz h f x.1 x.2
def YV (h:AE) (f:List AD):Int:=if lL h f=0 then LI h f f else lL h f
end
section
attribute [local go_sem] Qx OB
theorem xD (hk:GC h) {a:Int} (c:0<=a) (d:a<(h.1.length:Int)) (e:0<=b) (b1:b<(h.1.length:Int)):EL (BV h b) (BV h a)=Ad h a b:=by
 have f:=hk.1.wds _ (CJ c d);have g:=hk.1.wds _ (CJ e b1);rw[ABm,Er g f];exact(Bq hk c d e b1).symm
def UR:AX:={ ins:=[GL,T3,T3],pre:=λ(h,a,b,_)=>(((0:Int)<=a/\a<(List.length (h:AE).1:Int))/\((0:Int)<=b/\b<(List.length (h:AE).1:Int)))/\GC h,out:=λ(h,a,b,_)=>[.p .bool (Ad h a b)],lend:=true }
attribute [local go_sem] UR
theorem xE:Ac Tryz.prog 37 UR:=by
 refine fK [0,1,2,3,6] Tryz.func37 Tryz.ntmps37 (AF Pj AI) ?_;rintro w0 O0 ⟨⟨e,hf⟩,a,b,u⟩ d-⟨⟨ha,c⟩,hk⟩;have hk:GC (e,hf):=hk;have f:=xD hk ha.1 ha.2 c.1 c.2;have g:(BV (e,hf) b).length<=100000:=gO (hk.1.wid _ (CJ c.1 c.2)) O1;simp only[UR,AM];repeat'(first|exact trivial|apply eS rfl|refine rX d ?_ ?_)
 .exact⟨c,ha,g⟩
 exact fI d [.tmp 6] (by rw[<-f];unfold BV;exact eR)
end
section
attribute [local go_sem] MT
def Br (l:List (Int×Int)) (e:Int):Int:=match l with
 | []=>-1
 | a :: l=>if a.1=e then a.2 else Br l e
theorem Wm (e:Int) (l:List (Int×Int)) {k:Nat} (h:k<l.length):Br (l.drop k) e=if (l.getD k (0,0)).1=e then (l.getD k (0,0)).2 else Br (l.drop (k+1)) e:=by
 rw[OF h];have e:l.getD k (0,0)=l[k]:=by simp[AS,h]
 rw[e];rfl
end
section
attribute [local go_sem] MT
structure xF (a b:List AD) (m:List Int):Prop where
 len:m.length=a.length
 rng:∀x∈m,x<(b.length:Int)
theorem Oo {n:Int} (hn:0<=n):∀ {l:List (Int×Int)} (e:Int),(∀x∈l,x.2<n)->Br l e<n
 | [],_,_=>by simp only[Br];omega
 | x :: l,e,h=>by
  simp only[Br];split
  .exact h x sc
  exact Oo hn e (λy a=>h y (by simp[a]))
theorem xF.set {a b:List AD} {m:List Int} (h:xF a b m) (k:Nat) {v:Int} (d:v<(b.length:Int)):xF a b (m.set k v):=by
 refine⟨by simp[h.len],λx c=>?_⟩;rcases AAN c with c|c
 .exact h.rng x c
 rw[c];exact d
theorem xF.get {a b:List AD} {m:List Int} (h:xF a b m) (c:0<b.length) (k:Nat):m.getD k 0<(b.length:Int):=by
 rw[AS];cases hh:m[k]? with
 | none=>show (0:Int)<_;omega
 | some x=>exact h.rng x (AAm hh)
def DP (h:AE) (f:List AD):Prop:=∀x∈f,0<=x.1/\x.1<(h.1.length:Int)
theorem Oq (hf:Aa f) (k:Nat):∀x∈(f.getD k (0,[])).2,0<=x.2/\x.2<(f.length:Int):=by
 intro x a;by_cases h:k<f.length
 .exact(hf.2 _ (AG f (0,[]) h)).2 x a
 rw[AS,oS O1]at a;cases a
end
def Wn (s:ByteArray):Nat->List FE->Int
 | _,[]=>-1
 | k,x :: l=>if AL x.1 s=true then (k:Int) else Wn s (k+1) l
def Ap (h:AE) (s:ByteArray):Int:=Wn s 0 h.1
def g9 (s:ByteArray):Nat->List Qu->Int
 | _,[]=>-1
 | k,x :: l=>if AL x.1 s=true then (k:Int) else g9 s (k+1) l
def BN (h:AE) (s:ByteArray):Int:=g9 s 0 h.2
theorem YW (s:ByteArray):∀(l:List FE) (k:Nat),Wn s k l=-1\/((k:Int)<=Wn s k l/\Wn s k l<((k+l.length:Nat):Int))
 | [],_=>.inl rfl
 | x :: l,k=>by
  unfold Wn;split
  .exact .inr ⟨ABg _,by simp only[NO];omega⟩
  have:=YW s l (k+1);simp only[NO];omega
theorem lM (s:ByteArray):∀(l:List Qu) (k:Nat),g9 s k l=-1\/((k:Int)<=g9 s k l/\g9 s k l<((k+l.length:Nat):Int))
 | [],_=>.inl rfl
 | x :: l,k=>by
  unfold g9;split
  .exact .inr ⟨ABg _,by simp only[NO];omega⟩
  have:=lM s l (k+1);simp only[NO];omega
theorem C4 (h:AE) (s:ByteArray):-1<=Ap h s/\Ap h s<(h.1.length:Int):=by
 have:=YW s h.1 0;unfold Ap;omega
theorem Fx (h:AE) (s:ByteArray):-1<=BN h s/\BN h s<(h.2.length:Int):=by
 have:=lM s h.2 0;unfold BN;omega
structure LW where
 list:Int
 cons:Int
 null:Int
 dlist:Int
 first:Int
 rest:Int
 head:Int
 last:Int
def sb (l:List UInt8):ByteArray:=⟨l.toArray⟩
def D0 (h:AE):LW:=⟨Ap h (sb [108,105,115,116]),Ap h (sb [99,111,110,115]),Ap h (sb [110,117,108,108]),Ap h (sb [100,108,105,115,116]),BN h (sb [70,73,82,83,84]),BN h (sb [82,69,83,84]),BN h (sb [76,73,83,84]),BN h (sb [76,65,83,84])⟩
def RU (h:AE):Bool:=decide (0<=(D0 h).list/\0<=(D0 h).cons/\0<=(D0 h).null/\0<=(D0 h).dlist/\0<=(D0 h).first/\0<=(D0 h).rest/\0<=(D0 h).head/\0<=(D0 h).last)&&Ad h (D0 h).list (D0 h).cons&&Ad h (D0 h).list (D0 h).null
def Wo (w:LW) (row:List (Int×Int)):Bool:=decide (Br row w.first<0)&&decide (Br row w.rest<0)
def Wp (w:LW) (row:List (Int×Int)):Bool:=decide (0<=Br row w.first)&&decide (0<=Br row w.rest)
def hJ (h:AE) (w:LW) (x:AD):Bool:=Ad h w.null x.1&&Wo w x.2
def US (h:AE) (w:LW) (x:AD):Bool:=Ad h w.cons x.1&&Wp w x.2
def Wq (h:AE) (w:LW) (x:AD):Bool:=Ad h x.1 w.cons&&Wo w x.2
def K0 (h:AE) (w:LW) (x:AD):Int:=if hJ h w x=true then 1 else if US h w x=true then 2 else if Wq h w x=true then 3 else 0
theorem Wr {w:LW} {x:AD} (e:K0 h w x=2):0<=Br x.2 w.first/\0<=Br x.2 w.rest:=by
 unfold K0 at e;split at e
 .cases e
 split at e
 .rename_i a;unfold US Wp at a;simp only[AT,IN]at a;exact a.2
 split at e<;>cases e
theorem xG (e:RU h=true):(0<=(D0 h).first/\0<=(D0 h).rest)/\0<=(D0 h).cons/\0<=(D0 h).null/\0<=(D0 h).list/\0<=(D0 h).dlist/\0<=(D0 h).head/\0<=(D0 h).last:=by
 unfold RU at e;rw[AT,AT,IN]at e;obtain⟨⟨⟨h1,a,b,c,d,f,g,i⟩,-⟩,-⟩:=e;exact⟨⟨d,f⟩,a,b,h1,c,g,i⟩
section
theorem bO (s:ByteArray) (l:List FE) {k:Nat} (h:k<l.length):Wn s k (l.drop k)=if AL (l.getD k Qv).1 s=true then (k:Int) else Wn s (k+1) (l.drop (k+1)):=by
 rw[OF h];have e:l.getD k Qv=l[k]:=by simp[AS,h]
 rw[e];rfl
theorem xH (s:ByteArray) (l:List Qu) {k:Nat} (h:k<l.length):g9 s k (l.drop k)=if AL (l.getD k (ByteArray.empty,0)).1 s=true then (k:Int) else g9 s (k+1) (l.drop (k+1)):=by
 rw[OF h];have e:l.getD k (ByteArray.empty,0)=l[k]:=by simp[AS,h]
 rw[e];rfl
def Ot:AX:={ ins:=[GL,T9],pre:=λ_=>True,out:=λ(h,s,_)=>[.p T3 (Ap h s)],lend:=true }
attribute [local go_sem] Ot
theorem lN:Ac Tryz.prog 23 Ot:=by
 refine fK [0,1,2,4,5,10,20] Tryz.func23 Tryz.ntmps23 AI ?_;rintro w0 O0 ⟨⟨a,hf⟩,s,u⟩ e ⟨⟨⟨g,-⟩,-⟩,-⟩ -;simp only[AO]at g;simp only[Ot,AM];repeat'(first|exact trivial|apply eS rfl|apply AB|refine rX e ?_ ?_|refine rC ?_ ?_<;>intro b<;>try(cases b;done))
 refine AJ (ι:={k:Nat//k<=a.length/\Wn s k (a.drop k)=Ap (a,hf) s}) (λk=>⟨[(1,.p T9 s),(2,.bp 2 [] 0),(5,.p (.int .i64) (k.1:Int))],[(2,.box 26 true [.p Zu a,.p fB hf])]⟩) (λk=>a.length-k.1) ⟨0,Do _,rfl⟩ (eW [(2,.nm 2)]) (λk=>?_)
 obtain⟨k,hk,c⟩:=k;have f:=λh:k<a.length=>bO s a h;simp only;repeat'(first|exact trivial|apply eS rfl|apply AB|refine rX e ?_ ?_|refine rC ?_ ?_<;>intro b<;>try(cases b;done))
 .exact b
 .have d:k<a.length:=by exact eV
  rw[f d,At b]at c;exact fI e [.tmp 4] (by rw[<-c];exact eR)
 .omega
 .have d:k<a.length:=by exact eV
  rw[f d,As (by rw[b];simp)]at c;exact⟨⟨k+1,by omega,c⟩,by simp only;omega,eW [(2,.nm 2)]⟩
 have d:a.drop k=[]:=ON (by exact eV);rw[d]at c;exact fI e [.tmp 4] (by rw[<-c];first|exact eR|refine N9 ?_;rfl)
def KC:AX:={ ins:=[GL,T9],pre:=λ_=>True,out:=λ(h,s,_)=>[.p T3 (BN h s)],lend:=true }
attribute [local go_sem] KC
def xI:AX:=KC
attribute [local go_sem] xI
theorem UT:Ac Tryz.prog 81 KC:=by
 refine fK [0,1,2,4,5,6,8,9,10,11,20] Tryz.func81 Tryz.ntmps81 AI ?_;rintro w0 O0 ⟨⟨g,hf⟩,s,u⟩ b ⟨⟨-,f,-⟩,-⟩ -;simp only[AO]at f;simp only[KC,AM];repeat'(first|exact trivial|apply eS rfl|apply AB|refine rX b ?_ ?_|refine rC ?_ ?_<;>intro a<;>try(cases a;done))
 refine AJ (ι:={k:Nat//k<=hf.length/\g9 s k (hf.drop k)=BN (g,hf) s}) (λk=>⟨[(1,.p T9 s),(8,.p fB hf),(9,.p (.int .i64) (hf.length:Int)),(10,.p (.int .i64) (k.1:Int))],[]⟩) (λk=>hf.length-k.1) ⟨0,Do _,rfl⟩ (eW []) (λk=>?_)
 obtain⟨k,hk,c⟩:=k;have e:=λh:k<hf.length=>xH s hf h;simp only;repeat'(first|exact trivial|apply eS rfl|apply AB|refine rX b ?_ ?_|refine rC ?_ ?_<;>intro a<;>try(cases a;done))
 .exact a
 .refine cP 5 b ?_ ?_
  .trivial
  refine A7o (j:=.i64) b (by kernel_rfl) ?_;refine rL b ?_ ?_
  .trivial
  repeat'(first|exact trivial|apply eS rfl|apply AB|refine rX b ?_ ?_|refine rC ?_ ?_<;>intro a<;>try(cases a;done))
  .have d:k<hf.length:=by exact eV
   rw[e d,At a]at c;exact fI b [.tmp 4] (by rw[<-c];exact eR)
  .omega
  have d:k<hf.length:=by exact eV
  rw[e d,As (by rw[a];simp)]at c;exact⟨⟨k+1,by omega,c⟩,by simp only;omega,eW []⟩
 have d:hf.drop k=[]:=ON (by exact eV);rw[d]at c;exact fI b [.tmp 4] (by rw[<-c];first|exact eR|refine N9 ?_;rfl)
theorem A1C (s:ByteArray) (t:FE):A7 Tryz.prog 77 [.p fC t,.bp 1 [] 0] [(1,.box 9 false [.p T9 s])] [1] (λres c=>res=.p .bool (AL t.1 s)/\c=[(1,.box 9 false [.p T9 s])]):=by
 refine JP [0,1,2,3] [] [] Tryz.func77 Tryz.ntmps77 AI ?_;intro w0 K O0 ρ0 a d e;simp only[Am];repeat'(first|exact trivial|apply eS rfl|apply AB|refine rX a ?_ ?_|refine rC ?_ ?_<;>intro b<;>try(cases b;done))
 refine Ev.ent (σ':=⟨[(3,.p .bool (AL t.1 s))],[(1,.box 9 false [.p T9 s])]⟩) ?_ (AC [(1,.nm 1)] rfl rfl ?_ ?_)
 .exact fM a [.tmp 3] (.p .bool (AL t.1 s)) eT ⟨rfl,rfl⟩
 .exact eN
 exact eN
theorem pQ (l:List FE) (s:ByteArray):A7 Tryz.prog 76 [.p Zu l,.clo 77 [1]] [(1,.box 9 false [.p T9 s])] [1] (λres g=>res=.p T3 (Wn s 0 l)/\g=[(1,.box 9 false [.p T9 s])]):=by
 refine JP [0,1,4,5,7,8,9,16] [] [] Tryz.func76 Tryz.ntmps76 AI ?_;intro w0 K O0 ρ0 b e j;have i:l.length<=140737488355328:=e.1.1;simp only[Am];repeat'(first|exact trivial|apply eS rfl|apply AB|refine rX b ?_ ?_|refine rC ?_ ?_<;>intro a<;>try(cases a;done))
 refine AJ (ι:={k:Nat//k<=l.length/\Wn s k (l.drop k)=Wn s 0 l}) (λk=>⟨[(0,.p Zu l),(1,.clo 77 [1]),(7,.p (.int .i64) (l.length:Int)),(8,.p (.int .i64) (k.1:Int))],[(1,.box 9 false [.p T9 s])]⟩) (λk=>l.length-k.1) ⟨0,Do _,rfl⟩ (eW [(1,.nm 1)]) (λk=>?_)
 obtain⟨k,hk,hf⟩:=k;have f:=λh:k<l.length=>bO s l h;simp only;repeat'(first|exact trivial|apply eS rfl|apply AB|refine rX b ?_ ?_|refine rC ?_ ?_<;>intro a<;>try(cases a;done))
 .have c:k<l.length:=iN.1 a;have d:=f c;refine cP 5 b ?_ ?_
  .exact a
  refine rM b (A1C s (l.getD k Qv)) [(1,.nm 1)] [] ?_ ?_ ?_
  .exact eN
  .exact eN
  rintro _ _ ⟨rfl,rfl⟩;refine⟨[(1,.nm 1)],.p .bool (AL (l.getD k Qv).1 s),[(1,.box 9 false [.p T9 s])],rfl,rfl,?_,?_,rfl,rfl,Fu ?_⟩
  .exact eN
  .exact eN
  repeat'(first|exact trivial|apply eS rfl|apply AB|refine rX b ?_ ?_|refine rC ?_ ?_<;>intro a<;>try(cases a;done))
  .rw[At a,hf]at d;refine Ev.ent (σ':=⟨[(4,.p (.int .i64) (k:Int))],[(1,.box 9 false [.p T9 s])]⟩) ?_ (AC [(1,.nm 1)] rfl rfl ?_ ?_)
   .exact fM b [.tmp 4] (.p T3 (k:Int)) eT ⟨by rw[d],rfl⟩
   .exact eN
   exact eN
  .omega
  rw[As (by rw[a];simp)]at d;exact⟨⟨k+1,c,d.symm.trans hf⟩,by simp only;omega,eW [(1,.nm 1)]⟩
 have c:l.drop k=[]:=ON (AAe.1 a);rw[c]at hf;have hf:(-1:Int)=Wn s 0 l:=hf;refine Ev.ent (σ':=⟨[(4,.p (.int .i64) (-1))],[(1,.box 9 false [.p T9 s])]⟩) ?_ (AC [(1,.nm 1)] rfl rfl ?_ ?_)
 .exact fM b [.tmp 4] (.p T3 (-1)) eT ⟨by rw[hf],rfl⟩
 .exact eN
 exact eN
def Ou:AX:={ ins:=[GL,T9],pre:=λ_=>True,out:=λ(h,s,_)=>[.p T3 (Ap h s)],lend:=true }
attribute [local go_sem] Ou
theorem Ov:Ac Tryz.prog 33 Ou:=by
 refine fK [0,1,2,3,4] Tryz.func33 Tryz.ntmps33 AI ?_;rintro w0 O0 ⟨⟨c,hf⟩,s,u⟩ a - -;simp only[Ou,AM];refine Ev.ent (σ':=⟨[(0,.p GL (c,hf)),(1,.p T9 s)],[]⟩) ?_ (AC [] rfl rfl ?_ ?_)
 .repeat'(first|exact trivial|apply eS rfl|apply AB|refine rX a ?_ ?_|refine rC ?_ ?_<;>intro b<;>try(cases b;done))
  refine cP 3 a ?_ ?_
  .trivial
  refine rM a (pQ c s) [(1,.nm 3)] [] ?_ ?_ ?_
  .exact eN
  .exact eN
  rintro _ _ ⟨rfl,rfl⟩;refine⟨[(3,.nm 1)],.p T3 (Wn s 0 c),[(3,.box 9 false [.p T9 s])],rfl,rfl,?_,?_,rfl,rfl,?_⟩
  .exact eN
  .exact eN
  refine rL a ?_ ?_
  .trivial
  repeat'(first|exact trivial|apply eS rfl|apply AB|refine rX a ?_ ?_|refine rC ?_ ?_<;>intro b<;>try(cases b;done))
  exact fI a [.tmp 4] (by unfold Ap;exact eR)
 .exact eN
 exact eN
theorem A4F (h:AE):Ap h ⟨#[108,105,115,116]⟩=(D0 h).list/\Ap h ⟨#[99,111,110,115]⟩=(D0 h).cons/\Ap h ⟨#[110,117,108,108]⟩=(D0 h).null/\Ap h ⟨#[100,108,105,115,116]⟩=(D0 h).dlist/\BN h ⟨#[70,73,82,83,84]⟩=(D0 h).first/\BN h ⟨#[82,69,83,84]⟩=(D0 h).rest/\BN h ⟨#[76,73,83,84]⟩=(D0 h).head/\BN h ⟨#[76,65,83,84]⟩=(D0 h).last:=⟨rfl,rfl,rfl,rfl,rfl,rfl,rfl,rfl⟩
theorem xJ (h:AE):((D0 h).list<(h.1.length:Int)/\(D0 h).cons<(h.1.length:Int)/\(D0 h).null<(h.1.length:Int)/\(D0 h).dlist<(h.1.length:Int))/\(-1<=(D0 h).list/\-1<=(D0 h).cons/\-1<=(D0 h).null/\-1<=(D0 h).dlist) :=
 ⟨⟨(C4 h _).2,(C4 h _).2,(C4 h _).2,(C4 h _).2⟩,(C4 h _).1,(C4 h _).1,(C4 h _).1,(C4 h _).1⟩
theorem LJ {α:Type} {f:List α} (h:0<=n/\n<(f.length:Int)):n.toNat<f.length:=by omega
end
section
attribute [local go_sem] Ou xI KC MT JW IJ
def wdF (h:AE) (w:LW):Zv.den:=(h,w.list,w.cons,w.null,w.dlist,w.first,w.rest,w.head,w.last)
def lwO (w:Zv.den):LW:=⟨w.2.1,w.2.2.1,w.2.2.2.1,w.2.2.2.2.1,w.2.2.2.2.2.1,w.2.2.2.2.2.2.1,w.2.2.2.2.2.2.2.1,w.2.2.2.2.2.2.2.2⟩
def UU:AX:={ ins:=[MM,T3,T3],pre:=λ(f,n,_)=>Aa f/\(0:Int)<=n/\n<(List.length f:Int),out:=λ(f,n,e,_)=>[.p T3 (Br (List.getD (f:List AD) n.toNat (0,[])).2 e)],lend:=true }
attribute [local go_sem] UU
theorem YX:Ac Tryz.prog 169 UU:=by
 refine fK [0,1,2,3,6,8,14,15,16,17,23] Tryz.func169 Tryz.ntmps169 AI ?_;rintro w0 O0 ⟨f,n,e,u⟩ d-⟨g,hn⟩;have g:Aa f:=g;have hn:0<=n/\n<(f.length:Int):=hn;simp only[UU,AM];repeat'(first|exact trivial|apply eS rfl|apply AB|refine rX d ?_ ?_|refine rC ?_ ?_<;>intro a<;>try(cases a;done))
 .exact hn
 have j:=(g.2 _ (AG f (0,[]) (LJ hn))).1;generalize (f.getD n.toNat (0,[])).2=L at *;refine AJ (ι:={k:Nat//k<=L.length/\Br L e=Br (L.drop k) e}) (λk=>⟨[(2,.p T3 e),(14,.p VY L),(15,.p (.int .i64) (L.length:Int)),(16,.p (.int .i64) (k.1:Int))],[]⟩) (λk=>L.length-k.1) ⟨0,Do _,rfl⟩ (eW []) (λk=>?_)
 obtain⟨k,hk,b⟩:=k;have i:=λh:k<L.length=>Wm e L h;simp only;repeat'(first|exact trivial|apply eS rfl|apply AB|refine rX d ?_ ?_|refine rC ?_ ?_<;>intro a<;>try(cases a;done))
 .exact a
 .have c:k<L.length:=by exact eV
  rw[i c,At a]at b;exact fI d [.tmp 6] (by rw[b];exact eR)
 .omega
 .have c:k<L.length:=by exact eV
  rw[i c,As a]at b;exact⟨⟨k+1,by omega,b⟩,by simp only;omega,eW []⟩
 have c:L.drop k=[]:=ON (by exact eV);rw[c]at b;exact fI d [.tmp 6] (by rw[b];first|exact eR|refine N9 ?_;rfl)
def WOk (h:AE) (w:LW):Prop:=(0<=w.cons/\w.cons<(h.1.length:Int))/\(0<=w.null/\w.null<(h.1.length:Int))
def NJ:AX:={ ins:=[Zv,MM,T3],pre:=λ(w,f,n,_)=>WOk w.1 (lwO w)/\Aa f/\DP w.1 f/\(0:Int)<=n/\n<(List.length f:Int),out:=λ(w,f,n,_)=>[.p T3 (K0 w.1 (lwO w) (List.getD (f:List AD) n.toNat (0,[])))],lend:=true }
attribute [local go_sem] NJ
theorem bP:Ac Tryz.prog 171 NJ:=by
 refine fK [0,1,2,3,4,6,7,8,9,28,43,56] Tryz.func171 Tryz.ntmps171 (AF YX (AF OZ AI)) ?_;rintro w0 O0 ⟨⟨h,l,c,d,dl,a,e,b,la⟩,f,n,u⟩ i-⟨j,k,m,hn⟩;have j:WOk h ⟨l,c,d,dl,a,e,b,la⟩:=j;have k:Aa f:=k;have m:DP h f:=m;have hn:0<=n/\n<(f.length:Int):=hn;have o:=m _ (AG f (0,[]) (LJ hn));simp only[NJ,AM];repeat'(first|exact trivial|apply eS rfl|apply AB|refine rX i ?_ ?_|refine rC ?_ ?_<;>intro p<;>try(cases p;done))
 .exact hn
 .exact⟨k,hn⟩
 .exact⟨j.2,o⟩
 .have g:K0 h ⟨l,c,d,dl,a,e,b,la⟩ (f.getD n.toNat (0,[]))=1:=by
   unfold K0 hJ US Wq Wo Wp;simp only[AT,IN];grind
  exact fI i [.tmp 6] (by rw[show lwO (h,l,c,d,dl,a,e,b,la)=⟨l,c,d,dl,a,e,b,la⟩ from rfl,g];exact eR)
 .exact⟨j.1,o⟩
 .have g:K0 h ⟨l,c,d,dl,a,e,b,la⟩ (f.getD n.toNat (0,[]))=2:=by
   unfold K0 hJ US Wq Wo Wp;simp only[AT,IN];grind
  exact fI i [.tmp 6] (by rw[show lwO (h,l,c,d,dl,a,e,b,la)=⟨l,c,d,dl,a,e,b,la⟩ from rfl,g];exact eR)
 .exact⟨o,j.1⟩
 .have g:K0 h ⟨l,c,d,dl,a,e,b,la⟩ (f.getD n.toNat (0,[]))=3:=by
   unfold K0 hJ US Wq Wo Wp;simp only[AT,IN];grind
  exact fI i [.tmp 6] (by rw[show lwO (h,l,c,d,dl,a,e,b,la)=⟨l,c,d,dl,a,e,b,la⟩ from rfl,g];exact eR)
 have g:K0 h ⟨l,c,d,dl,a,e,b,la⟩ (f.getD n.toNat (0,[]))=0:=by
  unfold K0 hJ US Wq Wo Wp;simp only[AT,IN];grind
 exact fI i [.tmp 6] (by rw[show lwO (h,l,c,d,dl,a,e,b,la)=⟨l,c,d,dl,a,e,b,la⟩ from rfl,g];exact eR)
theorem A1D {a:Int}:(if b<a then b else a)<0↔a<0\/b<0:=by split<;>omega
theorem A1E {a:Int}:(0<=if b<a then b else a)↔0<=a/\0<=b:=by split<;>omega
def A3a:Zv.den:=(([],[]),0,0,0,0,0,0,0,0)
def NK:AX:={ ins:=[GL],pre:=λ_=>True,out:=λ(h,_)=>[.p Zv (if RU h=true then wdF h (D0 h) else A3a),.p DD (if RU h=true then 0 else 5)] }
attribute [local go_sem] NK
theorem xK:Ac Tryz.prog 168 NK:=by
 refine fK [0,1,2,3,4,58] Tryz.func168 Tryz.ntmps168 (AF Ov (AF UT (AF OZ AI))) ?_;rintro w0 O0 ⟨⟨a,hf⟩,u⟩ b - -;obtain⟨f,g,i,j,k,l,m,n⟩:=A4F (a,hf);obtain⟨⟨s,t,v,w⟩,o,p,q,r⟩:=xJ (a,hf);simp only[NK,AM];repeat'(first|exact trivial|apply eS rfl|apply AB|refine rX b ?_ ?_|refine rC ?_ ?_<;>intro e<;>try(cases e;done))
 all_goals simp only[f,g,i,j,k,l,m,n,A1D,A1E]at *
 .refine⟨λh=>?_,λh=>?_⟩<;>simp only[aT,AAa,TO,not_or]at h<;>grind
 .have c:RU (a,hf)=false:=by
   rw[ABn];intro d;unfold RU at d;simp only[AT,IN]at d;grind
  exact fI b [.cell 2 248,.tmp 3] (by simp only[c,AAM,AAR,A3a];exact eR)
 have c:RU (a,hf)=true:=by
  unfold RU;simp only[AT,IN];grind
 exact fI b [.cell 2 248,.tmp 3] (by simp only[c,AAB,wdF];exact eR)
end
section
attribute [local go_sem] FF HO
def Lx (d:List AH):AE:=if d.length<=12/\(AW d).2=0 then (AW d).1 else (AW Bi).1
end
section
attribute [local go_sem] Qx
theorem iA (h:AE) (hk:GC h) (hi:IH h) (hf:dF h) (X:h.2.length<=100000) (f:List AD) (P:Aa f) (ha:NI h f) (s:Ds) (hs:MA h f.length s) (n0:0<=n) (n1:n<(f.length:Int)) (T:Wj h s.1+s.2.length<=1000000000) :
  A7 Tryz.prog 93 [.bp 1 [] 0,.p MM f,.p T3 n] (Dd h s) [1]
  (λres z=>(J4 h f n s=none/\res=.p .bool false/\∃A,z=Dd h A)\/∃A,J4 h f n s=some A/\res=.p .bool true/\z=Dd h A):=by
 have H:=LH ha n0 n1;have Z:(f.getD n.toNat (0,[])).2.length<=100000:=(P.2 _ (AG f (0,[]) O1)).1;have O:J4 h f n s=(LF h n (f.getD n.toNat (0,[])).2 s).bind (L9 h n (f.getD n.toNat (0,[])).2):=rfl;rw[O];refine JP [0,1,2,4,6,8,10,11,12,18,19,20,21,37,44,45,46,47,76] [] [] Tryz.func93 Tryz.ntmps93 (AF A1q AI) ?_;intro w0 K O0 ρ0 a aa ab;simp only[Dd,Am];repeat'(first|exact trivial|apply eS rfl|refine rX a ?_ ?_)
 .exact⟨n0,n1⟩
 have Y:f.getD n.toNat (0,[])=f.getD n.toNat (0,[]):=rfl;generalize M:(f.getD n.toNat (0,[])).2=L at *;refine AJ (ι:={x:Nat×Ds//x.1<=L.length/\MA h f.length x.2/\Wj h x.2.1+x.2.2.length<=1000000000/\LF h n L s=LF h n (L.drop x.1) x.2}) (λx=>⟨[(0,.bp 1 [] 0),(2,.p T3 n),(4,.bp 4 [] 0),(18,.p VY L),(19,.p (.int .i64) (L.length:Int)),(20,.p (.int .i64) (x.1.1:Int))],[(4,.box 34 true [.p VZ f]),(1,.box 163 true [.p GL h,.sr 2 T3 0 x.1.2.1.length,.p CH x.1.2.2]),(2,.arr 3 T3 x.1.2.1)]⟩) (λx=>L.length-x.1.1) ⟨(0,s),Do _,hs,T,rfl⟩ (eW [(4,.nm 4),(1,.nm 1),(2,.nm 2)]) (λx=>?_)
 obtain⟨⟨k,s1⟩,R,r,C,i⟩:=x;simp only at R r C i ⊢;repeat'(first|exact trivial|apply eS rfl|refine rX a ?_ ?_|refine rC ?_ ?_<;>intro b<;>try(cases b;done))
 .exact b
 .have l:k<L.length:=iN.1 b;have d:LF h n (L.drop k) s1=(Cw h s1 n (J3 h (L.getD k (0,0)).1)).bind (LF h n (L.drop (k+1))):=by rw[A39 (0,0) l];rfl
  obtain⟨⟨F,G⟩,u,b1⟩:=H _ (AG L (0,0) l);obtain⟨o,q⟩:=LG hf F G;obtain⟨w,y⟩:=r.get n0 n1;refine cD 12 a ?_ ?_
  .exact⟨F,G⟩
  refine rM a (bA h hk s1 n0 (by rw[r.len];exact n1) w y o q O1) [(1,.nm 1),(2,.nm 2)] [2] ?_ ?_ ?_
  .refine eM ?_;rfl
  .simp only[Dd];exact eN
  rintro res z (⟨c,rfl,rfl⟩|⟨s2,c,rfl,rfl⟩)
  .refine⟨[(1,.nm 1),(2,.nm 2)],.p .bool false,Dd h s1,rfl,rfl,?_,?_,rfl,rfl,?_⟩
   .simp only[Dd];exact eN
   .exact eN
   simp only[Dd];refine rL a ?_ ?_
   .trivial
   repeat'(first|exact trivial|apply eS rfl|refine rX a ?_ ?_|refine rC ?_ ?_<;>intro b<;>try(cases b;done))
   refine Ev.ent (σ':=⟨[(6,.p .bool false)],Dd h s1⟩) ?_ (AC [(1,.nm 1),(2,.nm 2)] rfl rfl ?_ ?_)
   .exact fM a [.tmp 6] (.p .bool false) eT (.inl ⟨by rw[i,d,c];rfl,rfl,s1,rfl⟩)
   .unfold Dd;exact eN
   exact eN
  refine⟨[(1,.nm 1),(2,.nm 2)],.p .bool true,Dd h s2,rfl,rfl,?_,?_,rfl,rfl,?_⟩
  .simp only[Dd];exact eN
  .exact eN
  simp only[Dd];refine rL a ?_ ?_
  .trivial
  obtain⟨D,E,U⟩:=EO hk hi r n0 n1 o q c;repeat'(first|apply eS rfl|apply AB|refine rX a ?_ ?_|refine rC ?_ ?_<;>intro b<;>try(cases b;done))
  .omega
  exact⟨⟨(k+1,s2),l,D,gO E C,by rw[i,d,c];rfl⟩,by simp only;omega,eW [(4,.nm 4),(1,.nm 1),(2,.nm 2)]⟩
 .exact⟨n0,n1⟩
 have B:L.drop k=[]:=ON (AAe.1 b);rw[B]at i;have i:LF h n L s=some s1:=i;rw[i];have N:(List.getD f n.toNat (0,[])).2=L:=M;rw[N];refine AJ (ι:={x:Nat×Ds//x.1<=L.length/\MA h f.length x.2/\Wj h x.2.1+x.2.2.length<=1000000000/\(some s1).bind (L9 h n L)=L9 h n (L.drop x.1) x.2}) (λx=>⟨[(0,.bp 1 [] 0),(2,.p T3 n),(44,.p VY L),(45,.p (.int .i64) (L.length:Int)),(46,.p (.int .i64) (x.1.1:Int))],[(1,.box 163 true [.p GL h,.sr 2 T3 0 x.1.2.1.length,.p CH x.1.2.2]),(2,.arr 3 T3 x.1.2.1)]⟩) (λx=>L.length-x.1.1) ⟨(0,s1),Do _,r,C,rfl⟩ (eW [(1,.nm 1),(2,.nm 2)]) (λx=>?_)
 obtain⟨⟨j,s2⟩,Q,m,I,g⟩:=x;simp only at Q m I g ⊢;obtain⟨w,y⟩:=m.get n0 n1;repeat'(first|exact trivial|apply eS rfl|refine rX a ?_ ?_|refine rC ?_ ?_<;>intro b<;>try(cases b;done))
 .exact b
 .exact⟨⟨n0,by rw[m.len];exact n1⟩,w,y⟩
 .have l:j<L.length:=iN.1 b;have d:L9 h n (L.drop j) s2=if (Cc h (s2.1.getD n.toNat 0) (L.getD j (0,0)).1).2=true then (Cw h s2 (L.getD j (0,0)).2 (Cc h (s2.1.getD n.toNat 0) (L.getD j (0,0)).1).1).bind (L9 h n (L.drop (j+1))) else none:=by rw[A39 (0,0) l];rfl
  obtain⟨-,u,b1⟩:=H _ (AG L (0,0) l);have S:=λe=>Iq (f:=(L.getD j (0,0)).1) hf w y e;generalize Cc h (s2.1.getD n.toNat 0) (L.getD j (0,0)).1=v at *;obtain⟨t,ok⟩:=v;refine evP a 3 ?_ ?_
  .trivial
  cases ok with
  | false =>
   rw[As sc]at d;refine rL a ?_ ?_
   .trivial
   repeat'(first|exact trivial|apply eS rfl|refine rX a ?_ ?_|refine rC ?_ ?_<;>intro b<;>try(cases b;done))
   refine Ev.ent (σ':=⟨[(6,.p .bool false)],Dd h s2⟩) ?_ (AC [(1,.nm 1),(2,.nm 2)] rfl rfl ?_ ?_)
   .exact fM a [.tmp 6] (.p .bool false) eT (.inl ⟨by rw[g,d],rfl,s2,rfl⟩)
   .unfold Dd;exact eN
   exact eN
  | true =>
   rw[At rfl]at d;obtain⟨o,q⟩:=S rfl;simp only at o q d;obtain⟨V,W⟩:=m.get u b1;refine rN 4 a ?_ ?_
   .trivial
   refine clG a (bA h hk s2 u (by rw[m.len];exact b1) V W o q O1) [(1,.nm 1),(2,.nm 2)] [2] ?_ ?_ ?_
   .exact eN
   .simp only[Dd];exact eN
   rintro res z (⟨c,rfl,rfl⟩|⟨J,c,rfl,rfl⟩)
   .refine⟨[(1,.nm 1),(2,.nm 2)],.p .bool false,Dd h s2,rfl,rfl,?_,?_,rfl,rfl,?_⟩
    .simp only[Dd];exact eN
    .exact eN
    simp only[Dd];refine rL a ?_ ?_
    .trivial
    repeat'(first|exact trivial|apply eS rfl|refine rX a ?_ ?_|refine rC ?_ ?_<;>intro b<;>try(cases b;done))
    refine Ev.ent (σ':=⟨[(6,.p .bool false)],Dd h s2⟩) ?_ (AC [(1,.nm 1),(2,.nm 2)] rfl rfl ?_ ?_)
    .exact fM a [.tmp 6] (.p .bool false) eT (.inl ⟨by rw[g,d,c];rfl,rfl,s2,rfl⟩)
    .unfold Dd;exact eN
    exact eN
   refine⟨[(1,.nm 1),(2,.nm 2)],.p .bool true,Dd h J,rfl,rfl,?_,?_,rfl,rfl,?_⟩
   .simp only[Dd];exact eN
   .exact eN
   simp only[Dd];refine rL a ?_ ?_
   .trivial
   obtain⟨D,E,U⟩:=EO hk hi m u b1 o q c;repeat'(first|apply eS rfl|apply AB|refine rX a ?_ ?_|refine rC ?_ ?_<;>intro b<;>try(cases b;done))
   .omega
   exact⟨⟨(j+1,J),l,D,gO E I,by rw[g,d,c];rfl⟩,by simp only;omega,eW [(1,.nm 1),(2,.nm 2)]⟩
 have B:L.drop j=[]:=ON (AAe.1 b);rw[B]at g;have g:(some s1).bind (L9 h n L)=some s2:=g;refine Ev.ent (σ':=⟨[(6,.p .bool true)],Dd h s2⟩) ?_ (AC [(1,.nm 1),(2,.nm 2)] rfl rfl ?_ ?_)
 .exact fM a [.tmp 6] (.p .bool true) eT (.inr ⟨s2,g,rfl,rfl⟩)
 .unfold Dd;exact eN
 exact eN
end
section
def YY:AX:={ ins:=[VZ],pre:=λ(l,_)=>List.length l<=100000,out:=λ(l,_)=>[.own 57 dC l] }
attribute [local go_sem] YY
theorem pR:Ac Tryz.prog 94 YY:=by
 refine fK [0,2,4] Tryz.func94 Tryz.ntmps94 AI ?_;rintro w0 O0 ⟨l,u⟩ a-d;have d:List.length l<=100000:=d;simp only[YY,AM];repeat'(first|exact trivial|apply eS rfl|refine rX a ?_ ?_)
 refine cP 1 a ?_ ?_
 .trivial
 refine oD a false rfl rfl ?_;intro b e;refine rL a ?_ ?_
 .trivial
 repeat'(first|exact trivial|apply eS rfl|refine rX a ?_ ?_|refine rC ?_ ?_<;>intro c<;>try(cases c;done))
 .have f:l=[]:=e c;subst f;refine Ev.ent (σ':=⟨[(2,.sr 5 dC 0 0)],[(5,.arr 57 dC [])]⟩) ?_ (AC [(5,.nil)] rfl rfl ?_ ?_)
  .exact Sp a (.inl rfl) (rv:=.tmp 2) rfl (by simp only[KY,IV,G4,go_sem,Nat.reduceEqDiff,reduceCtorEq,Nat.reduceAdd,Nat.reduceSub,Nat.reduceMul,Nat.reduceLeDiff,Nat.reduceLT,Int.reduceLE,Int.reduceToNat,Int.reduceNeg,↓reduceIte])
  .exact eN
  exact eN
 .simp only[AO];omega
 exact Sp a (.inl rfl) (rv:=.tmp 2) rfl (by simp only[KY,IV,G4,go_sem,Nat.reduceEqDiff,reduceCtorEq,Nat.reduceAdd,Nat.reduceSub,Nat.reduceMul,Nat.reduceLeDiff,Nat.reduceLT,Int.reduceLE,Int.reduceToNat,Int.reduceNeg,↓reduceIte])
structure xL (h:AE) (f:List AD):Prop where
 ok:GC h
 inj:IH h
 ft:dF h
 fl:h.2.length<=100000
 good:Aa f
 arcs:NI h f
 ty:∀x∈f,0<=x.1/\x.1<(h.1.length:Int)
def UV:AX:={ ins:=[GL,MM],pre:=λ(h,f,_)=>xL h f,out:=λ(h,f,_)=>[.p MM (Dt h f).1,.p .bool (Dt h f).2] }
theorem DQ (f:List AD) (ty:List Int):(ET f ty).length=f.length:=by simp[ET]
theorem Gv (f:List AD) (ty:List Int) {i:Nat} (h:i<f.length):(ET f ty).getD i (0,[])=(ty.getD i 0,(f.getD i (0,[])).2):=by
 unfold ET;simp[AS,h]
theorem pS {α:Type} (F f:List α) (d:α) (b:F.length=f.length) {j:Nat} (h:j<f.length):(F.take j++f.drop j).set j (F.getD j d)=F.take (j+1)++f.drop (j+1)/\(F.take j++f.drop j).getD j d=f.getD j d:=by
 have h1:(F.take j).length=j:=by rw[On];omega
 have a:f.drop j=f.getD j d :: f.drop (j+1):=by
  rw[OF h,AS,An h];rfl
 constructor
 .rw[A8 F d O1,ABW _ _ O1,h1,AAY,a];simp
 rw[AS,AA4 O1,h1,AAY,a];rfl
theorem xM:Ac Tryz.prog 50 UV:=by
 refine fK [0,1,2,3,4,5,6,7,8,9,10,11,16,17,18,19,51,64,72,73,74] Tryz.func50 Tryz.ntmps50 (AF pR AI) ?_;rintro w0 O0 ⟨⟨a,hf⟩,f,u⟩ c-d;have d:xL (a,hf) f:=d;have E:=xC (a,hf) f;have y:=d.good.1;have T:MV (a,hf) f<=30000000:=by
  have h1:a.length<=256:=d.ok.2;have D:f.length*a.length<=100000*256:=Nat.mul_le_mul y h1;have S:f.length*(a,hf).1.length<=100000*256:=D;unfold MV;omega
 have K:=xB d.ty;simp only[UV,AM];repeat'(first|exact trivial|apply eS rfl|refine rX c ?_ ?_)
 refine AJ (ι:={i:Nat//i<=f.length}) (λi=>⟨[(3,.bp 3 [] 0),(4,.bp 4 [] 0),(6,.bp 14 [] 0),(16,.p VZ f),(17,.p (.int .i64) (f.length:Int)),(18,.p (.int .i64) (i.1:Int))],[(3,.box 34 true [.p VZ f]),(4,.box 34 true [.raw (.slice none 0 0)]),(14,.box 163 true [.p GL (a,hf),.sr 31 T3 0 i.1,.sr 41 T3 0 i.1]),(31,.arr 3 T3 ((Ba f).take i.1)),(41,.arr 3 T3 ((Dy f).take i.1))]⟩) (λi=>f.length-i.1) ⟨0,Do _⟩ (eW [(3,.nm 3),(4,.nm 4),(14,.nm 14),(31,.nil),(41,.nil)]) (λi=>?_)
 obtain⟨i,hi⟩:=i;have tl:((Ba f).take i).length=i:=by rw[On];simp[Ba];omega
 have Y:((Dy f).take i).length=i:=by rw[On];simp[Dy];omega
 have ts:i<f.length->(Ba f).take i++[(f.getD i (0,[])).1]=(Ba f).take (i+1):=λh=>by
  rw[A8 (Ba f) 0 (by simpa[Ba] using h)];simp[Ba,AS,h]
 have Q:i<f.length->(Dy f).take i++[(i:Int)]=(Dy f).take (i+1):=λh=>by
  rw[A8 (Dy f) 0 (by simpa[Dy] using h)];simp[Dy,AS,h]
 repeat'(first|exact trivial|apply eS rfl|refine rX c ?_ ?_|refine rC ?_ ?_<;>intro b<;>try(cases b;done))
 .exact b
 .have l:i<f.length:=iN.1 b;have P:=ts l;have R:=Q l;refine Mu drawsAny c 9 [([1,2,3,4,5,6,7],8)] [0] (by kernel_rfl) (mxA ?_ ?_)
  .trivial
  refine mxL c [31] ?_ ?_
  .simp only[AO];omega
  refine mxE c ?_ ?_ ?_
  .trivial
  .trivial
  repeat'(first|apply eS rfl|apply AB|refine rX c ?_ ?_)
  .simp only[AO];omega
  .omega
  refine⟨⟨i+1,l⟩,by simp only;omega,AC [(3,.nm 3),(4,.nm 4),(14,.nm 14),(31,.nm 31),(41,.nm 41)] rfl rfl ?_ ?_⟩
  .simp only[<-P,<-R];refine eM ?_;simp only[ACk,Nat.min_self,and_self]
  exact eN
 have l:i=f.length:=by
  have:=AAe.1 b;omega
 subst l;have et:(Ba f).take f.length=Ba f:=By (by simp[Ba]);have w:(Dy f).take f.length=Dy f:=By (by simp[Dy]);have O:(Ba f).length=f.length:=by simp[Ba]
 have Z:(Dy f).length=f.length:=by simp[Dy]
 rw[et,w];have C:(Dy f).take f.length=Dy f:=w;refine C8 [41] ?_;rw[C];refine AJ (ι:={x:Nat×Ds//MA (a,hf) f.length x.2/\Wj (a,hf) x.2.1+x.2.2.length+1<=MV (a,hf) f/\x.1<=x.2.2.length/\∃k,Wj (a,hf) x.2.1+x.2.2.length+1<=k+x.1/\rB (a,hf) f k x.1 x.2=HR (a,hf) f}) (λx=>⟨[(3,.bp 3 [] 0),(4,.bp 4 [] 0),(6,.bp 14 [] 0),(9,.p (.int .i64) (x.1.1:Int))],[(3,.box 34 true [.p VZ f]),(4,.box 34 true [.raw (.slice none 0 0)]),(14,.box 163 true [.p GL (a,hf),.sr 31 T3 0 x.1.2.1.length,.p CH x.1.2.2]),(31,.arr 3 T3 x.1.2.1)]⟩) (λx=>Wj (a,hf) x.1.2.1+x.1.2.2.length-x.1.1) ⟨(0,Ba f,Dy f),K,E,Do _,MV (a,hf) f,by simp only;omega,rfl⟩ (AC [(3,.nm 3),(4,.nm 4),(14,.nm 14),(31,.nm 31)] rfl rfl ?_ ?_) (λx=>?_)
 .simp only[O];exact eN
 .exact eN
 obtain⟨⟨i,s⟩,hs,J,hi,k,hk,g⟩:=x;simp only at hs J hi hk g ⊢;repeat'(first|exact trivial|apply eS rfl|refine rX c ?_ ?_|refine rC ?_ ?_<;>intro b<;>try(cases b;done))
 .have n:i<s.2.length:=iN.1 b;obtain⟨A,B⟩:=hs.wt _ (AG s.2 (0:Int) n);obtain⟨k,rfl⟩:∃v,k=v+1:=⟨k-1,by omega⟩;have t:rB (a,hf) f (k+1) i s=(J4 (a,hf) f (s.2.getD i 0) s).bind (rB (a,hf) f k (i+1)):=At n;rw[t]at g;refine cD 9 c ?_ ?_
  .exact b
  refine rM c (iA (a,hf) d.ok d.inj d.ft d.fl f d.good d.arcs s hs A B O1) [(1,.nm 14),(2,.nm 31)] [31] ?_ ?_ ?_
  .exact eN
  .simp only[Dd];exact eN
  rintro res X (⟨m,rfl,e,rfl⟩|⟨e,m,rfl,rfl⟩)
  .refine⟨[(14,.nm 1),(31,.nm 2)],.p .bool false,[(14,.box 163 true [.p GL (a,hf),.sr 31 T3 0 e.1.length,.p CH e.2]),(31,.arr 3 T3 e.1)],rfl,rfl,?_,?_,rfl,rfl,?_⟩
   .simp only[Dd];exact eN
   .exact eN
   refine rL c ?_ ?_
   .trivial
   repeat'(first|exact trivial|apply eS rfl|refine rX c ?_ ?_|refine rC ?_ ?_<;>intro b<;>try(cases b;done))
   have q:Dt (a,hf) f=([],false):=by unfold Dt;rw[<-g,m];rfl
   exact fI c [.cell 4 34,.tmp 5] (by rw[q];exact eR)
  obtain⟨N,V,W⟩:=UQ d.ok d.inj d.ft d.arcs A B hs m;rw[m]at g;refine⟨[(14,.nm 1),(31,.nm 2)],.p .bool true,[(14,.box 163 true [.p GL (a,hf),.sr 31 T3 0 e.1.length,.p CH e.2]),(31,.arr 3 T3 e.1)],rfl,rfl,?_,?_,rfl,rfl,?_⟩
  .simp only[Dd];exact eN
  .exact eN
  refine rL c ?_ ?_
  .trivial
  repeat'(first|apply eS rfl|apply AB|refine rX c ?_ ?_|refine rC ?_ ?_<;>intro b<;>try(cases b;done))
  .omega
  exact⟨⟨(i+1,e),N,by simp only;omega,by simp only;omega,k,by simp only;omega,g⟩,by simp only;omega,eW [(3,.nm 3),(4,.nm 4),(14,.nm 14),(31,.nm 31)]⟩
 .exact y
 have n:¬i<s.2.length:=λh=>by
  have:=AAe.1 b;omega
 obtain⟨k,rfl⟩:∃v,k=v+1:=⟨k-1,by omega⟩;have t:rB (a,hf) f (k+1) i s=some s.1:=As n;have q:Dt (a,hf) f=(ET f s.1,true):=by unfold Dt;rw[<-g,t]
 have r:=DQ f s.1;have L:=λi h=>Gv f s.1 (i:=i) h;generalize hT:ET f s.1=F at *;have M:=hs.len;refine AJ (ι:={j:Nat//j<=f.length}) (λj=>⟨[(4,.bp 4 [] 0),(6,.bp 14 [] 0),(10,.bp 10 [] 0),(72,.p (.int .i64) (f.length:Int)),(73,.p (.int .i64) (j.1:Int))],[(10,.box 34 true [.sr 68 dC 0 f.length]),(68,.arr 57 dC (F.take j.1++f.drop j.1)),(4,.box 34 true [.raw (.slice none 0 0)]),(14,.box 163 true [.p GL (a,hf),.sr 31 T3 0 s.1.length,.p CH s.2]),(31,.arr 3 T3 s.1)]⟩) (λj=>f.length-j.1) ⟨0,Do _⟩ (eW [(10,.nm 10),(68,.nm 68),(4,.nm 4),(14,.nm 14),(31,.nm 31)]) (λj=>?_)
 obtain⟨j,U⟩:=j;have I:=λh:j<f.length=>pS F f (0,[]) r h;repeat'(first|exact trivial|apply eS rfl|apply AB|refine rX c ?_ ?_|refine rC ?_ ?_<;>intro b<;>try(cases b;done))
 .exact⟨by rw[M];exact b,b⟩
 .omega
 .have o:j<f.length:=iN.1 b;obtain⟨z,H⟩:=I o;rw[L j o]at z;refine⟨⟨j+1,o⟩,by simp only;omega,AC [(10,.nm 10),(68,.nm 68),(4,.nm 4),(14,.nm 14),(31,.nm 31)] rfl rfl ?_ ?_⟩
  .simp only[<-z];refine eM ?_;rw[H]
  exact eN
 have hF:F.take j=F:=By (by rw[r];exact AAe.1 b);have G:List.drop j f=[]:=ON (AAe.1 b);rw[hF,G,AAk];exact fI c [.cell 4 34,.tmp 5] (by rw[q];first|exact eR|refine N9 ?_;exact By (by rw[r];exact OS _))
end
structure MI (m:List (Int×Bool)) (l:List Bool):Prop where
 nd:(m.map (·.1)).Nodup
 get:∀k:Int,BO T3 .bool k m=if 0<=k/\l.getD k.toNat false=true then some true else none
theorem lO (k:Int) (v:Bool):∀ {m:List (Int×Bool)},(m.map (·.1)).Nodup->((Em T3 .bool k v m).map (·.1)).Nodup/\∀x,x∈(Em T3 .bool k v m).map (·.1)->x=k\/x∈m.map (·.1)
 | [],_=>by simp[Em]
 | y :: m,h=>by
  rw[AA2,AAi]at h;unfold Em;split
  .rename_i e;have e:k=y.1:=by simpa[Gn] using e
   refine⟨?_,λx a=>?_⟩
   .rw[AA2,AAi,e];exact h
   rcases BY.1 a with a|a
   .exact .inl a
   exact .inr (GO _ a)
  rename_i e;have e:¬k=y.1:=by simpa[Gn] using e
  obtain⟨c,b⟩:=lO k v h.2;refine⟨?_,λx a=>?_⟩
  .rw[AA2,AAi];refine⟨λd=>?_,c⟩;rcases b _ d with a|a
   .exact e a.symm
   exact h.1 a
  rcases BY.1 a with a|a
  .exact .inr (by rw[a];simp)
  exact(b x a).imp id λg=>GO _ g
theorem bQ (k:Int):∀m:List (Int×Bool),(eX T3 .bool k m).Sublist m
 | []=>List.Sublist.refl _
 | y :: m=>by
  unfold eX;split
  .exact List.sublist_cons_self _ _
  exact(bQ k m).cons_cons _
theorem Ws {x:Int}:∀ {m:List (Int×Bool)},x∉m.map (·.1)->BO T3 .bool x m=none
 | [],_=>rfl
 | y :: m,h=>by
  unfold BO;rw[As (by
   intro e;have e:x=y.1:=by simpa[Gn] using e
   exact h (by rw[e];simp))]
  exact Ws λa=>h (GO _ a)
theorem Wu (x k:Int):∀ {m:List (Int×Bool)},(m.map (·.1)).Nodup->BO T3 .bool x (eX T3 .bool k m)=if x=k then none else BO T3 .bool x m
 | [],_=>by simp[eX,BO]
 | y :: m,h=>by
  rw[AA2,AAi]at h;unfold eX;split
  .rename_i e;have e:k=y.1:=by simpa[Gn] using e
   by_cases a:x=k
   .rw[At a,a,e];exact Ws h.1
   rw[As a];have c:¬x=y.1:=by rw[<-e];exact a
   simp[BO,Gn,c]
  rename_i e;have e:¬k=y.1:=by simpa[Gn] using e
  have f:=Wu x k h.2;by_cases b:x=y.1
  .have d:¬x=k:=by rw[b];exact λg=>e g.symm
   rw[As d];simp[BO,Gn,b]
  have hn:¬Gn T3 x y.1=true:=by simpa[Gn] using b
  simp only[BO];rw[As hn,As hn,f]
theorem MI.zero:MI [] (List.replicate 0 true):=⟨List.nodup_nil,λk=>by simp[BO]⟩
theorem MI.put {m:List (Int×Bool)} {i:Nat} (h:MI m (List.replicate i true)):MI (Em T3 .bool (i:Int) true m) (List.replicate (i+1) true):=by
 refine⟨(lO _ _ h.nd).1,λ(k:Int)=>?_⟩;rw[UO,h.get];by_cases hk:k=(i:Int)
 .rw[At hk,At];subst hk;refine⟨AAq _,?_⟩;simp[AS,ABo]
 rw[As hk];have e:(0<=k/\(List.replicate i true).getD k.toNat false=true)↔(0<=k/\(List.replicate (i+1) true).getD k.toNat false=true):=by
  simp only[AS,ABo];constructor
  .rintro⟨a,b⟩;refine⟨a,?_⟩;split at b
   .rw[At O1];rfl
   simp at b
  rintro⟨a,b⟩;refine⟨a,?_⟩;split at b
  .rw[At O1];rfl
  simp at b
 by_cases c:0<=k/\(List.replicate i true).getD k.toNat false=true
 .rw[At c,At (e.1 c)]
 rw[As c,As λg=>c (e.2 g)]
theorem MI.del {m:List (Int×Bool)} {l:List Bool} (h:MI m l) (i:Nat):MI (eX T3 .bool (i:Int) m) (l.set i false):=by
 refine⟨h.nd.sublist ((bQ _ m).map _),λ(k:Int)=>?_⟩;rw[Wu _ _ h.nd,h.get];by_cases hk:k=(i:Int)
 .subst hk;rw[At rfl,As];rintro⟨-,b⟩;rw[iS]at b;simp only[AS,AAE]at b;rw[At trivial]at b;split at b<;>simp at b
 rw[As hk];by_cases a:0<=k
 .have c:¬i=k.toNat:=by omega
  simp only[AS,AAE];rw[As c]
 rw[As λg=>a g.1,As λg=>a g.1]
theorem Ly {x:Int}:∀ {m:List (Int×Bool)},x∈m.map (·.1)->BO T3 .bool x m≠none
 | y :: m,h=>by
  unfold BO;split
  .simp
  rename_i e;rcases BY.1 h with h|h
  .exact absurd (by simp[Gn,h]) e
  exact Ly h
theorem MI.len {m:List (Int×Bool)} {l:List Bool} (h:MI m l):m.length<=l.length:=by
 have h1:((m.map (·.1)).map Int.toNat).Nodup:=by
  rw[List.Nodup,AAy];refine h.nd.imp_of_mem λ{a b:Int} ha d i e=>i ?_;have h1:=Ly ha;have c:=Ly d;rw[h.get]at h1 c;have n:0<=a:=DO λg=>h1 (As λq=>g q.1);have o:0<=b:=DO λg=>c (As λq=>g q.1);omega
 have:=DM l.length _ h1 (λj f=>by
  obtain⟨x,k,rfl⟩:=IF.1 f;have h1:=Ly k;rw[h.get]at h1;refine DO λhn=>h1 (As λg=>?_);have:=g.2;rw[AS,oS O1]at this;cases this)
 simpa using this
def pT (N:List AD) (i:Nat) (v:Int×Int):List AD:=N.set i ((N.getD i (0,[])).1,(N.getD i (0,[])).2++[(v.1,(N.length:Int))])++[(v.2,[])]
theorem xN (N:List AD) (i:Nat) (v:Int×Int):(pT N i v).length=N.length+1:=by simp[pT]
structure TI2 (h:AE) (m i k:Nat) (N:List AD):Prop where
 len:N.length<=m
 ty:∀x∈N,0<=x.1/\x.1<(h.1.length:Int)
 lo:∀j,j<i->(N.getD j (0,[])).2.length<=200
 at':(N.getD i (0,[])).2.length<=100+k
 hi:∀j,i<j->(N.getD j (0,[])).2.length<=100
theorem xO {α:Type} (l:List α) (x d:α) (j:Nat):(l++[x]).getD j d=if j<l.length then l.getD j d else if j=l.length then x else d:=by
 simp only[AS];by_cases h:j<l.length
 .rw[At h,AA9 h]
 rw[As h,AA4 O1];by_cases e:j=l.length
 .rw[At e,e,AAY];rfl
 rw[As e,oS (by simp only[nO];omega)];rfl
theorem Lz {α:Type} (l:List α) (x d:α) {i:Nat} (h:i<l.length) (j:Nat):(l.set i x).getD j d=if j=i then x else l.getD j d:=by
 simp only[AS,AAE];by_cases e:i=j
 .rw[At e,At h,At e.symm];rfl
 rw[As e,As (show ¬j=i by omega)]
theorem xP {N:List AD} {i:Nat} (h:i<N.length) (v:Int×Int) (j:Nat):(pT N i v).getD j (0,[])=if j=i then ((N.getD i (0,[])).1,(N.getD i (0,[])).2++[(v.1,(N.length:Int))]) else if j=N.length then (v.2,[]) else N.getD j (0,[]):=by
 unfold pT;rw[xO,Lz _ _ _ h,AAc];by_cases a:j=i
 .rw[At a,At O1,At a]
 rw[As a,As a];by_cases c:j<N.length
 .rw[At c,As O1]
 rw[As c];by_cases b:j=N.length
 .rw[At b,At b]
 rw[As b,As b,AS,oS O1];rfl
theorem TI2.add {N:List AD} (b:TI2 h m i k N) (hi:i<N.length) (f:4096<=m) (e:N.length<4096) {v:Int×Int} (v0:0<=v.2) (v1:v.2<(h.1.length:Int)):TI2 h m i (k+1) (pT N i v):=by
 have c:=λj=>xP hi v j;refine⟨by rw[xN];omega,λx a=>?_,λj d=>?_,?_,λj d=>?_⟩
 .unfold pT at a;rcases IS.1 a with a|a
  .rcases AAN a with a|rfl
   .exact b.ty x a
   exact(b.ty (N.getD i (0,[])) (AG N (0,[]) hi) :)
  rw[oF.1 a];exact⟨v0,v1⟩
 .rw[c,As O1,As O1];exact b.lo j d
 .rw[c,At rfl];have:=b.at';simp only[If,nO];omega
 rw[c,As O1];split
 .simp
 exact b.hi j d
theorem TI2.skip {N:List AD} (a:TI2 h m i k N):TI2 h m i (k+1) N:=⟨a.len,a.ty,a.lo,by have:=a.at';omega,a.hi⟩
theorem TI2.next {N:List AD} (a:TI2 h m i k N) (hk:k<=100):TI2 h m (i+1) 0 N:=⟨a.len,a.ty,λj b=>by
 by_cases e:j=i
 .have:=a.at';rw[e];omega
 exact a.lo j O1,a.hi (i+1) O1,λj b=>a.hi j O1⟩
theorem getD_set_ne {α:Type} (l:List α) (d v:α) {i j:Nat} (h:i≠j):(l.set i v).getD j d=l.getD j d:=by
 simp only[AS];rw[List.getElem?_set_ne h]
theorem Ve {α:Type} (l:List α) (d v:α) {i:Nat} (h:i<l.length):(l.set i v).getD i d=v:=by
 simp only[AS];rw[List.getElem?_set_self h];rfl
def toF (l:List (Int×Int)) (x:Int):Int:=l.foldl (λt a=>if a.1=x then a.2 else t) (-1)
abbrev Ak (f:List AD) (n:Int):List (Int×Int):=(f.getD n.toNat (0,[])).2
def A3b (f:List AD):Int->List Int->Option Int
 | n,[]=>some n
 | n,x :: r=>if toF (Ak f n) x<0 then none else A3b f (toF (Ak f n) x) r
theorem bR {f:List AD} (hf:Aa f):∀(k:Nat) (o:List Int) (n:Int),Lv f o->0<=n->n<f.length->n∉o->f.length-o.length<=k->EH f (k+1) o n=EH f k o n
 | 0,o,n,h,h0,h1,c,hk=>by
  have:=(h.snoc h0 h1 c).len;grind
 | k+1,o,n,h,h0,h1,c,hk=>by
  rw[CS,CS];have key:∀(l:List (Int×Int)) (t:List Int),(∀a∈l,0<=a.2/\a.2<(f.length:Int))->Lv f t->f.length-t.length<=k->l.foldl (A2 f (k+1)) t=l.foldl (A2 f k) t:=by
   intro l;induction l with
   | nil=>intros;rfl
   | cons a l p =>
    intro t e m j;have g:=e a sc;have hs:A2 f (k+1) t a=A2 f k t a:=by
     unfold A2;split
     .rfl
     rename_i hn;exact bR hf k t a.2 m g.1 g.2 hn j
    have d:Lv f (A2 f k t a)/\t <+: A2 f k t a:=by grind [A2,Fl]
    rw[OR,OR,hs];have:=d.2.length_le;exact p _ (λb i=>e b (by simp[i])) d.1 O1
  exact key _ _ (λa ha=>CK hf ha) (h.snoc h0 h1 c) (by simp only[If,nO];omega)
theorem Jh (f:List AD):Lv f []:=⟨by simp,λx a=>by cases a⟩
theorem bS {f:List AD} (hf:Aa f) {n:Int} (h0:0<=n) (h1:n<f.length):∀m,EH f (f.length+m) [] n=EH f f.length [] n
 | 0=>rfl
 | m+1=>by
  rw[<-ACo,bR hf _ [] n (Jh f) h0 h1 sc (by simp only[AAd];omega)];exact bS hf h0 h1 m
structure Iso (Q R:List AD) (ψ:Int->Int) (C:Int->Prop):Prop where
 arc:∀i,C i->Ak R (ψ i)=(Ak Q i).map λa=>(a.1,ψ a.2)
 cl:∀i,C i->∀a∈Ak Q i,C a.2
 inj:∀i j,C i->C j->ψ i=ψ j->i=j
theorem YZ {Q R:List AD} {c:Int->Int} {d:Int->Prop} (h:Iso Q R c d):∀(k:Nat) (t:List Int) (i:Int),(∀x∈t,d x)->d i->EH R k (t.map c) (c i)=(EH Q k t i).map c/\∀x∈EH Q k t i,d x
 | 0,t,i,f,hi=>⟨rfl,f⟩
 | k+1,t,i,f,hi=>by
  have key:∀(l:List (Int×Int)) (t:List Int),(∀a∈l,d a.2)->(∀x∈t,d x) ->
    (l.map λa=>(a.1,c a.2)).foldl (A2 R k) (t.map c)=(l.foldl (A2 Q k) t).map c/\∀x∈l.foldl (A2 Q k) t,d x:=by
   intro l;induction l with
   | nil=>intro t _ f;exact⟨rfl,f⟩
   | cons a l q =>
    intro t j f;have ha:=j a sc;have hs:A2 R k (t.map c) (a.1,c a.2)=(A2 Q k t a).map c/\∀x∈A2 Q k t a,d x:=by
     unfold A2;by_cases m:a.2∈t
     .grind
     have p:¬c a.2∈t.map c:=by
      intro hh;obtain⟨x,g,e⟩:=IF.1 hh;exact m (h.inj x a.2 (f x g) ha e▸g)
     rw[As m];simp only[As p];exact YZ h k t a.2 f ha
    rw[AA2,OR,OR,hs.1];exact q _ (λb o=>j b (by simp[o])) hs.2
  rw[CS,CS];have e:t.map c++[c i]=(t++[i]).map c:=by simp
  have n:(R.getD (c i).toNat (0,[])).2=(Ak Q i).map λa=>(a.1,c a.2):=h.arc i hi;rw[n,e];refine key _ _ (h.cl i hi) λx g=>?_;grind
theorem Ir {o:List Int} (hn:o.Nodup) {i:Nat} (hi:i<o.length):Es o (o.getD i 0)=(i:Int):=by grind [Es]
theorem FJ {o:List Int} {x:Int} (h:x∈o):0<=Es o x/\Es o x<(o.length:Int)/\o.getD (Es o x).toNat 0=x:=by
 unfold Es;rw[At h];have a:=List.idxOf_lt_length_of_mem h
 simp_all
theorem xQ (hs:gR f) (n:Int):(Ak f n).Pairwise (λa b=>a.1<b.1):=(bN _).1 (gS hs n).1
structure RW (h:AE) (a b:List AD) (m:Int->Int):Prop where
 zero:m 0=0
 rng:∀i,0<=i->i<(a.length:Int)->0<=m i/\m i<(b.length:Int)
 ty:∀i,0<=i->i<(a.length:Int)->Ad h (a.getD i.toNat (0,[])).1 (b.getD (m i).toNat (0,[])).1=true
 arc:∀i,0<=i->i<(a.length:Int)->∀x∈Ak a i,Br (Ak b (m i)) x.1=m x.2
theorem Ow (h:l.Pairwise (λa b=>a.1<b.1)) {a:Int×Int} (ha:a∈l):Br l a.1=a.2:=by
 induction l with
 | nil=>cases ha
 | cons b l d =>
  obtain⟨h1,c⟩:=AAf.1 h;simp only[Br];rcases BY.1 ha with rfl|ha
  .rw[At rfl]
  grind
theorem bT {e:Int} (h:0<=Br l e):∃a∈l,a.1=e/\a.2=Br l e:=by
 induction l with
 | nil=>simp only[Br]at h;omega
 | cons b l c =>
  simp only[Br]at h ⊢;split
  .grind
  grind
theorem A4I (hs:gR f) {a:Int×Int} (ha:a∈Ak f n):Br (Ak f n) a.1=a.2:=Ow (xQ hs n) ha
def RO (f:List AD):Prop:=∀i:Int,0<i->i<(f.length:Int)->∃j,0<=j/\j<i/\∃x∈Ak f j,x.2=i
theorem A1G {k j:Nat} {v:Int} (hk:k<p.length):(p.set k v).getD j 0=if k=j then v else p.getD j 0:=by grind
theorem UW {f:List AD} (hf:Aa f):∀(k:Nat) (t:List Int) (n:Int),Lv f t->0<=n->n<f.length->n∉t ->
  ∀q,t.length<q->q<(EH f k t n).length->∃j,j<q/\∃a∈Ak f ((EH f k t n).getD j 0),a.2=(EH f k t n).getD q 0
 | 0,t,n,h,h0,h1,x,q,A,d=>by simp only[EH]at d;omega
 | k+1,t,n,h,h0,h1,x,q,A,d=>by
  have key:∀(l:List (Int×Int)) (u:List Int),(∀a∈l,a∈Ak f n)->Lv f u->t++[n] <+: u ->
    (∀q,t.length<q->q<u.length->∃j,j<q/\∃a∈Ak f (u.getD j 0),a.2=u.getD q 0) ->
    ∀q,t.length<q->q<(l.foldl (A2 f k) u).length->∃j,j<q/\∃a∈Ak f ((l.foldl (A2 f k) u).getD j 0),a.2=(l.foldl (A2 f k) u).getD q 0:=by
   intro l;induction l with
   | nil=>intro u _ _ _ hu q o c;exact hu q o c
   | cons a l H =>
    intro u y hu s E;have ha:=y a sc;have g:=CK hf ha;rw[OR];by_cases p:a.2∈u
    .grind [A2]
    have hs:A2 f k u a=EH f k u a.2:=by unfold A2;rw[As p]
    rw[hs];obtain⟨C,w⟩:=Fl hf k u a.2 hu g.1 g.2 p;have r:∀j,j<u.length->(EH f k u a.2).getD j 0=u.getD j 0:=λj D=>by
     obtain⟨v,m⟩:=w;rw[<-m];simp only[AS];rw[AA9 D]
    have G:u.getD t.length 0=n:=by
     obtain⟨v,m⟩:=s;rw[<-m];simp[AS]
    have B:t.length<u.length:=by
     have:=s.length_le;simp at this;omega
    refine H (EH f k u a.2) (λb i=>y b (by simp[i])) C (s.trans w) (λq o c=>?_);by_cases z:q<u.length
    .obtain⟨j,I,b,i,e⟩:=E q o z;refine⟨j,I,b,?_,?_⟩
     .rw[r j O1];exact i
     rw[r q z];exact e
    by_cases d:q=u.length
    .subst d;refine⟨t.length,B,a,?_,?_⟩
     .rw[r _ B,G];exact ha
     cases k with
     | zero=>simp only[EH]at c;omega
     | succ k =>
      have F:u++[a.2] <+: EH f (k+1) u a.2:=by
       rw[CS];exact(HQ (Fl hf k) _ _ (λb i=>CK hf i) (hu.snoc g.1 g.2 p)).2
      obtain⟨v,m⟩:=F;rw[<-m];simp[AS]
    exact UW hf k u a.2 hu g.1 g.2 p q O1 c
  rw[CS]at d ⊢;exact key _ (t++[n]) (λa ha=>ha) (h.snoc h0 h1 x) (AAU _) (λq o c=>by simp only[If,nO]at c;omega) q A d
theorem iB (x:List Int):K8 x x=true:=by grind [K8,Gt,Qq]
theorem P0 (h:AE) (t:Int):Ad h t t=true:=iB _
abbrev Ox (p:List Int) (n:Int):Int:=p.getD n.toNat 0
structure Fo (p:List Int) (rk:Int->Nat):Prop where
 rng:∀n,0<=n->n<(p.length:Int)->0<=Ox p n/\Ox p n<(p.length:Int)
 dec:∀n,0<=n->n<(p.length:Int)->Ox p n≠n->rk (Ox p n)<rk n
inductive Rt (p:List Int):Int->Int->Prop
 | base {n:Int} (h:Ox p n=n):Rt p n n
 | step {n r:Int} (h:Ox p n≠n) (h2:Rt p (Ox p n) r):Rt p n r
theorem Rt.det {r s:Int} (h:Rt p n r) (g:Rt p n s):r=s:=by
 induction h with
 | base h =>
  cases g with
  | base g=>rfl
  | step g _=>exact absurd h g
 | step h _ b =>
  cases g with
  | base g=>exact absurd g h
  | step _ a=>exact b a
theorem Rt.root {r:Int} (h:Rt p n r):Ox p r=r:=by
 induction h with
 | base h=>exact h
 | step _ _ a=>exact a
theorem Fo.ex {b:Int->Nat} (h:Fo p b):∀(k:Nat) (n:Int),b n<=k->0<=n->n<(p.length:Int)->∃r,Rt p n r/\0<=r/\r<(p.length:Int)
 | 0,n,hk,h0,h1=>by
  by_cases e:Ox p n=n
  .exact⟨n,.base e,h0,h1⟩
  have:=h.dec n h0 h1 e;omega
 | k+1,n,hk,h0,h1=>by
  by_cases e:Ox p n=n
  .exact⟨n,.base e,h0,h1⟩
  have g:=h.dec n h0 h1 e;have a:=h.rng n h0 h1;obtain⟨r,c,d,f⟩:=h.ex k (Ox p n) O1 a.1 a.2;exact⟨r,.step e c,d,f⟩
theorem Fo.root (h:Fo p a) (h0:0<=n) (h1:n<(p.length:Int)):∃r,Rt p n r/\0<=r/\r<(p.length:Int):=h.ex (a n) n (OS _) h0 h1
theorem Gi {v:Int} (h0:0<=n) (h1:n<(p.length:Int)) (x:Int) (a:0<=x):Ox (p.set n.toNat v) x=if x=n then v else Ox p x:=by
 unfold Ox;rw[A1G O1];by_cases e:x=n
 .subst e;rw[At rfl,At rfl]
 rw[As O1,As e]
def P1 (p q:List Int):Prop:=p.length=q.length/\∀x r,0<=x->x<(p.length:Int)->(Rt p x r↔Rt q x r)
theorem P1.refl (p:List Int):P1 p p:=⟨rfl,λ_ _ _ _=>Iff.rfl⟩
theorem P1.trans {s:List Int} (h:P1 p q) (g:P1 q s):P1 p s :=
 ⟨h.1.trans g.1,λx r a b=>(h.2 x r a b).trans (g.2 x r a (by rw[<-h.1];exact b))⟩
def Q2 (b n:Nat):List Int:=(List.range n).map λi=>((b+i:Nat):Int)
def De (b:Nat) (l:List (Int×Int)):List (Int×Int):=l.map λa=>(a.1,a.2+(b:Int))
theorem pU (b n:Nat):(Q2 b n).length=n:=by simp[Q2]
section
attribute [local go_sem] k9
def ED:List (Int×Int)->List (Int×Int)->List (Int×Int)×List (Int×Int)
 | [],y=>(y,[])
 | a :: x,[]=>(a :: x,[])
 | a :: x,b :: y =>
  if a.1<b.1 then (a :: (ED x (b :: y)).1,(ED x (b :: y)).2)
  else if b.1<a.1 then (b :: (ED (a :: x) y).1,(ED (a :: x) y).2)
  else (a :: (ED x y).1,(a.2,b.2) :: (ED x y).2)
termination_by x y=>x.length+y.length
end
theorem NL (hk:GC h) {a c:Int} (d:0<=a) (e:a<(h.1.length:Int)) (f:0<=b) (b1:b<(h.1.length:Int)) (c0:0<=c) (c1:c<(h.1.length:Int)) (h1:Ad h a b=true) (g:Ad h b c=true):Ad h a c=true :=
 (Bq hk d e c0 c1).2 λi hi=>(Bq hk d e f b1).1 h1 i ((Bq hk f b1 c0 c1).1 g i hi)
theorem Oy:∀ {x y:List (Int×Int)} {a:Int×Int},a∈x->a∈(ED x y).1
 | [],_,_,h=>by cases h
 | b :: x,[],a,h=>by simpa[ED] using h
 | b :: x,c :: y,a,h=>by
  rw[ED];split
  .rcases BY.1 h with rfl|h
   .simp
   exact GO _ (Oy h)
  split
  .exact GO _ (Oy h)
  rcases BY.1 h with rfl|h
  .simp
  exact GO _ (Oy h)
termination_by x y=>x.length+y.length
theorem L1:∀ {x y:List (Int×Int)} {a:Int×Int},a∈y->a∈(ED x y).1\/∃t,(a.1,t)∈(ED x y).1/\(t,a.2)∈(ED x y).2
 | [],y,a,h=>by
  left;simpa[ED] using h
 | b :: x,[],a,h=>by cases h
 | b :: x,c :: y,a,h=>by
  rw[ED];split
  .rcases L1 (x:=x) h with g|⟨t,d,e⟩
   .exact .inl (GO _ g)
   exact .inr ⟨t,GO _ d,e⟩
  split
  .rcases BY.1 h with rfl|h
   .left;simp
   rcases L1 (x:=b :: x) h with g|⟨t,d,e⟩
   .exact .inl (GO _ g)
   exact .inr ⟨t,GO _ d,e⟩
  rcases BY.1 h with rfl|h
  .right;exact⟨b.2,by rw[show a.1=b.1 by omega];simp,by simp⟩
  rcases L1 (x:=x) h with g|⟨t,d,e⟩
  .exact .inl (GO _ g)
  exact .inr ⟨t,GO _ d,GO _ e⟩
termination_by x y=>x.length+y.length
theorem Hy:∀ {x y:List (Int×Int)} {a:Int×Int},a∈(ED x y).1->a∈x\/a∈y
 | [],y,a,h=>by
  right;simpa[ED] using h
 | b :: x,[],a,h=>by
  left;simpa[ED] using h
 | b :: x,c :: y,a,h=>by
  rw[ED]at h;split at h
  .rcases BY.1 h with rfl|h
   .left;simp
   rcases Hy h with g|g
   .exact .inl (GO _ g)
   exact .inr g
  split at h
  .rcases BY.1 h with rfl|h
   .right;simp
   rcases Hy h with g|g
   .exact .inl g
   exact .inr (GO _ g)
  rcases BY.1 h with rfl|h
  .left;simp
  rcases Hy h with g|g
  .exact .inl (GO _ g)
  exact .inr (GO _ g)
termination_by x y=>x.length+y.length
theorem Oz:∀ {x y:List (Int×Int)} {q:Int×Int},q∈(ED x y).2->∃e,(e,q.1)∈x/\(e,q.2)∈y
 | [],y,q,h=>by simp[ED]at h
 | b :: x,[],q,h=>by simp[ED]at h
 | b :: x,c :: y,q,h=>by
  rw[ED]at h;split at h
  .obtain⟨e,h1,a⟩:=Oz h;exact⟨e,GO _ h1,a⟩
  split at h
  .obtain⟨e,h1,a⟩:=Oz h;exact⟨e,h1,GO _ a⟩
  rcases BY.1 h with rfl|h
  .exact⟨b.1,by simp,by rw[show b.1=c.1 by omega];simp⟩
  obtain⟨e,h1,a⟩:=Oz h;exact⟨e,GO _ h1,GO _ a⟩
termination_by x y=>x.length+y.length
theorem R8:∀ {x y:List (Int×Int)},(ED x y).2.length<=x.length
 | [],y=>by simp[ED]
 | b :: x,[]=>by simp[ED]
 | b :: x,c :: y=>by
  rw[ED];split
  .have:=R8 (x:=x) (y:=c :: y);simp only[NO];omega
  split
  .exact R8 (x:=b :: x) (y:=y)
  have:=R8 (x:=x) (y:=y);simp only[NO];omega
termination_by x y=>x.length+y.length
abbrev VM (l:List (Int×Int)):Prop:=l.Pairwise (λa b=>a.1<b.1)
theorem R9:∀ {x y:List (Int×Int)},VM x->VM y->VM (ED x y).1
 | [],y,_,h=>by simpa[ED] using h
 | b :: x,[],h,_=>by simpa[ED] using h
 | b :: x,c :: y,i,j=>by
  have d:=AAf.1 i;have e:=AAf.1 j;rw[ED];split
  .rename_i f;refine AAf.2 ⟨λa ha=>?_,R9 d.2 j⟩;rcases Hy ha with g|g
   .exact d.1 a g
   rcases BY.1 g with rfl|g
   .exact f
   have:=e.1 a g;omega
  split
  .rename_i f;refine AAf.2 ⟨λa ha=>?_,R9 i e.2⟩;rcases Hy ha with g|g
   .rcases BY.1 g with rfl|g
    .exact f
    have:=d.1 a g;omega
   exact e.1 a g
  refine AAf.2 ⟨λa ha=>?_,R9 d.2 e.2⟩;rcases Hy ha with g|g
  .exact d.1 a g
  have:=e.1 a g;omega
termination_by x y=>x.length+y.length
theorem A1H {q:Int->Nat} (m:Fo p q) {a:Int} (j:0<=a) (c:0<=b) (b1:b<(p.length:Int)) (ha:Ox p a=a) (k:Ox p b=b) (f:a≠b) {x r:Int} (d:0<=x) (s:x<(p.length:Int)) (h:Rt p x r):Rt (p.set b.toNat a) x (if r=b then a else r):=by
 have l:Rt (p.set b.toNat a) a a:=.base (by rw[Gi c b1 a j,As f];exact ha);induction h with
 | @base n hn =>
  split
  .rename_i e;rw[e];exact .step (by rw[Gi c b1 b c,At rfl];exact f) (by rw[Gi c b1 b c,At rfl];exact l)
  rename_i e;exact .base (by rw[Gi c b1 n d,As e];exact hn)
 | @step n r hn _ o =>
  have g:n≠b:=λe=>hn (e▸k);have i:=m.rng n d s;exact .step (by rw[Gi c b1 n d,As g];exact hn) (by rw[Gi c b1 n d,As g];exact o i.1 i.2)
theorem A1I {c:Int->Nat} (h:Fo p c) {a:Int} (i:0<=a) (j:a<(p.length:Int)) (d:0<=b) (b1:b<(p.length:Int)) (ha:Ox p a=a) (m:Ox p b=b) (l:a≠b):∃q,Fo (p.set b.toNat a) q:=by
 classical
 refine⟨λx=>if Rt p x b then c x+c a+1 else c x,λn n0 n1=>?_,λn n0 n1 hn=>?_⟩
 .rw[AAc]at n1 ⊢;rw[Gi d b1 n n0];split
  .exact⟨i,j⟩
  exact h.rng n n0 n1
 rw[AAc]at n1;rw[Gi d b1 n n0]at hn ⊢;by_cases e:n=b
 .subst e;rw[At rfl];have h1:¬Rt p a n:=λg=>l (g.det (.base ha)).symm;rw[As h1,At (.base m)];omega
 rw[As e]at hn ⊢;have o:=h.dec n n0 n1 hn;have f:Rt p n b↔Rt p (Ox p n) b:=by
  constructor
  .intro g;cases g with
   | base g=>exact absurd g hn
   | step _ g=>exact g
  exact λg=>.step hn g
 by_cases g:Rt p n b
 .rw[At g,At (f.1 g)];omega
 rw[As g,As (λk=>g (f.2 k))];exact o
inductive EG (n:Nat) (p:List Int) (W:List (Int×Int)):Int->Int->Prop
 | cls {x y r:Int} (x0:0<=x) (x1:x<(n:Int)) (y0:0<=y) (y1:y<(n:Int)) (h:Rt p x r) (g:Rt p y r):EG n p W x y
 | wt {x y:Int} (h:(x,y)∈W):EG n p W x y
 | symm {x y:Int} (h:EG n p W x y):EG n p W y x
 | trans {x y z:Int} (h:EG n p W x y) (g:EG n p W y z):EG n p W x z
theorem EG.mono {n:Nat} (h1:∀x y r,0<=x->x<(n:Int)->0<=y->y<(n:Int)->Rt p x r->Rt p y r->EG n q V x y) (a:∀x y,(x,y)∈l->EG n q V x y) {x y:Int} (h:EG n p l x y):EG n q V x y:=by
 induction h with
 | cls e f i j h g=>exact h1 _ _ _ e f i j h g
 | wt h=>exact a _ _ h
 | symm _ b=>exact .symm b
 | trans _ _ c d=>exact .trans c d
structure pV (h:AE) (N:List AD) (P:List (Int×Int)) (X:List AD) (v:Int->Int):Prop where
 rng:∀x,0<=x->x<(N.length:Int)->0<=v x/\v x<(X.length:Int)
 ty:∀x,0<=x->x<(N.length:Int)->Ad h (N.getD x.toNat (0,[])).1 (X.getD (v x).toNat (0,[])).1=true
 arc:∀x,0<=x->x<(N.length:Int)->∀a∈Ak N x,Br (Ak X (v x)) a.1=v a.2
 eq:∀q∈P,v q.1=v q.2
structure JX (h:AE) (X:List AD) (v:Int->Int) (n:Nat) (p ty:List Int) (ar:List (List (Int×Int))) (W:List (Int×Int)):Prop where
 cls:∀x r,0<=x->x<(n:Int)->Rt p x r->v x=v r
 wt:∀w∈W,v w.1=v w.2
 ty:∀r,0<=r->r<(n:Int)->Ox p r=r->Ad h (ty.getD r.toNat 0) (X.getD (v r).toNat (0,[])).1=true
 arc:∀r,0<=r->r<(n:Int)->Ox p r=r->∀a∈ar.getD r.toNat [],Br (Ak X (v r)) a.1=v a.2
def Ji (N:List AD):List Int:=N.flatMap λx=>x.2.map (·.1)
structure JI (h:AE) (N:List AD) (P:List (Int×Int)) (p ty:List Int) (ar:List (List (Int×Int))) (W:List (Int×Int)):Prop where
 nty:DP h N
 fo:∃rk,Fo p rk
 lp:p.length=N.length
 lt:ty.length=N.length
 la:ar.length=N.length
 wr:∀w∈W,(0<=w.1/\w.1<(N.length:Int))/\(0<=w.2/\w.2<(N.length:Int))
 tyr:∀x,0<=x->x<(N.length:Int)->0<=ty.getD x.toNat 0/\ty.getD x.toNat 0<(h.1.length:Int)
 arr:∀k,∀a∈ar.getD k [],(0<=a.2/\a.2<(N.length:Int))/\a.1∈Ji N
 srt:∀k,VM (ar.getD k [])
 sp:∀q∈P,EG N.length p W q.1 q.2
 st:∀x r,0<=x->x<(N.length:Int)->Rt p x r->Ad h (N.getD x.toNat (0,[])).1 (ty.getD r.toNat 0)=true
 sa:∀x r,0<=x->x<(N.length:Int)->Rt p x r->∀a∈Ak N x,∃t,(a.1,t)∈ar.getD r.toNat []/\EG N.length p W a.2 t
 co:∀X v,DP h X->pV h N P X v->JX h X v N.length p ty ar W
theorem HS {b:Int->Nat} (a:Fo p b) {x r:Int} (d:0<=x) (e:x<(p.length:Int)) (h:Rt p x r):0<=r/\r<(p.length:Int):=by
 obtain⟨s,hs,c,s1⟩:=a.root d e;rw[h.det hs];exact⟨c,s1⟩
section
variable {h:AE} {N:List AD} {P:List (Int×Int)} {p ty:List Int} {ar:List (List (Int×Int))} {W:List (Int×Int)} {s t a b:Int}
theorem A1J (n:JI h N P p ty ar (W++[(s,t)])) (hs:Rt p s a) (u:Rt p t a):JI h N P p ty ar W:=by
 obtain⟨nty,fo,lp,lt,la,wr,tyr,arr,srt,sp,st,sa,co⟩:=n;have b:=wr (s,t) sc;have l:∀ {x y},EG N.length p (W++[(s,t)]) x y->EG N.length p W x y:=λ{x y} g=>g.mono (λx y r d f A B h1 k=>.cls d f A B h1 k) (λx y c=>by
  rcases IS.1 c with c|c
  .exact .wt c
  have e:(x,y)=(s,t):=by simpa using c
  cases e;exact .cls b.1.1 b.1.2 b.2.1 b.2.2 hs u)
 refine⟨nty,fo,lp,lt,la,λw b=>wr w (tO _ b),tyr,arr,srt,λq o=>l (sp q o),st,λx r d f C a ha=>?_,λX v m z=>?_⟩
 .grind
 obtain⟨c1,c2,i,j⟩:=co X v m z;exact⟨c1,λw b=>c2 w (tO _ b),i,j⟩
theorem lP (hk:GC h) (c:JI h N P p ty ar (W++[(s,t)])) (hs:Rt p s a) (g:Rt p t b) {X:List AD} {v:Int->Int} (o:DP h X) (q:pV h N P X v) :
  v a=v b/\(Cb h (ty.getD a.toNat 0) (ty.getD b.toNat 0)).2=true/\Ad h (Cb h (ty.getD a.toNat 0) (ty.getD b.toNat 0)).1 (X.getD (v a).toNat (0,[])).1=true:=by
 obtain⟨D,fo⟩:=c.fo;obtain⟨⟨i,s1⟩,j,l⟩:=c.wr (s,t) sc;simp only at i s1 j l;have d:=HS fo i (by rw[c.lp];exact s1) hs;have f:=HS fo j (by rw[c.lp];exact l) g;rw[c.lp]at d f;obtain⟨c1,c2,m,B⟩:=c.co X v o q;have u:=c1 s a i s1 hs;have w:=c1 t b j l g;have x:v s=v t:=c2 (s,t) sc;have e:v a=v b:=by rw[<-u,<-w,x]
 have y:=m a d.1 d.2 hs.root;have n:=m b f.1 f.2 g.root;rw[<-e]at n;have C:=q.rng a d.1 d.2;have r:=o _ (AG X (0,[]) (k:=(v a).toNat) O1);have ta:=c.tyr a d.1 d.2;have tb:=c.tyr b f.1 f.2;obtain⟨z,A⟩:=(K9 hk ta.1 ta.2 tb.1 tb.2).2 _ r.1 r.2 y n;exact⟨e,z,A⟩
theorem Wv {α:Type} {l:List α} {d v:α} {a r:Int} (b:0<=a) (c:a<(l.length:Int)) (e:0<=r):(l.set a.toNat v).getD r.toNat d=if r=a then v else l.getD r.toNat d:=by grind
theorem xR (hk:GC h) (ae:JI h N P p ty ar (W++[(s,t)])) (hs:Rt p s a) (L:Rt p t b) (Y:a≠b) (al:(Cb h (ty.getD a.toNat 0) (ty.getD b.toNat 0)).2=true) :
  JI h N P (p.set b.toNat a) (ty.set a.toNat (Cb h (ty.getD a.toNat 0) (ty.getD b.toNat 0)).1) (ar.set a.toNat (ED (ar.getD a.toNat []) (ar.getD b.toNat [])).1) (W++(ED (ar.getD a.toNat []) (ar.getD b.toNat [])).2):=by
 have am:=λX v J M=>lP (X:=X) (v:=v) hk ae hs L J M;obtain⟨nty,⟨bb,fo⟩,lp,lt,la,wr,tyr,arr,srt,sp,st,sa,co⟩:=ae;obtain⟨⟨Q,s1⟩,R,S⟩:=wr (s,t) sc;simp only at Q s1 R S;have n:=HS fo Q (by rw[lp];exact s1) hs;have A:=HS fo R (by rw[lp];exact S) L;have ha:=hs.root;have Z:=L.root;have F:=λ{x r:Int} (c:0<=x) (i:x<(N.length:Int)) (O:Rt p x r)=>A1H fo n.1 A.1 A.2 ha Z Y c (by rw[lp];exact i) O;have aa:∀ {x r:Int},0<=x->x<(N.length:Int)->Rt (p.set b.toNat a) x r->∃j,Rt p x j/\r=if j=b then a else j:=λ{x r} c i O=>by
  obtain⟨j,h1,-,-⟩:=fo.root c (by rw[lp];exact i);exact⟨j,h1,O.det (F c i h1)⟩
 have ta:=tyr a n.1 (by rw[<-lp];exact n.2);have tb:=tyr b A.1 (by rw[<-lp];exact A.2);obtain⟨ax,ay,az,ba⟩:=(K9 hk ta.1 ta.2 tb.1 tb.2).1 al;generalize aq:(Cb h (ty.getD a.toNat 0) (ty.getD b.toNat 0)).1=m at *;generalize ag:ar.getD a.toNat []=xs at *;generalize ah:ar.getD b.toNat []=ys at *;have ao:EG N.length (p.set b.toNat a) (W++(ED xs ys).2) s t:=by
  have h1:=F Q s1 hs;have I:=F R S L;rw[As Y]at h1;rw[At rfl]at I;exact .cls Q s1 R S h1 I
 have E:∀ {x y},EG N.length p (W++[(s,t)]) x y->EG N.length (p.set b.toNat a) (W++(ED xs ys).2) x y:=λ{x y} g=>g.mono (λx y r c i aj ak h1 I=>.cls c i aj ak (F c i h1) (F aj ak I)) (λx y G=>by
  rcases IS.1 G with G|G
  .exact .wt (tO _ G)
  have e:(x,y)=(s,t):=by simpa using G
  cases e;exact ao)
 have av:=λ{r:Int} (D:0<=r)=>Wv (l:=ty) (d:=0) (v:=m) n.1 (by rw[lt,<-lp];exact n.2) D;have K:=λ{r:Int} (D:0<=r)=>Wv (l:=ar) (d:=[]) (v:=(ED xs ys).1) n.1 (by rw[la,<-lp];exact n.2) D;refine⟨nty,A1I fo n.1 n.2 A.1 A.2 ha Z Y,by rw[AAc];exact lp,by rw[AAc];exact lt,by rw[AAc];exact la,λw o=>?_,λx c i=>?_,λk y C=>?_,λk=>?_,λq an=>E (sp q an),λx r c i z=>?_,λx r c i z y C=>?_,λX v J M=>?_⟩
 .rcases IS.1 o with o|o
  .exact wr w (tO _ o)
  grind [Oz]
 .grind
 .have h1:=K (r:=(k:Int)) O1;rw[iS]at h1;rw[h1]at C;split at C
  .grind [Hy]
  exact arr _ _ C
 .have h1:=K (r:=(k:Int)) O1;rw[iS]at h1;rw[h1];split
  .grind [R9]
  exact srt k
 .obtain⟨j,h1,rfl⟩:=aa c i z;have O:=nty _ (AG N (0,[]) (k:=x.toNat) O1);have af:=HS fo c (by rw[lp];exact i) h1;by_cases e:j=b
  .grind [NL]
  grind [NL]
 .obtain⟨j,h1,rfl⟩:=aa c i z;have af:=HS fo c (by rw[lp];exact i) h1;obtain⟨u,H,T⟩:=sa x j c i h1 y C;by_cases e:j=b
  .rw[At e,K n.1,At rfl];rw[e,ah]at H;rcases L1 (x:=xs) H with g|⟨w,U,V⟩
   .exact⟨u,g,E T⟩
   exact⟨w,U,.trans (E T) (.symm (.wt (AAA _ V)))⟩
  rw[As e,K af.1];split
  .rename_i B;rw[B,ag]at H;exact⟨u,Oy H,E T⟩
  exact⟨u,H,E T⟩
 obtain⟨c1,c2,ap,ab⟩:=co X v J M;obtain⟨e,-,aw⟩:=am X v J M;have au:∀r,0<=r->r<(N.length:Int)->Ox (p.set b.toNat a) r=r->r≠b/\Ox p r=r:=λr D ai z=>by grind [Gi]
 refine⟨λx r c i z=>?_,λw o=>?_,λr D ai z=>?_,λr D ai z y C=>?_⟩
 .obtain⟨j,h1,rfl⟩:=aa c i z;have:=c1 x j c i h1;split
  .rename_i B;rw[this,B,e]
  exact this
 .rcases IS.1 o with o|o
  .exact c2 w (tO _ o)
  obtain⟨f,ad,B⟩:=Oz o;rw[<-ag]at ad;rw[<-ah]at B;have U:=ab a n.1 (by rw[<-lp];exact n.2) ha _ ad;have V:=ab b A.1 (by rw[<-lp];exact A.2) Z _ B;rw[<-U,<-V,e]
 .grind
 grind [Hy]
end
theorem bU {l:List Nat} {f g:Nat->Bool} {b:Nat} (hn:l.Nodup) (c:b∈l) (h1:f b=true) (d:g b=false) (h:∀x∈l,x≠b->g x=f x):(l.filter g).length+1=(l.filter f).length:=by
 induction l with
 | nil=>cases c
 | cons x l m =>
  obtain⟨k,j⟩:=AAi.1 hn;by_cases e:x=b
  .subst e;have:l.filter g=l.filter f:=List.filter_congr λy a=>h y (by simp[a]) (λe=>k (e▸a));rw[AAp,AAp,As (by rw[d];simp),At h1,this];rfl
  have i:b∈l:=by
   rcases BY.1 c with g|g
   .exact absurd g.symm e
   exact g
  have n:=m j i (λy a=>h y (by simp[a]));rw[AAp,AAp,h x sc e];split
  .simp only[NO];omega
  exact n
def nR (p:List Int):Nat:=((List.range p.length).filter λk=>p.getD k 0==(k:Int)).length
theorem A1K {a:Int} (d:0<=b) (b1:b<(p.length:Int)) (c:Ox p b=b) (e:a≠b):nR (p.set b.toNat a)+1=nR p:=by
 unfold nR;rw[AAc];refine bU (b:=b.toNat) List.nodup_range (oN.2 O1) ?_ ?_ λx _ f=>?_
 .rw[AA3];unfold Ox at c;omega
 .rw[Ve _ _ _ O1,AAP];omega
 rw[getD_set_ne _ _ _ O1]
theorem P2 {α:Type} [DecidableEq α]:∀ {l l':List α},l.Nodup->(∀x∈l,x∈l')->l.length<=l'.length
 | [],_,_,_=>by simp
 | x :: l,l',hn,h=>by
  obtain⟨d,c⟩:=AAi.1 hn;have a:=h x sc;have:=P2 (l:=l) (l':=l'.erase x) c (λy b=>(AC2 (λe:y=x=>d (by rw[<-e];exact b))).2 (h y (by simp[b])));rw[List.length_erase_of_mem a]at this;have:=ABO a;simp only[NO];omega
theorem lQ (h:VM l) {S:List Int} (hs:∀a∈l,a.1∈S):l.length<=S.length:=by
 have hn:(l.map (·.1)).Nodup:=by
  unfold List.Nodup;rw[AAy];exact h.imp λg=>by omega
 have:=P2 hn (l':=S) (λx b=>by
  obtain⟨a,ha,rfl⟩:=IF.1 b;exact hs a ha)
 rwa [dB]at this
theorem xS {N:List AD} {P:List (Int×Int)} {ty:List Int} {ar:List (List (Int×Int))} (t:JI h N P p ty ar []) {a:Int} (ha:0<=a/\a<(N.length:Int)) (s:0<=b/\b<(N.length:Int)):JI h N (P++[(a,b)]) p ty ar [(a,b)]:=by
 obtain⟨nty,fo,lp,lt,la,wr,tyr,arr,srt,sp,st,sa,co⟩:=t;have l:∀ {x y},EG N.length p [] x y->EG N.length p [(a,b)] x y:=λ{x y} g=>g.mono (λx y r j k C D h1 f=>.cls j k C D h1 f) (λx y A=>by cases A);refine⟨nty,fo,lp,lt,la,λw i=>?_,tyr,arr,srt,λq c=>?_,st,λx r j k z y B=>?_,λX v o d=>?_⟩
 .have e:w=(a,b):=by simpa using i
  subst e;exact⟨ha,s⟩
 .rcases IS.1 c with c|c
  .exact l (sp q c)
  have e:q=(a,b):=by simpa using c
  subst e;exact .wt sc
 .obtain⟨u,h1,f⟩:=sa x r j k z y B;exact⟨u,h1,l f⟩
 obtain⟨c1,c2,m,n⟩:=co X v o ⟨d.rng,d.ty,d.arc,λq c=>d.eq q (tO _ c)⟩;refine⟨c1,λw i=>?_,m,n⟩;have e:w=(a,b):=by simpa using i
 subst e;exact d.eq _ sc
open Classical in
noncomputable def Hb (p:List Int) (x:Int):Int:=if h:∃r,Rt p x r then h.choose else x
theorem iC {x r:Int} (h:Rt p x r):Hb p x=r:=by
 unfold Hb;rw[dif_pos ⟨r,h⟩];exact(Exists.choose_spec (p:=λr=>Rt p x r) ⟨r,h⟩).det h
theorem P3 {b:Int->Nat} (a:Fo p b) {x:Int} (c:0<=x) (d:x<(p.length:Int)):Rt p x (Hb p x):=by
 obtain⟨r,h,-,-⟩:=a.root c d;rw[iC h];exact h
noncomputable def quo (p ty:List Int) (ar:List (List (Int×Int))):List AD:=(List.range p.length).map λk=>(ty.getD k 0,(ar.getD k []).map λa=>(a.1,Hb p a.2))
theorem SA (p ty:List Int) (ar:List (List (Int×Int))):(quo p ty ar).length=p.length:=by simp[quo]
theorem O2 {ty:List Int} {ar:List (List (Int×Int))} (n0:0<=n) (n1:n<(p.length:Int)):(quo p ty ar).getD n.toNat (0,[])=(ty.getD n.toNat 0,(ar.getD n.toNat []).map λa=>(a.1,Hb p a.2)):=by
 unfold quo;rw[AS,AAt,AB9 O1];rfl
theorem Ww {α β:Type} (f:α->β) {l:List α} (d:α) (e:β) {i:Nat} (h:i<l.length):(l.map f).getD i e=f (l.getD i d):=by
 simp[AS,An h]
structure A6D (f:List AD) (r:Int) (o:List Int):Prop where
 ok:Lv f o
 zero:o.getD 0 0=r/\0<o.length
 cl:∀n∈o,∀a∈Ak f n,a.2∈o
theorem Jj (hf:Aa f) {r:Int} (b:0<=r) (c:r<(f.length:Int)):A6D f r (EH f f.length [] r):=by
 have h1:=Fl hf f.length [] r (Jh f) b c sc;have d:=NH hf f.length [] r (Jh f) b c sc sc;have e:[r] <+: EH f f.length [] r:=by
  obtain⟨k,hk⟩:∃k,f.length=k+1:=⟨f.length-1,by omega⟩;rw[hk,CS];exact(HQ (Fl hf k) _ _ (λa ha=>CK hf ha) ((Jh f).snoc b c sc)).2
 refine⟨h1.1,?_,λn hn a ha=>?_⟩
 .obtain⟨t,g⟩:=e;rw[<-g];exact⟨rfl,by simp⟩
 rcases d.2 n hn with h|h
 .cases h
 exact h a ha
theorem LK {r:Int} {i:Nat} (hi:i<(EH f f.length [] r).length):(AQ f r).getD i (0,[])=Ip f (EH f f.length [] r) ((EH f f.length [] r).getD i 0):=by
 unfold AQ;simp[AS,hi]
theorem LL (f:List AD) (r:Int):(AQ f r).length=(EH f f.length [] r).length:=by simp[AQ]
def EU (f g:List AD):List AD:=f++g.map λx=>(x.1,De f.length x.2)
theorem Gw (f g:List AD):(EU f g).length=f.length+g.length:=by simp[EU]
theorem NM {x:Int} (a:0<=x) (b:x<(f.length:Int)):(EU f g).getD x.toNat (0,[])=f.getD x.toNat (0,[]):=by
 unfold EU;rw[AS,AS,AA9 O1]
theorem LM {y:Int} (a:0<=y) (b:y<(g.length:Int)):(EU f g).getD ((f.length:Int)+y).toNat (0,[])=((g.getD y.toNat (0,[])).1,De f.length (g.getD y.toNat (0,[])).2):=by
 unfold EU;have e:((f.length:Int)+y).toNat=f.length+y.toNat:=by omega
 rw[e,AS,AA4 O1,ABI];rw[<-AS];exact Ww (λx:AD=>(x.1,De f.length x.2)) (0,[]) (0,[]) O1
theorem lR {n:Nat} {x y:Int} (h:EG n p [] x y):Hb p x=Hb p y:=by
 induction h with
 | cls _ _ _ _ h g=>rw[iC h,iC g]
 | wt h=>cases h
 | symm _ a=>exact a.symm
 | trans _ _ b c=>exact b.trans c
noncomputable abbrev P4 (p ty:List Int) (ar:List (List (Int×Int))):List Int:=EH (quo p ty ar) (quo p ty ar).length [] (Hb p 0)
structure A3c (h:AE) (N:List AD) (P:List (Int×Int)) (U:List AD) (v:Int->Int):Prop where
 good:Aa U
 pos:0<U.length
 str:∀x∈U,VM x.2
 feat:∀x∈U,∀a∈x.2,a.1∈Ji N
 ty:DP h U
 ro:RO U
 zero:v 0=0
 proj:pV h N P U v
 least:∀X w,DP h X->pV h N P X w->w 0=0->∃m,RW h U X m
 len:U.length<=N.length
section
variable {h:AE} {N:List AD} {P:List (Int×Int)} {p ty:List Int} {ar:List (List (Int×Int))}
theorem P5 (a:JI h N P p ty ar []) (b:Aa (quo p ty ar)) (c:0<N.length):A6D (quo p ty ar) (Hb p 0) (P4 p ty ar):=by
 obtain⟨d,fo⟩:=a.fo;have lp:=a.lp;have:=HS fo (x:=0) O1 O1 (P3 fo O1 O1);exact Jj b this.1 (by rw[SA];exact this.2)
theorem UX (d:JI h N P p ty ar []) (c:Aa (quo p ty ar)) (b:0<N.length):Hb p 0∈P4 p ty ar:=by
 have a:=P5 d c b;have:=AG (P4 p ty ar) 0 a.zero.2;rw[a.zero.1]at this;exact this
theorem xT (a:JI h N P p ty ar []) {x y:Int} (b:(x,y)∈P) (c:Hb p x∈P4 p ty ar):Hb p y∈P4 p ty ar:=by
 rw[<-lR (a.sp (x,y) b)];exact c
theorem iD (b:JI h N P p ty ar []) (f:Aa (quo p ty ar)) (e:0<N.length) {x:Int} (c:0<=x) (k:x<(N.length:Int)) (j:Hb p x∈P4 p ty ar) {a:Int×Int} (ha:a∈Ak N x):Hb p a.2∈P4 p ty ar:=by
 obtain⟨l,fo⟩:=b.fo;have lp:=b.lp;obtain⟨t,i,g⟩:=b.sa x _ c k (P3 fo c O1) a ha;rw[lR g];have d:=HS fo c O1 (P3 fo c O1);refine(P5 b f e).cl _ j (a.1,Hb p t) ?_;rw[Ak,O2 d.1 d.2];exact IF.2 ⟨(a.1,t),i,rfl⟩
def pW (N:List AD) (k:Nat) (g:List AD):Prop:=∀i:Int,0<=i->i<(g.length:Int)->(k:Int)+i<(N.length:Int)/\N.getD ((k:Int)+i).toNat (0,[])=((g.getD i.toNat (0,[])).1,De k (g.getD i.toNat (0,[])).2)
theorem UY (m:JI h N P p ty ar []) (f:Aa (quo p ty ar)) (e:0<N.length) {k:Nat} {g:List AD} (l:pW N k g) (r:RO g) (hk:Hb p (k:Int)∈P4 p ty ar):∀(n:Nat) (i:Int),i.toNat<=n->0<=i->i<(g.length:Int)->Hb p ((k:Int)+i)∈P4 p ty ar:=by
 intro n;induction n with
 | zero =>
  intro i hn o c;have:i=0:=by omega
  subst this;rw[ACi];exact hk
 | succ n q =>
  intro i hn o c;by_cases hi:i=0
  .subst hi;rw[ACi];exact hk
  obtain⟨j,d,s,a,ha,rfl⟩:=r i O1 c;have b:=l j d O1;have:=iD m f e (x:=(k:Int)+j) O1 b.1 (q j O1 d O1) (a:=(a.1,a.2+(k:Int))) (by
   rw[Ak,b.2];exact IF.2 ⟨a,ha,rfl⟩)
  rw[Int.add_comm];exact this
end
theorem bV {N:List AD} {P:List (Int×Int)} {f:List AD} (e:pV h N P f v) {k:Nat} {g:List AD} (d:pW N k g) (j:v (k:Int)=0):RW h g f λi=>v ((k:Int)+i):=by
 refine⟨by show v ((k:Int)+0)=0;rw[ACi];exact j,λi b c=>?_,λi b c=>?_,λi b c a ha=>?_⟩
 .exact e.rng _ O1 (d i b c).1
 .have:=e.ty _ O1 (d i b c).1;rw[(d i b c).2]at this;exact this
 have:=e.arc _ O1 (d i b c).1 (a.1,a.2+(k:Int)) (by
  rw[Ak,(d i b c).2];exact IF.2 ⟨a,ha,rfl⟩)
 rw[Int.add_comm (k:Int) a.2];exact this
theorem SB {g X:List AD} {m:Int->Int} (a:RW h g X m):pV h g [] X m:=⟨a.rng,a.ty,a.arc,λq b=>by cases b⟩
theorem bW {X:List AD} (hf:Aa f) (m:Aa g) (h1:pV h f [] X v) (i:pV h g [] X w):pV h (EU f g) [] X (λx=>if x<(f.length:Int) then v x else w (x-(f.length:Int))):=by
 have j:=Gw f g;refine⟨λx d e=>?_,λx d e=>?_,λx d e a ha=>?_,λq n=>by cases n⟩
 .rw[j]at e;show _/\_;try simp only
  split
  .exact h1.rng x d (by assumption)
  exact i.rng _ O1 O1
 .rw[j]at e;try simp only
  by_cases c:x<(f.length:Int)
  .rw[At c,NM d c];exact h1.ty x d c
  rw[As c];have:=LM (f:=f) (g:=g) (y:=x-(f.length:Int)) O1 O1;rw[show (f.length:Int)+(x-(f.length:Int))=x by omega]at this;rw[this];exact i.ty _ O1 O1
 rw[j]at e;try simp only
 by_cases c:x<(f.length:Int)
 .rw[At c];rw[Ak,NM d c]at ha;have l:=CK hf ha;rw[At l.2];exact h1.arc x d c a ha
 rw[As c];have:=LM (f:=f) (g:=g) (y:=x-(f.length:Int)) O1 O1;rw[show (f.length:Int)+(x-(f.length:Int))=x by omega]at this;rw[Ak,this]at ha;obtain⟨b,k,rfl⟩:=IF.1 ha;have l:=CK m k;rw[As (by simp only;omega)];try simp only
 rw[show b.2+(f.length:Int)-(f.length:Int)=b.2 by omega];exact i.arc _ O1 O1 b k
theorem xU {N X:List AD} {P:List (Int×Int)} (h1:pV h N [] X v) (a:∀q∈P,v q.1=v q.2):pV h N P X v:=⟨h1.rng,h1.ty,h1.arc,a⟩
theorem Wx {N f g:List AD} {k:Nat} (h:pW f k N):pW (EU f g) k N:=by
 intro i a b;have:=h i a b;rw[Gw,NM O1 this.1];exact⟨by omega,this.2⟩
theorem Wy:pW f 0 f:=by
 intro i c b;rw[show ((0:Nat):Int)+i=i by omega];refine⟨b,?_⟩;have:De 0 (f.getD i.toNat (0,[])).2=(f.getD i.toNat (0,[])).2:=by
  unfold De;rw[AAb (g:=id) (λa _=>by show (a.1,a.2+((0:Nat):Int))=a;rw[Int.natCast_zero,ACi]),List.map_id]
 rw[this]
theorem UZ:pW (EU f g) f.length g:=by
 intro i a b;rw[Gw,LM a b];exact⟨by omega,rfl⟩
set_option maxHeartbeats 1000000 in
theorem A4J {h:AE} {N:List AD} {P:List (Int×Int)} {p ty:List Int} {ar:List (List (Int×Int))} (L:JI h N P p ty ar []) (E:Aa (quo p ty ar)) (O:0<N.length) (H:∀x,0<=x->x<(N.length:Int)->Hb p x∈P4 p ty ar) :
  A3c h N P (AQ (quo p ty ar) (Hb p 0)) (λx=>Es (P4 p ty ar) (Hb p x)):=by
 have s:=P5 L E O
 have af:=UX L E O
 obtain⟨nty,⟨av,fo⟩,lp,lt,la,wr,tyr,arr,srt,sp,st,sa,co⟩:=L
 have aj:=SA p ty ar
 have w:=λ{x:Int} (C:0<=x) (D:x<(N.length:Int))=>P3 fo C (by rw[lp];exact D)
 have J:=λ{x:Int} (C:0<=x) (D:x<(N.length:Int))=>HS fo C (by rw[lp];exact D) (w C D)
 have K:=LL (quo p ty ar) (Hb p 0)
 have aa:=λi=>LK (f:=quo p ty ar) (r:=Hb p 0) (i:=i)
 have M:∀x:Int,0<=x->x<(N.length:Int)->Ak (quo p ty ar) x=(ar.getD x.toNat []).map λa=>(a.1,Hb p a.2):=λx C D=>by
  rw[Ak,O2 C (by rw[lp];exact D)]
 have u:∀x∈P4 p ty ar,(0<=x/\x<(N.length:Int))/\Ox p x=x:=by
  have ag:Iso (quo p ty ar) (quo p ty ar) id (λx=>(0<=x/\x<(N.length:Int))/\Ox p x=x):=by
   refine⟨λi _=>by simp,λi hi a ha=>?_,λi j _ _ e=>e⟩
   rw[M i hi.1.1 hi.1.2]at ha
   obtain⟨b,m,rfl⟩:=List.mem_map.1 ha
   have c:=(arr _ b m).1
   have:=J c.1 c.2
   rw[lp]at this
   exact⟨this,(w c.1 c.2).root⟩
  have R:=J (x:=0) O1 O1
  rw[lp]at R
  exact(YZ ag _ [] _ (λx d=>by cases d) ⟨R,(w (x:=0) O1 O1).root⟩).2
 have ah:=λ(q:Nat)=>UW E (quo p ty ar).length [] (Hb p 0) (Jh _) (J (x:=0) O1 O1).1 (by rw[aj];exact(J (x:=0) O1 O1).2) sc q
 unfold P4 at s af H u ⊢
 generalize ao:AQ (quo p ty ar) (Hb p 0)=F at *
 generalize aq:EH (quo p ty ar) (quo p ty ar).length [] (Hb p 0)=o at *
 have z:∀i:Int,0<=i->i<(o.length:Int)->o.getD i.toNat 0∈o/\Es o (o.getD i.toNat 0)=i:=λi g l=>by
  refine⟨AG o 0 O1,?_⟩
  rw[Ir s.ok.nd O1]
  omega
 have A:∀x∈o,F.getD (Es o x).toNat (0,[])=(ty.getD x.toNat 0,(ar.getD x.toNat []).map λa=>(a.1,Es o (Hb p a.2))):=λx d=>by
  have am:=FJ d
  have c:=(u x d).1
  rw[aa _ O1,am.2.2]
  unfold Ip
  rw[O2 c.1 (by rw[lp];exact c.2),List.map_map]
  rfl
 have Q:∀x∈o,∀a∈ar.getD x.toNat [],Hb p a.2∈o:=λx d a ha=>by
  have c:=(u x d).1
  exact s.cl x d (a.1,Hb p a.2) (by rw[M x c.1 c.2];exact List.mem_map.2 ⟨a,ha,rfl⟩)
 have S:∀k,VM ((ar.getD k []).map λa=>(a.1,Es o (Hb p a.2))):=λk=>by
  unfold VM
  rw[List.pairwise_map]
  exact srt k
 have G:∀x∈F,∃y∈o,x=(ty.getD y.toNat 0,(ar.getD y.toNat []).map λa=>(a.1,Es o (Hb p a.2))):=λx d=>by
  obtain⟨i,hi,rfl⟩:=B7 (0,[]) d
  have h1:=z (i:Int) O1 O1
  refine⟨_,h1.1,?_⟩
  rw[<-A _ h1.1,h1.2]
  rw[Int.toNat_natCast]
 have ae:Es o (Hb p 0)=0:=by
  have:=Ir s.ok.nd s.zero.2
  rw[s.zero.1]at this
  exact this
 have ap:=s.ok.len
 have an:=E.1
 refine⟨⟨by omega,λx d=>?_⟩,by rw[K];exact s.zero.2,λx d=>?_,λx d a ha=>?_,λx d=>?_,λi g l=>?_,ae,⟨λi g l=>?_,λi g l=>?_,λi g l a ha=>?_,λq ai=>?_⟩,λX v ab T al=>?_,by omega⟩
 .obtain⟨y,B,rfl⟩:=G x d
  have c:=(u y B).1
  refine⟨?_,λa ha=>?_⟩
  .have:=(E.2 _ (AG (quo p ty ar) (0,[]) (k:=y.toNat) O1)).1
   rw[O2 c.1 (by rw[lp];exact c.2),List.length_map]at this
   simp only[List.length_map]
   exact this
  obtain⟨b,m,rfl⟩:=List.mem_map.1 ha
  have:=FJ (Q y B b m)
  rw[K]
  exact⟨this.1,this.2.1⟩
 .obtain⟨y,B,rfl⟩:=G x d
  exact S _
 .obtain⟨y,B,rfl⟩:=G x d
  obtain⟨b,m,rfl⟩:=List.mem_map.1 ha
  exact(arr _ b m).2
 .obtain⟨y,B,rfl⟩:=G x d
  have c:=(u y B).1
  exact tyr y c.1 c.2
 . -- in order
  obtain⟨j,au,a,ha,e⟩:=ah i.toNat (by simp only[List.length_nil];omega) O1
  have h1:=z (j:Int) O1 O1
  have W:=z i O1 O1
  rw[Int.toNat_natCast]at h1
  have c:=(u _ h1.1).1
  rw[M _ c.1 c.2]at ha
  obtain⟨b,m,rfl⟩:=List.mem_map.1 ha
  refine⟨(j:Int),by omega,by omega,(b.1,Es o (Hb p b.2)),?_,?_⟩
  .have:=A _ h1.1
   rw[h1.2]at this
   rw[Ak,this]
   exact List.mem_map.2 ⟨b,m,rfl⟩
  show Es o (Hb p b.2)=i
  simp only at e
  rw[e,W.2]
 .have:=FJ (H i g l)
  rw[K]
  exact⟨this.1,this.2.1⟩
 .show Ad h _ (F.getD (Es o (Hb p i)).toNat (0,[])).1=true
  rw[A _ (H i g l)]
  exact st i _ g l (w g l)
 .obtain⟨t,ak,ad⟩:=sa i _ g l (w g l) a ha
  have e:=lR ad
  show Br (Ak F (Es o (Hb p i))) a.1=Es o (Hb p a.2)
  rw[e,Ak,A _ (H i g l)]
  exact Ow (S _) (a:=(a.1,Es o (Hb p t))) (List.mem_map.2 ⟨(a.1,t),ak,rfl⟩)
 .show Es o (Hb p q.1)=Es o (Hb p q.2)
  rw[lR (sp q ai)]
 obtain⟨c1,c2,U,V⟩:=co X v ab T
 refine⟨λi=>v (o.getD i.toNat 0),?_,λi g l=>?_,λi g l=>?_,λi g l a ha=>?_⟩
 .show v (o.getD 0 0)=0
  rw[s.zero.1,<-c1 0 _ O1 O1 (w O1 O1)]
  exact al
 .have n:=z i g O1
  have c:=(u _ n.1).1
  exact T.rng _ c.1 c.2
 .have n:=z i g O1
  have c:=u _ n.1
  have hn:=A _ n.1
  rw[n.2]at hn
  rw[hn]
  exact U _ c.1.1 c.1.2 c.2
 have n:=z i g O1
 have c:=u _ n.1
 have hn:=A _ n.1
 rw[n.2]at hn
 rw[Ak,hn]at ha
 obtain⟨b,m,rfl⟩:=List.mem_map.1 ha
 have Y:=V _ c.1.1 c.1.2 c.2 b m
 have I:=(arr _ b m).1
 have Z:=FJ (Q _ n.1 b m)
 simp only
 rw[Z.2.2,<-c1 b.2 _ I.1 I.2 (w I.1 I.2)]
 exact Y
structure VF (h:AE) (f:List AD):Prop where
 good:Aa f
 pos:0<f.length
 ty:DP h f
 str:∀x∈f,VM x.2
 ft:∀x∈f,∀a∈x.2,0<=a.1/\a.1<(h.2.length:Int)
 can:AQ f 0=f
 ro:RO f
structure HU (h:AE):Prop where
 ok:GC h
 inj:IH h
 ft:h.2.length<=64
def bX (U:List AD):Prop:=(EH U U.length [] 0).length=U.length/\∀k,(hk:k<(EH U U.length [] 0).length)->(EH U U.length [] 0)[k]=(k:Int)
theorem Ya {Q:List AD} (m:Aa Q) {r:Int} (L:0<=r) (M:r<(Q.length:Int)):Aa (AQ Q r)/\bX (AQ Q r):=by
 have d:=Jj m L M;have D:=LL Q r;have C:=λi=>LK (f:=Q) (r:=r) (i:=i);generalize O:AQ Q r=c at *;generalize H:EH Q Q.length [] r=o at *;have R:=d.ok.len;have N:=m.1;have g:∀i:Int,0<=i->i<(o.length:Int)->o.getD i.toNat 0∈o/\Es o (o.getD i.toNat 0)=i:=λi J K=>by
  refine⟨AG o 0 O1,?_⟩;rw[Ir d.ok.nd O1];omega
 have p:∀i:Int,0<=i->i<(o.length:Int)->Ak c i=(Ak Q (o.getD i.toNat 0)).map (L8 o):=λi J K=>by
  rw[Ak,C i.toNat O1];rfl
 have F:Iso c Q (λi=>o.getD i.toNat 0) (λi=>0<=i/\i<(o.length:Int)):=by
  refine⟨λi hi=>?_,λi hi a ha=>?_,λi j hi B e=>?_⟩
  .rw[p i hi.1 hi.2,ABd];have:∀a∈Ak Q (o.getD i.toNat 0),((λa:Int×Int=>(a.1,o.getD a.2.toNat 0))∘L8 o) a=a:=λa ha=>by
    show (a.1,o.getD (Es o a.2).toNat 0)=a;rw[(FJ (d.cl _ (g i hi.1 hi.2).1 a ha)).2.2]
   rw[AAb this,List.map_id']
  .rw[p i hi.1 hi.2]at ha;obtain⟨b,q,rfl⟩:=IF.1 ha;have:=FJ (d.cl _ (g i hi.1 hi.2).1 b q);exact⟨this.1,this.2.1⟩
  have h1:=(g i hi.1 hi.2).2;have h:=(g j B.1 B.2).2;have e:o.getD i.toNat 0=o.getD j.toNat 0:=e;rw[<-h1,<-h,e]
 have h0:(0:Int)<(o.length:Int):=by have:=d.zero.2;omega
 have v:Aa c:=by
  refine⟨by omega,λx u=>?_⟩;obtain⟨i,hi,rfl⟩:=B7 (0,[]) u;have h1:=p (i:Int) O1 O1;rw[Ak,iS]at h1;rw[h1];have t:=g (i:Int) O1 O1;rw[iS]at t;have S:=d.ok.rng _ t.1;refine⟨?_,λa ha=>?_⟩
  .rw[dB];exact(m.2 _ (AG Q (0,[]) (k:=(o.getD i 0).toNat) O1)).1
  obtain⟨b,q,rfl⟩:=IF.1 ha;have:=FJ (d.cl _ t.1 b q);rw[D];exact⟨this.1,this.2.1⟩
 have s:=YZ F Q.length [] 0 (λx u=>by cases u) ⟨by omega,h0⟩;have I:o.getD (0:Int).toNat 0=r:=d.zero.1;rw[ABG,I,H]at s;have A:=bS v (n:=0) O1 O1 (Q.length-c.length);rw[show c.length+(Q.length-c.length)=Q.length by omega]at A;rw[A]at s;unfold bX;refine⟨v,?_⟩;generalize EH c c.length [] 0=l at *;obtain⟨y,E⟩:=s;have P:l.length=o.length:=by
  have:=ABa List.length y;rw[dB]at this;exact this.symm
 have G:∀k,(hk:k<l.length)->l[k]=(k:Int):=λk hk=>by
  have w:=E l[k] (AAo hk);have h1:=(g l[k] w.1 w.2).2;have h:=(g (k:Int) O1 O1).2;have e:o.getD k 0=o.getD (l[k]).toNat 0:=by
   exact(ABa (λz:List Int=>z.getD k 0) y).trans (by simp[AS,hk])
  rw[iS,e]at h;rw[<-h1,h]
 exact⟨by omega,G⟩
theorem Ua {b:List AD} (g:Aa b) (k:bX b):AQ b 0=b:=by
 unfold AQ;obtain⟨q,c⟩:=k;generalize EH b b.length [] 0=l at *;have o:l.Nodup:=by
  unfold List.Nodup;rw[mX];intro i j hi n p e;rw[c i hi,c j n]at e;omega
 have m:∀x,0<=x->x<(l.length:Int)->Es l x=x:=λx r s=>by
  have:=Ir o (i:=x.toNat) O1;have e:l.getD x.toNat 0=x:=by
   rw[AS,An O1];show l[x.toNat]=x;rw[c _ O1];omega
  rw[e]at this;rw[this];omega
 apply AAl
 .rw[dB];omega
 intro i h1 d;rw[ABC,c i (by simpa using h1)];have f:b.getD (i:Int).toNat (0,[])=b[i]:=by simp[AS,d]
 unfold Ip;rw[f];have:∀a∈b[i].2,L8 l a=a:=λa ha=>by
  have h:=(g.2 _ (AAo d)).2 a ha;unfold L8;rw[m a.2 h.1 O1]
 rw[AAb this,List.map_id']
theorem bZ {Q:List AD} (a:Aa Q) {r:Int} (b:0<=r) (c:r<(Q.length:Int)):AQ (AQ Q r) 0=AQ Q r :=
 Ua (Ya a b c).1 (Ya a b c).2
theorem xV {a X:List AD} (g:RO a) {m f:Int->Int} (h1:RW h a X m) (b:RW h a X f):∀(k:Nat) (i:Int),i.toNat<=k->0<=i->i<(a.length:Int)->m i=f i:=by
 intro k;induction k with
 | zero =>
  intro i hk l e;have:i=0:=by omega
  subst this;rw[h1.zero,b.zero]
 | succ k n =>
  intro i hk l e;by_cases hi:i=0
  .subst hi;rw[h1.zero,b.zero]
  obtain⟨j,c,o,x,d,rfl⟩:=g i O1 e;rw[<-h1.arc j c O1 x d,<-b.arc j c O1 x d,n j O1 c O1]
theorem Ub (hk:GC h) {a b:List AD} (w:Aa a) (ta:DP h a) (tb:DP h b) (A:DP h c) {m n:Int->Int} (h1:RW h a b m) (j:RW h b c n):RW h a c λi=>n (m i):=by
 refine⟨by show n (m 0)=0;rw[h1.zero,j.zero],λi f g=>?_,λi f g=>?_,λi f g x p=>?_⟩
 .have:=h1.rng i f g;exact j.rng _ this.1 this.2
 .have d:=h1.rng i f g;have B:=j.rng _ d.1 d.2;have r:=ta _ (AG a (0,[]) (k:=i.toNat) O1);have s:=tb _ (AG b (0,[]) (k:=(m i).toNat) O1);have t:=A _ (AG c (0,[]) (k:=(n (m i)).toNat) O1);exact NL hk r.1 r.2 s.1 s.2 t.1 t.2 (h1.ty i f g) (j.ty _ d.1 d.2)
 have d:=h1.rng i f g;have q:=CK w p;have o:=h1.arc i f g x p;obtain⟨y,z,u,v⟩:=bT (l:=Ak b (m i)) (e:=x.1) (by rw[o];exact(h1.rng _ q.1 q.2).1);have:=j.arc (m i) d.1 d.2 y z;rw[u,v,o]at this;exact this
theorem Yb {a:List AD} (hs:∀x∈a,VM x.2) (n:Int):VM (Ak a n):=by
 unfold Ak;by_cases h:n.toNat<a.length
 .exact hs _ (AG a (0,[]) h)
 rw[AS,oS O1];exact .nil
theorem xW {a:List AD} (hs:∀x∈a,VM x.2):RW h a a id :=
 ⟨rfl,λi c d=>⟨c,d⟩,λi _ _=>P0 h _,λi _ _ x b=>Ow (Yb hs i) b⟩
structure iE (h:AE) (a b U:List AD):Prop where
 vf:VF h U
 left:∃m,RW h a U m
 right:∃m,RW h b U m
 least:∀X,DP h X->∀m1,RW h a X m1->∀m2,RW h b X m2->∃m,RW h U X m
 len:U.length<=a.length+b.length
open Classical in
noncomputable def Jk (h:AE) (a b:List AD):List AD×Bool:=if H:∃U,iE h a b U then (H.choose,true) else ([],false)
theorem b3 {a b:List AD} (h1:(Jk h a b).2=true):iE h a b (Jk h a b).1:=by
 unfold Jk at h1 ⊢;split at h1
 .rename_i H;rw[dif_pos H];exact H.choose_spec
 cases h1
theorem Uc {e:Int} (h:e∈Ji f):∃x∈f,∃a∈x.2,a.1=e:=by
 unfold Ji at h;obtain⟨x,c,b⟩:=AB2.1 h;obtain⟨a,ha,e⟩:=IF.1 b;exact⟨x,c,a,ha,e⟩
theorem A4K {N:List AD} {P:List (Int×Int)} {ty:List Int} {ar:List (List (Int×Int))} (d:JI h N P p ty ar []) (g:Aa (quo p ty ar)) (m:0<N.length) (j:∀x∈N,∀a∈x.2,0<=a.1/\a.1<(h.2.length:Int)) (c:A3c h N P (AQ (quo p ty ar) (Hb p 0)) v):VF h (AQ (quo p ty ar) (Hb p 0)):=by
 have f:0<=Hb p 0/\Hb p 0<((quo p ty ar).length:Int):=by
  obtain⟨n,fo⟩:=d.fo;have:=d.lp;have:=HS fo (x:=0) O1 O1 (P3 fo O1 O1);rw[SA];exact this
 refine⟨c.good,c.pos,c.ty,c.str,λx k a ha=>?_,bZ g f.1 f.2,c.ro⟩;obtain⟨y,l,b,i,e⟩:=Uc (c.feat x k a ha);rw[<-e];exact j y l b i
theorem pX (hf:VF h f) (e:VF h g):∀x∈EU f g,∀a∈x.2,0<=a.1/\a.1<(h.2.length:Int):=by
 intro x c;unfold EU at c;rcases IS.1 c with c|c
 .exact hf.ft x c
 obtain⟨y,i,rfl⟩:=IF.1 c;intro a ha;obtain⟨b,d,rfl⟩:=IF.1 ha;exact e.ft y i b d
theorem A1L (hf:VF h f) (i:VF h g) {ty:List Int} {ar:List (List (Int×Int))} (b:JI h (EU f g) [(0,(f.length:Int))] p ty ar []) (d:Aa (quo p ty ar)):iE h f g (AQ (quo p ty ar) (Hb p 0)):=by
 have v:=hf.pos;have u:=Gw f g;have c:0<(EU f g).length:=by omega
 have h0:=UX b d c;have l:=UY b d c (Wx (g:=g) Wy) hf.ro h0;have n:=UY b d c (UZ (f:=f)) i.ro (xT b sc h0);have a:=A4J b d c λx t w=>by
  by_cases o:x<(f.length:Int)
  .have:=l x.toNat x (OS _) t o
   rwa [show ((0:Nat):Int)+x=x by omega]at this
  have:=n _ (x-(f.length:Int)) (OS _) O1 O1
  rwa [show (f.length:Int)+(x-(f.length:Int))=x by omega]at this
 refine⟨A4K b d c (pX hf i) a,⟨_,bV a.proj (Wx (g:=g) Wy) a.zero⟩,⟨_,bV a.proj (UZ (f:=f)) (by rw[<-a.proj.eq (0,(f.length:Int)) sc];exact a.zero)⟩,λX k r h1 s j=>?_,by have:=a.len;omega⟩;refine a.least X _ k (xU (bW hf.good i.good (SB h1) (SB j)) λq m=>?_) ?_
 .have e:q=(0,(f.length:Int)):=by simpa using m
  subst e;try simp only
  rw[At O1,As O1,Int.sub_self,h1.zero,j.zero]
 show (if (0:Int)<(f.length:Int) then r 0 else s (0-(f.length:Int)))=0;rw[At O1];exact h1.zero
theorem pY {n k:Nat} (h:k<n):(Q2 0 n).getD k 0=(k:Int):=by
 unfold Q2;rw[AS,AAt,AB9 h];show ((0+k:Nat):Int)=k;rw[AAG]
theorem LN {n:Nat} {x:Int} (a:0<=x) (b:x<(n:Int)):Ox (Q2 0 n) x=x:=by
 unfold Ox;rw[pY O1];omega
def Yc (N:List AD):List Int:=N.map (·.1)
def lS (N:List AD):List (List (Int×Int)):=N.map (·.2)
theorem NN (N:List AD) (k:Nat):(Yc N).getD k 0=(N.getD k (0,[])).1:=by
 unfold Yc;rw[AS,AAt,AS];cases N[k]?<;>rfl
theorem L2 (N:List AD) (k:Nat):(lS N).getD k []=(N.getD k (0,[])).2:=by
 unfold lS;rw[AS,AAt,AS];cases N[k]?<;>rfl
theorem Yd {n:Nat} {x r:Int} (a:0<=x) (b:x<(n:Int)) (h:Rt (Q2 0 n) x r):r=x:=h.det (.base (LN a b))
theorem A1M {N:List AD} (l:Aa N) (m:DP h N) (hs:∀x∈N,VM x.2):JI h N [] (Q2 0 N.length) (Yc N) (lS N) []:=by
 have f:(Q2 0 N.length).length=N.length:=pU 0 N.length;refine⟨m,⟨λ_=>0,λn n0 n1=>?_,λn n0 n1 hn=>?_⟩,f,by simp[Yc],by simp[lS],λw g=>(by cases g),λx c d=>?_,λk a ha=>?_,λk=>?_,λq p=>(by cases p),λx r c d e=>?_,λx r c d e a ha=>?_,λX v s o=>?_⟩
 .rw[f]at n1 ⊢;rw[LN n0 n1];exact⟨n0,n1⟩
 .rw[f]at n1;exact absurd (LN n0 n1) hn
 .rw[NN];exact m _ (AG N (0,[]) O1)
 .rw[L2]at ha;refine⟨Oq l k a ha,?_⟩;by_cases hk:k<N.length
  .exact AB2.2 ⟨_,AG N (0,[]) hk,IF.2 ⟨a,ha,rfl⟩⟩
  rw[AS,oS O1]at ha;cases ha
 .rw[L2];have:=Yb hs (k:Int)
  rwa [Ak,iS]at this
 .rw[Yd c d e,NN];exact P0 h _
 .rw[Yd c d e,L2];have b:=CK l ha;exact⟨a.2,ha,.cls b.1 b.2 b.1 b.2 (.base (LN b.1 b.2)) (.base (LN b.1 b.2))⟩
 refine⟨λx r c d e=>by rw[Yd c d e],λw g=>(by cases g),λr i j _=>?_,λr i j _ a ha=>?_⟩
 .rw[NN];exact o.ty r i j
 rw[L2]at ha;exact o.arc r i j a ha
theorem iG (hf:Aa f) (d:Aa g) (j:f.length+g.length<=100000):Aa (EU f g):=by
 have i:=Gw f g;refine⟨by omega,λx c=>?_⟩;unfold EU at c;rcases IS.1 c with c|c
 .refine⟨(hf.2 x c).1,λa ha=>?_⟩;have:=(hf.2 x c).2 a ha;omega
 obtain⟨y,e,rfl⟩:=IF.1 c;refine⟨by simp only[De,dB];exact(d.2 y e).1,λa ha=>?_⟩;obtain⟨b,h,rfl⟩:=IF.1 ha;have:=(d.2 y e).2 b h;simp only;omega
theorem pZ (hf:∀x∈f,VM x.2) (b:∀x∈g,VM x.2):∀x∈EU f g,VM x.2:=by
 intro x a;unfold EU at a;rcases IS.1 a with a|a
 .exact hf x a
 obtain⟨y,c,rfl⟩:=IF.1 a;unfold VM De;rw[AAy];exact b y c
theorem xX (hf:DP h f) (b:DP h g):DP h (EU f g):=by
 intro x a;unfold EU at a;rcases IS.1 a with a|a
 .exact hf x a
 obtain⟨y,c,rfl⟩:=IF.1 a;exact b y c
def p5 (N:List AD):Prop:=∀x∈N,∀a∈x.2,0<=a.1/\a.1<64
theorem xY (hf:p5 f) (e:p5 g):p5 (EU f g):=by
 intro x c;unfold EU at c;rcases IS.1 c with c|c
 .exact hf x c
 obtain⟨y,h,rfl⟩:=IF.1 c;intro a ha;obtain⟨b,d,rfl⟩:=IF.1 ha;exact e y h b d
theorem xZ (h:VM l) (hf:∀a∈l,0<=a.1/\a.1<64):l.length<=64:=by
 have:=lQ h (S:=(List.range 64).map λ(i:Nat)=>(i:Int)) (λa ha=>IF.2 ⟨a.1.toNat,oN.2 (by have:=hf a ha;omega),by have:=hf a ha;omega⟩)
 rwa [dB,ABS]at this
theorem p6 {N:List AD} (h:p5 N) {e:Int} (b:e∈Ji N):0<=e/\e<64:=by
 obtain⟨x,c,a,ha,rfl⟩:=Uc b;exact h x c a ha
theorem x4 {N:List AD} {P:List (Int×Int)} {ty:List Int} {ar:List (List (Int×Int))} (c:JI h N P p ty ar []) (k:N.length<=100000) (hf:p5 N):Aa (quo p ty ar):=by
 have g:=SA p ty ar;obtain⟨l,fo⟩:=c.fo;have lp:=c.lp;refine⟨by omega,λx j=>?_⟩;obtain⟨i,hi,rfl⟩:=B7 (0,[]) j;have e:=O2 (p:=p) (ty:=ty) (ar:=ar) (n:=(i:Int)) O1 O1;rw[iS]at e;rw[e];refine⟨?_,λa ha=>?_⟩
 .simp only[dB];have:=xZ (c.srt i) (λa ha=>p6 hf (c.arr i a ha).2);omega
 obtain⟨b,f,rfl⟩:=IF.1 ha;have d:=(c.arr i b f).1;have:=HS fo (x:=b.2) d.1 O1 (P3 fo d.1 O1);rw[g];exact this
theorem VF.ft64 (b:VF h f) (hu:HU h):p5 f:=λx c a ha=>by
 have h1:=b.ft x c a ha;have d:=hu.ft;omega
def A6E (d:List AH) (o:List ByteArray) (i:Nat):Prop:=∀j,j<i->∀x∈d,AU x.2.1 (o.getD j ByteArray.empty)=true->AU o x.1=true
theorem x5 {c:ByteArray} {o:List ByteArray} {x:AH} (h:AU x.2.1 c=true):AU (Ef c o x) x.1=true:=by grind [Ef,M4,CO]
theorem Wz {c:ByteArray} {x:AH} (h:AU x.2.1 c=true):∀ {l:List AH} {o:List ByteArray},x∈l->AU (l.foldl (Ef c) o) x.1=true
 | [],_,a=>by cases a
 | y :: l,o,a=>by
  rw[OR];rcases BY.1 a with rfl|a
  .grind [Gu,Lu,x5]
  exact Wz h a
theorem Ud {d:List AH}:∀ {n i:Nat} {o:List ByteArray},X7 d o->d.length<=n+i->A6E d o i->i<=o.length->∃m,A6E d (CW d n i o) m/\(CW d n i o).length<=m
 | 0,i,o,ha,f,a,hi=>⟨i,a,by
  have:=ha.len;show o.length<=i;omega⟩
 | n+1,i,o,ha,f,a,hi=>by
  unfold CW;split
  .rename_i q;obtain⟨c,k⟩:=Tc (o.getD i ByteArray.empty) (l:=d) (o:=o) (λ_ h=>h) ha;refine Ud c O1 (λj p x b hs=>?_) O1;rw[Pm _ O1]at hs;by_cases e:j=i
   .subst e;exact Wz hs b
   exact Gu (λz g=>Lu g) (a j O1 x b hs)
  exact⟨i,a,by omega⟩
theorem P6 {α:Type} {p:α->Bool}:∀ {l:List α},l.countP p=1->∀x∈l,p x=true->∀y∈l,p y=true->x=y
 | [],h,x,a,_,_,_,_=>by cases a
 | z :: l,h,x,a,d,y,b,e=>by
  rw[AC1]at h;by_cases c:p z=true
  .rw[At c]at h;grind
  rw[As c]at h;have a:x∈l:=by grind
  have b:y∈l:=by grind
  exact P6 O1 x a d y b e
theorem Ue (s:ByteArray):∀(l:List AH) (k:Nat),0<=Cj s k l->∃x∈l,AL x.1 s=true
 | [],k,h=>by
  simp only[Cj]at h;omega
 | y :: l,k,h=>by
  simp only[Cj]at h;split at h
  .rename_i e;exact⟨y,by simp,e⟩
  obtain⟨x,a,e⟩:=Ue s l (k+1) h;exact⟨x,by simp[a],e⟩
theorem iH {d:List AH} (t:A3 d=0):∃r∈d,∀x∈d,AU (CX d r.1) x.1=true:=by
 obtain⟨hs,I,h1,hn,l⟩:=Av t;have C:0<d.countP λx=>x.2.1.length==0:=by grind [HE]
 obtain⟨r,c,q⟩:=List.countP_pos_iff.1 C;refine⟨r,c,?_⟩;have D:=C9 c;have u:X7 d [r.1]:=⟨λs hs=>by
  have:s=r.1:=by simpa using hs
  rw[this];exact D,by simp⟩
 obtain⟨m,B,J⟩:=Ud (d:=d) (n:=d.length) (i:=0) u O1 (λj A=>by omega) O1;have p:r.1∈CW d d.length 0 [r.1]:=JZ sc;have v:CX d r.1=Ie (CW d d.length 0 [r.1]):=by unfold CX;rw[As O1]
 rw[v];generalize CW d d.length 0 [r.1]=o at *;have key:∀(k:Nat) (x:AH),x∈d->FO d x.1<=k->AU o x.1=true:=by
  intro k;induction k with
  | zero =>
   intro x a hk;by_cases g:x.2.1.length=0
   .have e:=P6 h1 x a (by simpa using g) r c q;rw[e];exact E0 p
   obtain⟨s,b⟩:∃s,s∈x.2.1:=AC0 O1;have:=JY hn l a (E0 b);omega
  | succ k H =>
   intro x a hk;by_cases g:x.2.1.length=0
   .have e:=P6 h1 x a (by simpa using g) r c q;rw[e];exact E0 p
   obtain⟨s,b⟩:∃s,s∈x.2.1:=AC0 O1;have E:=JY hn l a (E0 b);obtain⟨y,G,e⟩:=Ue s d 0 (hs x a s b);rw[<-HJ d e]at E;obtain⟨z,h,f⟩:=VK.1 (H y G O1);obtain⟨j,A,rfl⟩:=B7 ByteArray.empty h;refine B j O1 x a ?_;exact VK.2 ⟨s,b,Bm (BF f e)⟩
 intro x a;obtain⟨z,h,e⟩:=VK.1 (key _ x a (OS _));obtain⟨w,F,f⟩:=VK.1 (OT (o:=[]) h);exact VK.2 ⟨w,F,BF f e⟩
abbrev cnt (c:List Int):Nat:=(HB c).length
theorem x6 {w:Int} (a:wB w) {r:Nat} (d:r<64):vE w (r:Int)=w.toNat.testBit r:=by
 have h0:=a.1;have h1:=a.2;have b:w.toNat / 2 ^ r<=w.toNat:=Nat.div_le_self _ _;have e:Y4 .u64 w (r:Int)=((w.toNat / 2 ^ r:Nat):Int):=by
  unfold Y4;have c:min ((r:Int)).toNat IntKind.u64.bits=r:=by
   show min ((r:Int)).toNat 64=r;omega
  grind
 unfold vE;rw[Nat.testBit_eq_decide_div_mod_eq,e];generalize w.toNat / 2 ^ r=z at *;rw[HH ⟨by omega,by omega⟩ ⟨by decide,by decide⟩,iS,show (1:Int).toNat=1 from rfl,Nat.and_one_is_mod,ABm,AA3,IN];omega
theorem SC {b:List Int} (d:HI b) (i:Nat):RM b (i:Int)=BA b i:=by
 have a:Int.tdiv (i:Int) 64=((i / 64:Nat):Int):=by rw[AAW O1];omega
 have c:Int.tmod (i:Int) 64=((i % 64:Nat):Int):=by rw[ABb O1];omega
 unfold RM BA;rw[a,c,iS];by_cases hk:i / 64<b.length
 .rw[As (by rw[qY,IN,IN];omega),x6 (BG d _) O1]
 rw[At (by rw[qY,IN,IN];omega),GB hk];simp
theorem b4 (c:List Int):(HB c).Nodup:=by
 unfold HB MP List.Nodup;rw[AAy];refine List.Pairwise.imp (λh e=>h ?_) (List.Pairwise.filter _ List.nodup_range);exact Int.ofNat.inj e
theorem W2 {c:List Int} (b:HI c) {x:Int}:x∈HB c↔∃i:Nat,x=(i:Int)/\BA c i=true:=by
 unfold HB MP;rw[IF];constructor
 .grind [SC]
 rintro⟨i,rfl,a⟩;refine⟨i,AAO.2 ⟨oN.2 ?_,by rw[SC b];exact a⟩,rfl⟩;refine DO λd=>?_;unfold BA at a;rw[GB O1]at a;simp at a
theorem A4L {a b:List Int} (ha:HI a) (d:HI b) (h:∀i,BA a i=true->BA b i=true) (e:cnt b<=cnt a) (i:Nat) (hi:BA b i=true):BA a i=true:=by
 refine DO λhn=>?_;have c:(i:Int)∉HB a:=λf=>by grind [W2]
 have:=P2 (l:=(i:Int) :: HB a) (l':=HB b) (AAi.2 ⟨c,b4 a⟩) λx c=>by grind [W2]
 grind
theorem Uf (x:AP) (out:List AP):∀n,(E1 x out n=0->n=0\/FC x (out.getD 0 c0)=true)/\∀k,E1 x out n=k+1->FC x (out.getD k c0)=false
 | 0=>⟨λ_=>.inl rfl,λk h=>by simp[E1]at h⟩
 | n+1=>by
  obtain⟨h1,a⟩:=Uf x out n;grind [E1]
theorem b5 {a b:AP} (h:FC a b=true):cnt b.2<=cnt a.2:=by
 unfold FC at h;grind
theorem Ye {a b:AP} (h:FC a b=false):cnt a.2<=cnt b.2:=by
 unfold FC at h;grind
def HM (out:List AP):Prop:=∀y∈out,cnt y.2<=cnt (out.getD 0 c0).2
theorem A1N {out:List AP} (h:HM out) (x:AP):HM (YI out x):=by
 obtain⟨s1,s2⟩:=Uf x out out.length;have c:=aJ x out out.length;intro y a;rw[aN]at a;unfold YI;cases hk:E1 x out out.length with
 | zero =>
  rw[AAJ,AAw,bY];have e:([x]++out).getD 0 c0=x:=rfl;rw[e];rcases a with rfl|a
  .exact OS _
  have h1:=h y a;rcases s1 hk with e|e
  .grind
  exact gO h1 (b5 e)
 | succ k =>
  have b:=Ye (s2 k hk);rw[hk]at c;have e:(out.take (k+1)++[x]++out.drop (k+1)).getD 0 c0=out.getD 0 c0:=by grind
  rw[e];rcases a with rfl|a
  .exact gO b (h _ (Ax O1))
  exact h y a
theorem b6 {d:List AH}:∀ {l:List (List Int)} {o:List AP},HM o->HM (l.foldl (Pr d) o)
 | [],_,h=>h
 | b :: l,o,h=>by
  rw[OR];exact b6 (A1N h _)
def In (n:Nat) (c:List Int):Prop:=HI c/\∀i,BA c i=true->i<n
theorem A4M (n:Nat):In n []:=⟨λx a=>(by cases a),λi hi=>by unfold BA at hi;simp at hi⟩
theorem A4N {n:Nat} {a b:List Int} (ha:In n a) (c:In n b):In n (Dz a b) :=
 ⟨Od ha.1 c.1,λi hi=>by
  rw[Oc ha.1 c.1,AT]at hi;exact ha.2 i hi.1⟩
theorem A1O {n:Nat} {l:List (List Int)} (h:∀c∈l,In n c) (k:Nat):In n (l.getD k []):=by grind [Ax,Pv,A4M]
theorem A1P {n:Nat} {l:List (List Int)} (h:∀c∈l,In n c) (i k:Nat):∀c∈Fi l i k,In n c:=by grind [Fi,Dz,A4N,A1O]
theorem lT {q i:Nat}:∀ {n k:Nat} {l:List (List Int)},(∀c∈l,In q c)->∀c∈Fj i n k l,In q c
 | 0,_,_,h=>h
 | n+1,k,l,h=>by
  unfold Fj;split
  .exact lT (A1P h i k)
  exact h
theorem Yf {q:Nat}:∀ {n i:Nat} {l:List (List Int)},(∀c∈l,In q c)->∀c∈HG n i l,In q c
 | 0,_,_,h=>h
 | n+1,i,l,h=>by
  unfold HG;split
  .exact Yf (lT h)
  exact h
def A6F (h:AE):Prop:=∀t,0<=t->t<(h.1.length:Int)->Ad h 0 t=true
theorem b7 (d:List AH):A6F (AW d).1:=by
 have hk:=GD d;unfold AW at hk ⊢;split
 .intro t h0 h1;simp at h1;omega
 rename_i g;rw[As g]at hk;have g:(A1 d).2=0:=DO g;have A:Ah d=0:=by grind [A1]
 obtain⟨M,-,-⟩:=B5 A;obtain⟨j,Q,-⟩:=BU M;obtain⟨-,z,-,hn,P⟩:=Av j;have G:=Da d d.length;rw[oR]at G;have k:(AN d).length<=4096:=by omega
 obtain⟨r,I,O⟩:=iH j;have a:∀c∈Ar (AR d),In (AN d).length c:=Yf λc f=>by
  obtain⟨s,hs,rfl⟩:=IF.1 f;exact⟨(B0 (d:=d) k s 0).2.1,λi hi=>((B0 (d:=d) k s i).1.1 hi).1⟩
 obtain⟨s,hs,N⟩:=VK.1 (NB I);have J:s=r.1:=by grind [DA,OQ]
 subst J;have n:D9 d (AN d) r.1∈Ar (AR d):=by
  have H:AR d <+: Ar (AR d):=Oa 257 0 (AR d);exact H.subset (IF.2 ⟨_,hs,rfl⟩)
 have l:∀i,i<(AN d).length->BA (D9 d (AN d) r.1) i=true:=λi hi=>by grind [B0,DA,Ax]
 have B:HM (AK d):=b6 λy L=>by cases L
 have q:=DB.2 ⟨_,n,rfl⟩;have u:0<(AK d).length:=ABO q;have p:=B _ q;obtain⟨b,m,h⟩:=DB.1 (Ax (d:=c0) u);rw[h]at p;have E:=A4L (a b m).1 (a _ n).1 (λi hi=>l i ((a b m).2 i hi)) p;have D:BV (Be d) 0=b:=by
  show ((Dx (AK d) _ _).getD 0 Qv).2.1=b;have:(Dx (AK d) (A1 d).1 (AK d).length).getD 0 Qv=(((AK d).getD 0 c0).1,((AK d).getD 0 c0).2,WW (AK d) ((0:Nat):Int),(A1 d).1.getD 0 []):=by
   unfold Dx;rw[AS,AAt,AB9 u];rfl
  rw[this,h]
 have R:(Be d).1.length=(AK d).length:=Io _ _ _;intro t v w;refine(Bq hk O1 (by show (0:Int)<((Be d).1.length:Int);omega) v w).2 λi hi=>?_;show BA (BV (Be d) 0) i=true;rw[D];refine E i (l i ?_);have C:=CJ v w;have F:BV (Be d) t∈Ar (AR d):=by
  have e:((Be d).1.map λt=>t.2.1)=(AK d).map λx=>x.2:=by
   show ((Dx _ _ _).map λt=>t.2.1)=_;unfold Dx;rw[ABd];apply AAl
   .simp
   intro i h1 z;simp[AS,show i<(AK d).length by simpa using h1]
  have o:BV (Be d) t∈(Be d).1.map λt=>t.2.1:=C;rw[e]at o;obtain⟨x,K,ex⟩:=IF.1 o;obtain⟨c,f,rfl⟩:=DB.1 K;rw[<-ex];exact f
 exact(a _ F).2 i hi
theorem Ug (d:List AH):Nd ((AW d).1.1.map λt=>t.2.1):=by
 unfold AW;split
 .exact⟨.nil,λc h=>(by cases h)⟩
 rename_i a;have a:(A1 d).2=0:=DO a;have g:Ah d=0:=by
  unfold A1 at a;split at a
  .rename_i h;exact absurd a h
  rename_i h;exact DO h
 obtain⟨m,-,-⟩:=B5 g;obtain⟨f,o,-⟩:=BU m;have hf:Nd (Ar (AR d)):=R4 (Pw f);have e:((Be d).1.map λt=>t.2.1)=(AK d).map λx=>x.2:=by
  show ((Dx _ _ _).map λt=>t.2.1)=_;unfold Dx;rw[ABd];apply AAl
  .simp
  intro i h1 n;simp[AS,show i<(AK d).length by simpa using h1]
 show Nd ((Be d).1.map λt=>t.2.1);rw[e];refine⟨LA (by simpa using hf.nd),λc k=>?_⟩;obtain⟨x,l,rfl⟩:=IF.1 k;obtain⟨b,j,rfl⟩:=DB.1 l;exact hf.nrm b j
structure CI (n:Nat) (o:List Int) (ar:List (List (Int×Int))) (W:List (Int×Int)):Prop where
 lo:o.length=n
 la:ar.length=n
 rep:∀k:Nat,k<n->0<=o.getD k 0/\o.getD k 0<=(k:Int)/\o.getD (o.getD k 0).toNat 0=o.getD k 0
 wr:∀w∈W,(0<=w.1/\w.1<(n:Int))/\(0<=w.2/\w.2<(n:Int))
 ta:∀k,∀a∈ar.getD k [],0<=a.2/\a.2<(n:Int)
theorem CI.rng {n:Nat} {o:List Int} {ar:List (List (Int×Int))} (h:CI n o ar l) {x:Int} (c:0<=x) (d:x<(n:Int)):0<=o.getD x.toNat 0/\o.getD x.toNat 0<(n:Int)/\o.getD (o.getD x.toNat 0).toNat 0=o.getD x.toNat 0:=by
 obtain⟨h1,b,a⟩:=h.rep x.toNat O1;exact⟨h1,by omega,a⟩
section
attribute [local go_sem] TZ vH
def A3e (b:List Int):List FE->Nat->Int×Bool
 | [],_=>(0,false)
 | t :: r,k=>if t.2.1=b then ((k:Int),true) else A3e b r (k+1)
def x7 (h:AE) (a b:Int):Int×Bool:=A3e (Dz (BV h a) (BV h b)) h.1 0
end
section
def A6G (h:AE) (l:List AD) (c:List Int):Nat->Option (List Int)
 | 0=>some (List.replicate l.length 0)
 | i+1=>match A6G h l c i with
  | none=>none
  | some o=>if (x7 h (o.getD (c.getD i 0).toNat 0) (l.getD i (0,[])).1).2=true then some (o.set (c.getD i 0).toNat (x7 h (o.getD (c.getD i 0).toNat 0) (l.getD i (0,[])).1).1) else none
def x8 (h:AE) (l:List AD) (c:List Int):List Int×Bool:=match A6G h l c l.length with
 | none=>([],false)
 | some o=>((List.range l.length).map λ(k:Nat)=>o.getD (c.getD k 0).toNat 0,true)
def A7A (n:Nat) (c:List Int):Prop:=c.length=n/\∀k:Nat,k<n->0<=c.getD k 0/\c.getD k 0<=(k:Int)/\c.getD (c.getD k 0).toNat 0=c.getD k 0
def x9:AX:={ ins:=[GL,VZ,CH],pre:=λ(h,l,c,_)=>A7A (List.length l) c/\DP h l/\0<List.length (h:AE).1/\List.length l<=100000/\(∀x∈(h:AE).1,x.2.1.length<=100000),out:=λ(h,l,c,_)=>[.p CH (x8 h l c).1,.p .bool (x8 h l c).2] }
attribute [local go_sem] x9
end
inductive EQ (n:Nat) (o:List Int) (W:List (Int×Int)):Int->Int->Prop
 | cls {x y:Int} (x0:0<=x) (x1:x<(n:Int)) (y0:0<=y) (y1:y<(n:Int)) (h:o.getD x.toNat 0=o.getD y.toNat 0):EQ n o W x y
 | wt {x y:Int} (h:(x,y)∈W):EQ n o W x y
 | symm {x y:Int} (h:EQ n o W x y):EQ n o W y x
 | trans {x y z:Int} (h:EQ n o W x y) (g:EQ n o W y z):EQ n o W x z
theorem EQ.mono {n:Nat} {o b:List Int} {a:List (Int×Int)} (h1:∀x y,0<=x->x<(n:Int)->0<=y->y<(n:Int)->o.getD x.toNat 0=o.getD y.toNat 0->EQ n b a x y) (c:∀x y,(x,y)∈l->EQ n b a x y) {x y:Int} (h:EQ n o l x y):EQ n b a x y:=by
 induction h with
 | cls g i j k h=>exact h1 _ _ g i j k h
 | wt h=>exact c _ _ h
 | symm _ d=>exact .symm d
 | trans _ _ e f=>exact .trans e f
theorem EQ.nil {n:Nat} {o:List Int} {x y:Int} (h:EQ n o [] x y):o.getD x.toNat 0=o.getD y.toNat 0:=by
 induction h with
 | cls _ _ _ _ h=>exact h
 | wt h=>cases h
 | symm _ a=>exact a.symm
 | trans _ _ b c=>exact b.trans c
def A4O (h:AE):Prop:=∀t∈h.1,Nrm t.2.1
section
variable {d:List AH}
theorem It (d:List AH):((Be d).1.map λt=>t.2.1)=(AK d).map λx=>x.2:=by
 show ((Dx _ _ _).map λt=>t.2.1)=_;unfold Dx;rw[ABd];apply AAl
 .simp
 intro i h1 a;simp[AS,show i<(AK d).length by simpa using h1]
theorem Uh (d:List AH):(Be d).1.length=(AK d).length:=Io _ _ _
theorem iI (d:List AH) {k:Nat} (hk:k<(AK d).length):(Be d).1.getD k Qv=(((AK d).getD k c0).1,((AK d).getD k c0).2,WW (AK d) (k:Int),(A1 d).1.getD k []):=by
 unfold Be Dx;simp[AS,hk]
theorem L3 (d:List AH) {t:Int} (a:0<=t) (b:t<((AK d).length:Int)):BV (Be d) t=((AK d).getD t.toNat c0).2:=by
 unfold BV;rw[iI d O1]
theorem b8 (a:Ah d=0):(A1 d).2=0/\(A1 d).1=Im d (AK d) (BC d) (AK d).length:=by
 unfold A1;rw[As (by rw[a];simp)];exact⟨rfl,rfl⟩
theorem Jl (a:Ah d=0):(AW d).1=Be d:=by
 unfold AW;rw[As (by rw[(b8 a).1];simp)]
theorem A3f (b:Ah d=0):GC (Be d)/\Nd ((Be d).1.map λt=>t.2.1):=by
 have h1:=GD d;have a:=Ug d;rw[Jl b]at h1 a;exact⟨h1,a⟩
theorem LO (a:Ah d=0):(Be d).2=(BC d).map (K7 d):=by
 unfold Be Cy;rw[As (by rw[a];simp)]
theorem yA (a:Ah d=0) {t:Int} (b:0<=t) (c:t<((AK d).length:Int)):YQ (Be d) t=RR d (AK d) (BC d) t.toNat (BC d).length:=by
 unfold YQ;rw[iI d O1];show (A1 d).1.getD t.toNat []=_;rw[(b8 a).2];unfold Im;simp[AS,show t.toNat<(AK d).length by omega]
theorem Ui (a:Ah d=0):A3 d=0/\(B1 d).1=AK d/\Jb d=0/\(∀s∈BC d,(DC d s).2=true)/\HN d (AK d) (BC d) (AK d).length=false:=by
 obtain⟨b,-,f⟩:=B5 a;obtain⟨e,-,c⟩:=BU b;refine⟨e,c,f,?_,?_⟩
 .unfold Ah at a;split at a
  .rename_i h;exact absurd b h
  split at a
  .cases a
  split at a
  .rename_i h;exact absurd a h
  split at a
  .cases a
  rename_i h;exact No.1 (by simpa using h)
 unfold Ah at a;split at a
 .rename_i h;exact absurd b h
 split at a
 .cases a
 split at a
 .rename_i h;exact absurd a h
 split at a
 .cases a
 split at a
 .cases a
 rename_i h;rw[c]at h;simpa using h
def Cd (l:List (List Int)) (c:List Int):Prop:=c=[]\/c∈l
theorem yB {l:List (List Int)} (hk:Hv l) {c:List Int} (h:Cd l c):HI c:=by
 rcases h with rfl|h
 .exact λx a=>by cases a
 exact hk.wds c h
theorem A4P {l:List (List Int)} (hk:Hv l) (hn:Nd l) {a b:List Int} (ha:Cd l a) (j:b∈l):Cd l (Dz a b):=by
 have f:=yB hk ha;have g:=hk.wds b j;have m:Nrm (Dz a b):=by unfold Dz;exact NG _
 have k:=λi=>Oc f g i;by_cases hi:∃i,BA a i=true/\BA b i=true
 .rcases ha with rfl|ha
  .obtain⟨i,h1,-⟩:=hi;unfold BA at h1;simp at h1
  obtain⟨t,d,e⟩:=hk.meet a ha b j hi;right;rw[gM (Od f g) (hk.wds t d) m (hn.nrm t d) λi=>by rw[k,e]];exact d
 left;refine DO λn=>?_;unfold Dz at n;have o:HI (Dz a b):=Od f g;have:∃i,BA (Dz a b) i=true:=by
  have c:=m;rcases c with c|c
  .exact absurd (AA0 c) n
  exact aZ o c
 obtain⟨i,h⟩:=this;rw[k,AT]at h;exact hi ⟨i,h⟩
def UsD (d:List AH) (t:Int) (s:ByteArray) (x:AH):Prop:=(Cu x s).2=true/\Ad (Be d) (BE (AK d) x.1) t=true
def vcD (d:List AH) (s:ByteArray) (x:AH):List Int:=((AK d).getD (BE (AK d) (Cu x s).1).toNat c0).2
theorem SD (hn:gA d (AK d)) {x:AH} (a:x∈d):0<=BE (AK d) x.1/\BE (AK d) x.1<((AK d).length:Int):=⟨hn.1 x a,HL _ _⟩
theorem yC (hn:gA d (AK d)) {x:AH} (b:x∈d) (a:(Cu x s).2=true):0<=BE (AK d) (Cu x s).1/\BE (AK d) (Cu x s).1<((AK d).length:Int):=⟨hn.value b a,HL _ _⟩
theorem lU (d:List AH) {k:Int} (a:0<=k) (b:k<((AK d).length:Int)):((AK d).getD k.toNat c0).2∈(AK d).map λx=>x.2:=IF.2 ⟨_,Ax O1,rfl⟩
theorem p7 (hk:GC (Be d)) {a t:Int} (b:0<=a) (g:a<((AK d).length:Int)) (c:0<=t) (h:t<((AK d).length:Int)):Jw (AK d) a t=Ad (Be d) a t:=by
 have j:=Uh d;have e:a<((Be d).1.length:Int):=by omega
 have f:t<((Be d).1.length:Int):=by omega
 have i:=hk.1.wds _ (CJ b e);have wt:=hk.1.wds _ (CJ c f);rw[ABm];unfold Jw;rw[<-L3 d b g,<-L3 d c h,Er wt i];exact(Bq hk b e c f).symm
theorem Yg (hk:GC (Be d)) (h:Nd ((Be d).1.map λt=>t.2.1)) (hn:gA d (AK d)) {t:Int} (p:0<=t) (q:t<((AK d).length:Int)) (s:ByteArray):∀(r:List AH) (o:List Int×Bool),(∀x∈r,x∈d)->Cd ((AK d).map λx=>x.2) o.1 ->
  Cd ((AK d).map λx=>x.2) (r.foldl (Il (AK d) t s) o).1/\((r.foldl (Il (AK d) t s) o).2=true↔o.2=true\/∃x∈r,UsD d t s x)/\∀i,BA (r.foldl (Il (AK d) t s) o).1 i=true↔BA o.1 i=true/\∀x∈r,UsD d t s x->BA (vcD d s x) i=true
 | [],o,_,g=>⟨g,by simp,λi=>by simp⟩
 | x :: r,o,n,g=>by
  rw[It]at h;have m:Hv ((AK d).map λx=>x.2):=by have:=hk.1;rwa [It]at this
  have w:=n x sc;obtain⟨n0,n1⟩:=SD hn w;have u:=p7 hk n0 n1 p q;rw[OR];by_cases hu:UsD d t s x
  .obtain⟨v0,v1⟩:=yC hn w hu.1;have e:Il (AK d) t s o x=(Dz o.1 (vcD d s x),true):=by
    unfold Il;rw[As]
    .rfl
    rw[hu.1,u,hu.2];simp
   have v:vcD d s x∈(AK d).map λx=>x.2:=lU d v0 v1;obtain⟨h1,k,l⟩:=Yg hk (by rw[It];exact h) hn p q s r (Il (AK d) t s o x) (λy f=>n y (by simp[f])) (by rw[e];exact A4P m h g v);refine⟨h1,?_,λi=>?_⟩
   .rw[k,e];exact⟨λ_=>.inr ⟨x,by simp,hu⟩,λ_=>.inl rfl⟩
   rw[l,e];simp only;rw[Oc (yB m g) (m.wds _ v),AT];constructor
   .rintro⟨⟨a,b⟩,c⟩;refine⟨a,λy f j=>?_⟩;rcases BY.1 f with rfl|f
    .exact b
    exact c y f j
   rintro⟨a,b⟩;exact⟨⟨a,b x sc hu⟩,λy f=>b y (by simp[f])⟩
  have e:Il (AK d) t s o x=o:=by
   unfold Il;rw[At];rw[u];unfold UsD at hu;cases h1:(Cu x s).2 with
   | false=>simp
   | true =>
    rw[h1]at hu;have:Ad (Be d) (BE (AK d) x.1) t=false:=by simpa using hu
    rw[this];simp
  obtain⟨h1,k,l⟩:=Yg hk (by rw[It];exact h) hn p q s r (Il (AK d) t s o x) (λy f=>n y (by simp[f])) (by rw[e];exact g);refine⟨h1,?_,λi=>?_⟩
  .rw[k,e];constructor
   .rintro (a|⟨y,f,a⟩)
    .exact .inl a
    exact .inr ⟨y,by simp[f],a⟩
   rintro (a|⟨y,f,a⟩)
   .exact .inl a
   rcases BY.1 f with rfl|f
   .exact absurd a hu
   exact .inr ⟨y,f,a⟩
  rw[l,e];constructor
  .rintro⟨a,b⟩;refine⟨a,λy f j=>?_⟩;rcases BY.1 f with rfl|f
   .exact absurd j hu
   exact b y f j
  rintro⟨a,b⟩;exact⟨a,λy f=>b y (by simp[f])⟩
theorem Uj {b:List Int}:∀ {l:List AP} {k:Nat},(∃x∈l,x.2=b)->∃j:Nat,j<l.length/\OJ b k l=((k+j:Nat):Int)/\(l.getD j c0).2=b
 | [],k,⟨x,a,_⟩=>by cases a
 | y :: l,k,⟨x,a,e⟩=>by
  unfold OJ;by_cases h:GS y.2 b=true
  .rw[At h];exact⟨0,by simp,rfl,by simpa[GS] using h⟩
  rw[As h];rcases BY.1 a with rfl|a
  .exact absurd (by simpa[GS] using e) h
  obtain⟨j,h1,c,d⟩:=Uj (k:=k+1) ⟨x,a,e⟩;exact⟨j+1,by simp only[NO];omega,by rw[c];congr 1;omega,by simpa using d⟩
theorem iJ {b:List Int} (h:Nrm b):BK b=b:=by
 unfold BK;have:CR b b.length=b.length:=by
  rcases h with h|h
  .rw[h];rfl
  cases e:b.length with
  | zero=>rfl
  | succ m =>
   rw[e]at h;show (if b.getD m 0=0 then CR b m else m+1)=m+1;rw[As (by simpa using h)]
 rw[this,oR]
theorem O3 (b:Ah d=0) {t:Int} (z:0<=t) (J:t<((AK d).length:Int)) (hs:s∈BC d) :
  ((Eq d (AK d) t s).2=true↔∃x∈d,UsD d t s x)/\((Eq d (AK d) t s).2=true->(0<=GM (AK d) (Eq d (AK d) t s).1/\GM (AK d) (Eq d (AK d) t s).1<((AK d).length:Int)) /\
   ∀i,BA (BV (Be d) (GM (AK d) (Eq d (AK d) t s).1)) i=true↔∀x∈d,UsD d t s x->BA (vcD d s x) i=true):=by
 obtain⟨n,-,D,-,u⟩:=Ui b;obtain⟨hk,p⟩:=A3f b;have hn:=OX n D;have L:=k5 n;have r:=b7 d;rw[Jl b]at r;have K:Hv ((AK d).map λx=>x.2):=by have:=hk.1;rwa [It]at this
 have q:=p;rw[It]at q;have A:=lU d (ABg 0) (by omega:(0:Int)<((AK d).length:Int));obtain⟨g,a,m⟩:=Yg hk p hn z J s d (((AK d).getD 0 c0).2,false) (λx f=>f) (.inr A);have e:Eq d (AK d) t s=d.foldl (Il (AK d) t s) (((AK d).getD 0 c0).2,false):=rfl;rw[<-e]at g a m;refine⟨by rw[a];simp,λhu=>?_⟩;have E:(Eq d (AK d) t s).1≠[]:=by
  intro G;have h1:Jd d (AK d) t.toNat s=true:=by
   unfold Jd;rw[AAX z,hu,G];rfl
  have B:HN d (AK d) (BC d) (AK d).length=true:=by
   unfold HN;refine VK.2 ⟨t.toNat,oN.2 O1,?_⟩;unfold YK;exact VK.2 ⟨s,hs,h1⟩
  rw[B]at u;cases u
 have o:(Eq d (AK d) t s).1∈(AK d).map λx=>x.2:=g.resolve_left E;obtain⟨x,f,ex⟩:=IF.1 o;obtain⟨j,M,H,I⟩:=Uj (l:=AK d) (k:=0) ⟨x,f,ex⟩;have hf:GM (AK d) (Eq d (AK d) t s).1=(j:Int):=by
  unfold GM;rw[iJ (q.nrm _ o),H];simp
 rw[hf];refine⟨⟨AAq _,by omega⟩,λi=>?_⟩;rw[L3 d (AAq _) O1,iS,I,m];constructor
 .exact λh=>h.2
 intro h;refine⟨?_,h⟩;obtain⟨y,v,w⟩:=(a.1 hu).resolve_left sc;obtain⟨v0,v1⟩:=yC hn v w.1;have C:=h y v w;have c:=Uh d;have F:=r _ v0 (by rw[c];exact v1);have:=(Bq hk (ABg 0) (by rw[c];omega) v0 (by rw[c];exact v1)).1 F i;unfold wS at this;rw[L3 d (ABg 0) O1,L3 d v0 v1]at this;exact this C
theorem P7 {s:ByteArray}:∀ {r:List AH} {o:List ByteArray} {y:ByteArray},y∈r.foldl (GT s) o->y∈o\/∃x∈r,x.1=y/\(Cu x s).2=true
 | [],_,_,h=>.inl h
 | x :: r,o,y,h=>by
  rw[OR]at h;rcases P7 h with h|⟨z,b,h⟩
  .unfold GT at h;split at h
   .rename_i a;rcases FD h with h|h
    .exact .inl h
    exact .inr ⟨x,by simp,h.symm,a⟩
   exact .inl h
  exact .inr ⟨z,by simp[b],h⟩
theorem Uk (h:(DC d s).2=true):∃x∈d,x.1=(DC d s).1/\(Cu x s).2=true:=by
 unfold DC at h ⊢;split
 .rename_i h1;have a:(A0 d (Ep d s)).getD 0 ByteArray.empty∈A0 d (Ep d s):=Ax O1;exact(P7 (Gg a)).resolve_left sc
 rename_i h1;rw[As h1]at h;cases h
theorem iK (d:List AH):dF (AW d).1:=by
 by_cases a:Ah d=0
 .rw[Jl a];obtain⟨l,-,m,n,-⟩:=Ui a;have hn:=OX l m;have h:=Uh d;refine⟨λx b=>?_,λt g p c=>?_⟩
  .rw[LO a]at b;obtain⟨s,hs,rfl⟩:=IF.1 b;obtain⟨y,o,e,-⟩:=Uk (n s hs);rw[h];show 0<=BE (AK d) (DC d s).1/\BE (AK d) (DC d s).1<((AK d).length:Int);rw[<-e];exact SD hn o
  obtain⟨k,hk,e⟩:=B7 Qv g;rw[h]at hk ⊢;have f:=yA a (t:=(k:Int)) (AAq _) O1;unfold YQ at f;rw[iS,e]at f;rw[f]at c;unfold RR at c;obtain⟨i,hi,rfl⟩:=IF.1 c;obtain⟨h1,j⟩:=AAO.1 hi;have h1:=oN.1 h1;exact((O3 a (t:=(k:Int)) (AAq _) O1 (Ax h1)).2 j).1
 have:(AW d).1=([],[]):=by
  unfold AW A1;rw[At a,At a]
 rw[this];exact⟨λx b=>(by cases b),λt g=>(by cases g)⟩
end
structure HAp (h:AE):Prop where
 iff:∀t f,0<=t->t<(h.1.length:Int)->0<=f->f<(h.2.length:Int)->((Cc h t f).2=true↔Ad h (J3 h f) t=true)
 mono:∀t t' f,0<=t->t<(h.1.length:Int)->0<=t'->t'<(h.1.length:Int)->0<=f->f<(h.2.length:Int)->Ad h t t'=true->(Cc h t f).2=true->Ad h (Cc h t f).1 (Cc h t' f).1=true
def SE (h:AE) (m:Nat) (u:List Int):Prop:=u.length=m/\∀t∈u,0<=t/\t<(h.1.length:Int)
theorem SE.get {u:List Int} (hu:SE h m u) {n:Nat} (n1:n<m):0<=u.getD n 0/\u.getD n 0<(h.1.length:Int):=by
 have a:n<u.length:=by rw[hu.1];exact n1
 rw[AS,An a];exact hu.2 _ (AAo a)
theorem MA.tyl {s:Ds} (hs:MA h m s):SE h m s.1:=⟨hs.len,hs.ty⟩
def PG (h:AE) (m:Nat) (u v:List Int):Prop:=∀i,i<m->Ad h (u.getD i 0) (v.getD i 0)=true
def iL (h:AE) (u:List Int) (n:Int) (l:List (Int×Int)):Prop:=∀a∈l,(Cc h (u.getD n.toNat 0) a.1).2=true/\Ad h (Cc h (u.getD n.toNat 0) a.1).1 (u.getD a.2.toNat 0)=true
def WTy (h:AE) (f:List AD) (u:List Int):Prop:=∀i,i<f.length->iL h u (i:Int) (f.getD i (0,[])).2
theorem PG.refl (hk:GC h) {u:List Int} (hu:SE h m u):PG h m u u:=λi hi=>R6 hk (hu.get hi).1 (hu.get hi).2
theorem PG.trans (hk:GC h) {u v w:List Int} (hu:SE h m u) (a:SE h m v) (b:SE h m w) (h1:PG h m u v) (c:PG h m v w):PG h m u w:=λi hi =>
 Gh hk (hu.get hi).1 (hu.get hi).2 (a.get hi).1 (a.get hi).2 (b.get hi).1 (b.get hi).2 (h1 i hi) (c i hi)
theorem PG.anti (hi:IH h) {u v:List Int} (hu:SE h m u) (b:SE h m v) (h1:PG h m u v) (d:PG h m v u):u=v:=by
 refine AAl (by rw[hu.1,b.1]) λi c e=>?_;have a:i<m:=by rw[<-hu.1];exact c
 have:=hi _ _ (hu.get a).1 (hu.get a).2 (b.get a).1 (b.get a).2 (h1 i a) (d i a)
 rwa [AS,An c,AS,An e]at this
structure lV (h:AE) (m:Nat) (s s':Ds):Prop where
 up:PG h m s.1 s'.1
 pre:s.2 <+: s'.2
 ch:∀k:Nat,k<m->s'.1.getD k 0=s.1.getD k 0\/(k:Int)∈s'.2.drop s.2.length
theorem lV.refl (hk:GC h) {s:Ds} (hs:MA h m s):lV h m s s:=⟨PG.refl hk hs.tyl,AAU _,λ_ _=>.inl rfl⟩
theorem P8 {l l':List Int} (a:l <+: l') {n:Nat} {x:Int} (h:x∈l.drop n):x∈l'.drop n:=by
 obtain⟨r,rfl⟩:=a;rw[ACu];exact tO _ h
theorem O4 {l:List Int} {a b:Nat} (c:a<=b) {x:Int} (h:x∈l.drop b):x∈l.drop a:=by
 have:l.drop b=(l.drop a).drop (b-a):=by rw[ABA];congr 1;omega
 rw[this]at h;exact AB4 h
theorem lV.trans (hk:GC h) {a b c:Ds} (ha:MA h m a) (i:MA h m b) (j:MA h m c) (h1:lV h m a b) (d:lV h m b c):lV h m a c:=by
 refine⟨h1.up.trans hk ha.tyl i.tyl j.tyl d.up,h1.pre.trans d.pre,λk g=>?_⟩;rcases d.ch k g with f|f
 .rcases h1.ch k g with e|e
  .exact .inl (f.trans e)
  exact .inr (P8 d.pre e)
 exact .inr (O4 h1.pre.length_le f)
theorem P9 (hk:GC h) (hi:IH h) {s c:Ds} (hs:MA h m s) {t:Int} (n0:0<=n) (n1:n<(m:Int)) (f:0<=t) (g:t<(h.1.length:Int)) (e:Cw h s n t=some c) :
  lV h m s c/\Ad h t (c.1.getD n.toNat 0)=true:=by
 have r:=(EO hk hi hs n0 n1 f g e).1;obtain⟨i,j⟩:=hs.get n0 n1;unfold Cw at e;split at e
 .rename_i o;obtain⟨u,w,q,d⟩:=(K9 hk i j f g).1 o;generalize (Cb h (s.1.getD n.toNat 0) t).1=v at *;injection e with e
  split at e
  .rename_i p;subst e;exact⟨lV.refl hk hs,by rw[<-p];exact d⟩
  subst e;have l:n.toNat<s.1.length:=by rw[hs.len];omega
  have a:∀k:Nat,(s.1.set n.toNat v).getD k 0=if k=n.toNat then v else s.1.getD k 0:=λk=>Lz _ _ _ l k
  refine⟨⟨λk b=>?_,ACd _ _,λk b=>?_⟩,?_⟩
  .simp only;rw[a];split
   .rename_i e;rw[e];exact q
   exact R6 hk (hs.tyl.get b).1 (hs.tyl.get b).2
  .simp only;rw[a];split
   .rename_i e;right;rw[ACu,AAY,AAw];exact AAA _ (by simp;omega)
   exact .inl rfl
  simp only;rw[a,At rfl];exact d
 cases e
theorem W3 (hk:GC h) (hi:IH h) {s:Ds} (hs:MA h m s) {t:Int} (n0:0<=n) (n1:n<(m:Int)) (p:0<=t) (q:t<(h.1.length:Int)) {u:List Int} (hu:SE h m u) (a:PG h m s.1 u) (j:Ad h t (u.getD n.toNat 0)=true) :
  ∃c,Cw h s n t=some c/\PG h m c.1 u:=by
 obtain⟨d,f⟩:=hs.get n0 n1;have b:n.toNat<m:=by omega
 obtain⟨r,v⟩:=hu.get b;obtain⟨l,o⟩:=(K9 hk d f p q).2 _ r v (a _ b) j;unfold Cw;rw[At l];refine⟨_,rfl,?_⟩;split
 .exact a
 intro k g;have i:n.toNat<s.1.length:=by rw[hs.len];omega
 simp only;rw[Lz _ _ _ i k];split
 .rename_i e;rw[e];exact o
 exact a k g
section
variable {h:AE} (hk:GC h) (hi:IH h) (hf:dF h) (hap:HAp h) {m:Nat} {n:Int} (n0:0<=n) (n1:n<(m:Int))
include hk hi hf n0 n1
theorem Yh:∀ {l:List (Int×Int)} {s c:Ds},(∀a∈l,J5 h m a)->MA h m s->LF h n l s=some c->lV h m s c/\∀a∈l,Ad h (J3 h a.1) (c.1.getD n.toNat 0)=true
 | [],s,c,_,hs,e=>by
  injection e with e
  subst e;exact⟨lV.refl hk hs,λa ha=>by cases ha⟩
 | a :: l,s,c,o,hs,e=>by
  unfold LF at e;cases g:Cw h s n (J3 h a.1) with
  | none=>rw[g]at e;cases e
  | some s1 =>
   rw[g]at e;obtain⟨⟨r,t⟩,-⟩:=o a sc;obtain⟨j,k⟩:=LG hf r t;obtain⟨d,-,-⟩:=EO hk hi hs n0 n1 j k g;obtain⟨v,w⟩:=P9 hk hi hs n0 n1 j k g;have p:∀b∈l,J5 h m b:=λb f=>o b (GO _ f);have e:LF h n l s1=some c:=e;obtain⟨q,u⟩:=Yh p d e;have i:=(Om hk hi hf n0 n1 p d e).1;refine⟨v.trans hk hs d i q,λb f=>?_⟩;rcases BY.1 f with rfl|f
   .exact Gh hk j k (d.get n0 n1).1 (d.get n0 n1).2 (i.get n0 n1).1 (i.get n0 n1).2 w (q.up _ O1)
   exact u b f
theorem lW:∀ {l:List (Int×Int)} {s c:Ds},(∀a∈l,J5 h m a)->MA h m s->L9 h n l s=some c->lV h m s c/\(n∈c.2.drop s.2.length\/(c.1.getD n.toNat 0=s.1.getD n.toNat 0/\∀a∈l,(Cc h (s.1.getD n.toNat 0) a.1).2=true/\Ad h (Cc h (s.1.getD n.toNat 0) a.1).1 (c.1.getD a.2.toNat 0)=true))
 | [],s,c,_,hs,e=>by
  injection e with e
  subst e;exact⟨lV.refl hk hs,.inr ⟨rfl,λa ha=>by cases ha⟩⟩
 | a :: l,s,c,t,hs,e=>by
  unfold L9 at e;split at e
  .rename_i v;obtain⟨w,x⟩:=hs.get n0 n1;obtain⟨o,p⟩:=Iq hf w x v;cases j:Cw h s a.2 (Cc h (s.1.getD n.toNat 0) a.1).1 with
   | none=>rw[j]at e;cases e
   | some s1 =>
    rw[j]at e;obtain⟨-,d,b1⟩:=t a sc;obtain⟨g,-,-⟩:=EO hk hi hs d b1 o p j;obtain⟨r,A⟩:=P9 hk hi hs d b1 o p j;have u:∀b∈l,J5 h m b:=λb f=>t b (GO _ f);have e:L9 h n l s1=some c:=e;obtain⟨q,i⟩:=lW u g e;have k:=(R7 hk hi hf n0 n1 u g e).1;refine⟨r.trans hk hs g k q,?_⟩;have y:((n.toNat:Nat):Int)=n:=AAX n0;rcases r.ch n.toNat O1 with c1|c1
    .rcases i with i|⟨i,z⟩
     .exact .inl (O4 r.pre.length_le i)
     refine .inr ⟨i.trans c1,λb f=>?_⟩;rcases BY.1 f with rfl|f
     .exact⟨v,Gh hk o p (g.get d b1).1 (g.get d b1).2 (k.get d b1).1 (k.get d b1).2 A (q.up _ O1)⟩
     have:=z b f
     rwa [c1]at this
    rw[y]at c1;exact .inl (P8 q.pre c1)
  cases e
include hap
theorem lX {u:List Int} (hu:SE h m u):∀ {l:List (Int×Int)} {s:Ds},(∀a∈l,J5 h m a)->MA h m s->PG h m s.1 u->(∀a∈l,(Cc h (u.getD n.toNat 0) a.1).2=true)->∃c,LF h n l s=some c/\PG h m c.1 u
 | [],s,_,_,e,_=>⟨s,rfl,e⟩
 | a :: l,s,j,hs,e,k=>by
  obtain⟨⟨f,g⟩,-⟩:=j a sc;obtain⟨o,p⟩:=LG hf f g;obtain⟨v,w⟩:=hu.get (show n.toNat<m by omega);obtain⟨s1,i,h1⟩:=W3 hk hi hs n0 n1 o p hu e ((hap.iff _ _ v w f g).1 (k a sc));obtain⟨r,-,-⟩:=EO hk hi hs n0 n1 o p i;obtain⟨c,q,t⟩:=lX hu (λb d=>j b (GO _ d)) r h1 λb d=>k b (GO _ d);exact⟨c,by unfold LF;rw[i];exact q,t⟩
theorem lY {u:List Int} (hu:SE h m u):∀ {l:List (Int×Int)} {s:Ds},(∀a∈l,J5 h m a)->MA h m s->PG h m s.1 u->(∀a∈l,Ad h (J3 h a.1) (s.1.getD n.toNat 0)=true)->iL h u n l->∃j,L9 h n l s=some j/\PG h m j.1 u
 | [],s,_,_,f,_,_=>⟨s,rfl,f⟩
 | a :: l,s,p,hs,f,y,z=>by
  obtain⟨⟨v,w⟩,k,b1⟩:=p a sc;obtain⟨d,e⟩:=hs.get n0 n1;have q:n.toNat<m:=by omega
  have x:a.2.toNat<m:=by omega
  obtain⟨A,B⟩:=hu.get q;have r:=(hap.iff _ _ d e v w).2 (y a sc);obtain⟨g,i⟩:=Iq hf d e r;obtain⟨I,J⟩:=z a sc;obtain⟨v0,v1⟩:=Iq hf A B I;have E:=hap.mono _ _ a.1 d e A B v w (f _ q) r;obtain⟨s1,o,h1⟩:=W3 hk hi hs k b1 g i hu f (Gh hk g i v0 v1 (hu.get x).1 (hu.get x).2 E J);obtain⟨t,-,-⟩:=EO hk hi hs k b1 g i o;obtain⟨H,-⟩:=P9 hk hi hs k b1 g i o;obtain⟨j,C,D⟩:=lY hu (λb c=>p b (GO _ c)) t h1 (λb c=>by
   obtain⟨⟨c0,c1⟩,-⟩:=p b (GO _ c);obtain⟨F,G⟩:=LG hf c0 c1;exact Gh hk F G d e (t.get n0 n1).1 (t.get n0 n1).2 (y b (GO _ c)) (H.up _ q)) λb c=>z b (GO _ c)
  exact⟨j,by unfold L9;rw[At r,o];exact C,D⟩
end
section
variable {h:AE} (hk:GC h) (hi:IH h) (hf:dF h) (hap:HAp h) {f:List AD} (ha:NI h f)
include hk hi hf hap ha
theorem yD (n0:0<=n) (n1:n<(f.length:Int)) {s c:Ds} (hs:MA h f.length s) (e:J4 h f n s=some c):lV h f.length s c/\(n∈c.2.drop s.2.length\/iL h c.1 n (f.getD n.toNat (0,[])).2):=by
 have _:=hap;have g:=LH ha n0 n1;unfold J4 at e;cases d:LF h n (f.getD n.toNat (0,[])).2 s with
 | none=>rw[d]at e;cases e
 | some s1 =>
  rw[d]at e;have i:=(Om hk hi hf n0 n1 g hs d).1;obtain⟨j,-⟩:=Yh hk hi hf n0 n1 g hs d;have e:L9 h n (f.getD n.toNat (0,[])).2 s1=some c:=e;have k:=(R7 hk hi hf n0 n1 g i e).1;obtain⟨l,b⟩:=lW hk hi hf n0 n1 g i e;refine⟨j.trans hk hs i k l,?_⟩;rcases b with b|⟨b,m⟩
  .exact .inl (O4 j.pre.length_le b)
  refine .inr λa ha=>?_;rw[b];exact m a ha
theorem yE (n0:0<=n) (n1:n<(f.length:Int)) {s:Ds} (hs:MA h f.length s) {u:List Int} (hu:SE h f.length u) (d:iL h u n (f.getD n.toNat (0,[])).2) (j:PG h f.length s.1 u):∃e,J4 h f n s=some e/\PG h f.length e.1 u:=by
 have b:=LH ha n0 n1;obtain⟨s1,c,h1⟩:=lX hk hi hf hap n0 n1 hu b hs j λa ha=>(d a ha).1;have k:=(Om hk hi hf n0 n1 b hs c).1;obtain⟨-,l⟩:=Yh hk hi hf n0 n1 b hs c;obtain⟨s2,g,i⟩:=lY hk hi hf hap n0 n1 hu b k h1 l d;exact⟨s2,by unfold J4;rw[c];exact g,i⟩
def A6H (h:AE) (f:List AD) (i:Nat) (s:Ds):Prop:=∀n:Nat,n<f.length->iL h s.1 (n:Int) (f.getD n (0,[])).2\/(n:Int)∈s.2.drop i
theorem A1Q {n:Nat} (hn:n<f.length) {s:Ds} (hs:MA h f.length s) (i:MA h f.length d) (j:lV h f.length s d) (p:iL h s.1 (n:Int) (f.getD n (0,[])).2):iL h d.1 (n:Int) (f.getD n (0,[])).2\/(n:Int)∈d.2.drop s.2.length:=by
 have _:=hap;have _:=hi;have o:∀a∈(f.getD n (0,[])).2,J5 h f.length a:=ha _ (AG f (0,[]) hn);rcases j.ch n hn with c|c
 .left;intro a g;obtain⟨e,k⟩:=p a g;obtain⟨-,b,b1⟩:=o a g;rw[iS]at e k ⊢;rw[c];obtain⟨l,m⟩:=hs.tyl.get hn;obtain⟨q,r⟩:=Iq hf l m e;exact⟨e,Gh hk q r (hs.get b b1).1 (hs.get b b1).2 (i.get b b1).1 (i.get b b1).2 k (j.up _ O1)⟩
 exact .inr c
theorem lZ:∀ {k i:Nat} {s:Ds} {ty:List Int},MA h f.length s->A6H h f i s->rB h f k i s=some ty->WTy h f ty/\PG h f.length s.1 ty/\SE h f.length ty
 | 0,_,_,_,_,_,e=>by cases e
 | k+1,i,s,ty,hs,m,e=>by
  unfold rB at e;split at e
  .rename_i d;have q:=AG s.2 (0:Int) d;obtain⟨n0,n1⟩:=hs.wt _ q;generalize hn:s.2.getD i 0=n at *;cases c:J4 h f n s with
   | none=>rw[c]at e;cases e
   | some s1 =>
    rw[c]at e;have g:=(UQ hk hi hf ha n0 n1 hs c).1;obtain⟨j,b⟩:=yD hk hi hf hap ha n0 n1 hs c;have t:A6H h f (i+1) s1:=by
     intro o l;rcases m o l with r|a
     .rcases A1Q hk hi hf hap ha l hs g j r with h1|h1
      .exact .inl h1
      exact .inr (O4 O1 h1)
     have u:s.2.drop i=n :: s.2.drop (i+1):=by
      rw[OF d,<-hn,AS,An d];rfl
     rw[u]at a;rcases BY.1 a with a|a
     .rcases b with b|b
      .exact .inr (by rw[a];exact O4 O1 b)
      left;rw[a];have:n.toNat=o:=by omega
      rw[this]at b;exact b
     exact .inr (P8 j.pre a)
    have e:rB h f k (i+1) s1=some ty:=e;obtain⟨v,w,p⟩:=lZ g t e;exact⟨v,j.up.trans hk hs.tyl g.tyl p w,p⟩
  rename_i d;injection e with e
  subst e;refine⟨λn hn=>?_,PG.refl hk hs.tyl,hs.tyl⟩;rcases m n hn with h1|h1
  .exact h1
  rw[ON O1]at h1;cases h1
theorem yF {u:List Int} (hu:SE h f.length u) (d:WTy h f u):∀ {k i:Nat} {s:Ds},MA h f.length s->i<=s.2.length->Wj h s.1+s.2.length+1<=k+i->PG h f.length s.1 u->∃ty,rB h f k i s=some ty/\PG h f.length ty u
 | 0,i,s,hs,j,l,b=>by omega
 | k+1,i,s,hs,j,l,b=>by
  unfold rB;by_cases a:i<s.2.length
  .rw[At a];obtain⟨n0,n1⟩:=hs.wt _ (AG s.2 (0:Int) a);have e:=d (s.2.getD i 0).toNat O1;rw[AAX n0]at e;obtain⟨s1,c,h1⟩:=yE hk hi hf hap ha n0 n1 hs hu e b;obtain⟨g,m,n⟩:=UQ hk hi hf ha n0 n1 hs c;rw[c];exact yF hu d g O1 O1 h1
  rw[As a];exact⟨s.1,rfl,b⟩
theorem iM (a:∀x∈f,0<=x.1/\x.1<(h.1.length:Int)) {ty:List Int} (e:HR h f=some ty):WTy h f ty/\PG h f.length (Ba f) ty/\SE h f.length ty:=by
 have e:rB h f (MV h f) 0 (Ba f,Dy f)=some ty:=e;refine lZ hk hi hf hap ha (k:=MV h f) (i:=0) (s:=(Ba f,Dy f)) (xB a) (λn hn=>.inr ?_) e;rw[AAw];exact IF.2 ⟨n,oN.2 hn,rfl⟩
theorem b9 (b:∀x∈f,0<=x.1/\x.1<(h.1.length:Int)) {u:List Int} (hu:SE h f.length u) (c:WTy h f u) (a:PG h f.length (Ba f) u):∃ty,HR h f=some ty/\PG h f.length ty u :=
 yF hk hi hf hap ha hu c (k:=MV h f) (i:=0) (s:=(Ba f,Dy f)) (xB b) (Do _) (xC h f) a
end
inductive Up (d:List AH) (m:ByteArray):ByteArray->Prop
 | base {x:ByteArray}:AL m x=true->Up d m x
 | step {x s:ByteArray} {y:AH}:y∈d->AL y.1 x=true->AU y.2.1 s=true->Up d m s->Up d m x
section
variable {d:List AH}
theorem Ul {m:ByteArray} (h:Up d m x) (e:AL x y=true):Up d m y:=by
 cases h with
 | base h=>exact .base (BF h e)
 | step h1 a b c=>exact .step h1 (BF a e) b c
theorem A4R {c s:ByteArray} (h:Up d c x) {y:AH} (f:y∈d) (e:AL y.1 c=true) (hs:AU y.2.1 s=true):Up d s x:=by
 induction h with
 | base h=>exact .step f (BF e h) hs (.base (CO s))
 | step h1 a b i g=>exact .step h1 a b g
theorem O5 {a b c:ByteArray} (h1:Up d a b) (i:Up d b c):Up d a c:=by
 induction i with
 | base h=>exact Ul h1 h
 | step e f g k j=>exact .step e f g j
theorem A1R {m a x:ByteArray} (e:AL a m=true) (h:Up d m x):Up d a x:=O5 (.base e) h
theorem A1S (hn:CV d=0) (f:d.length<=(Bd d).length) {m:ByteArray} (h:Up d m x):AL m x=true\/FO d m<FO d x:=by
 induction h with
 | base h=>exact .inl h
 | step h1 c e g a =>
  right;have b:=JY hn f h1 e;rw[HJ d c]at b;rcases a with a|a
  .rw[HJ d a];exact b
  omega
theorem yG {o:List ByteArray} {t:ByteArray} (h:t∈Id o s):t∈o\/t=s:=by
 unfold Id at h;split at h
 .exact .inl h
 rcases IS.1 h with h|h
 .exact .inl h
 exact .inr (by simpa using h)
theorem W4:∀ {l o:List ByteArray} {t:ByteArray},t∈l.foldl Id o->t∈o\/t∈l
 | [],_,_,h=>.inl h
 | s :: l,o,t,h=>by
  rw[OR]at h;rcases W4 h with h|h
  .rcases yG h with h|h
   .exact .inl h
   exact .inr (by simp[h])
  exact .inr (by simp[h])
theorem p8 (h:0<=Aj d s):d.getD (Aj d s).toNat d0∈d/\AL (d.getD (Aj d s).toNat d0).1 s=true:=by
 rcases C3 d s with g|⟨b,c,a⟩
 .omega
 exact⟨Ax O1,a⟩
theorem W5 (hs:OD d) {x:ByteArray}:∀ {n i:Nat} {o:List ByteArray},(∀t∈o,0<=Aj d t/\Up d t x)->∀t∈HF d n i o,0<=Aj d t/\Up d t x
 | 0,_,_,b=>b
 | n+1,i,o,b=>by
  unfold HF;split
  .rename_i hi;refine W5 hs λt a=>?_;rcases W4 a with a|a
   .exact b t a
   obtain⟨c1,c2⟩:=b _ (Ax (d:=ByteArray.empty) hi);obtain⟨c,e⟩:=p8 c1;exact⟨hs _ c t a,A4R c2 c e (E0 a)⟩
  exact b
theorem W6 {l:List ByteArray} {t:ByteArray} (h:t∈Ie l):t∈l:=(Tm (o:=[]) h).resolve_left sc
theorem yH (hs:OD d) {x t:ByteArray} (b:0<=Aj d x) (h:AU (JT d x) t=true):Up d t x:=by
 obtain⟨u,hu,e⟩:=VK.1 h;unfold JT at hu;rw[As O1]at hu;have:=(W5 hs (x:=x) (n:=d.length) (i:=0) (o:=[x]) (λt a=>by
  have:t=x:=by simpa using a
  subst this;exact⟨b,.base (CO _)⟩) u (W6 hu)).2
 exact A1R (Bm e) this
theorem W7 {m:ByteArray}:∀ {n i:Nat} {o:List ByteArray},(∀t∈o,Up d m t)->∀t∈CW d n i o,Up d m t
 | 0,_,_,a=>a
 | n+1,i,o,a=>by
  unfold CW;split
  .rename_i hi;have f:=a _ (Ax (d:=ByteArray.empty) hi);generalize o.getD i ByteArray.empty=c at *;have key:∀(l:List AH) (o:List ByteArray),(∀y∈l,y∈d)->(∀t∈o,Up d m t)->∀t∈l.foldl (Ef c) o,Up d m t:=by
    intro l;induction l with
    | nil=>exact λo _ a=>a
    | cons y l j =>
     intro o e a;rw[OR];refine j _ (λz g=>e z (by simp[g])) λt b=>?_;unfold Ef at b;split at b
     .rename_i h;rw[AT]at h;rcases IS.1 b with b|b
      .exact a t b
      have:t=y.1:=by simpa using b
      subst this;exact .step (e y sc) (CO _) h.1 f
     exact a t b
   exact W7 (key d o (λ_ h=>h) a)
  exact a
theorem Um {m:ByteArray} (h:AU (CX d m) x=true):Up d m x:=by
 obtain⟨u,hu,e⟩:=VK.1 h;unfold CX at hu;split at hu
 .cases hu
 exact Ul (W7 (m:=m) (n:=d.length) (i:=0) (o:=[m]) (λt a=>by
  have:t=m:=by simpa using a
  subst this;exact .base (CO _)) u (W6 hu)) e
theorem Un {m:ByteArray} (u:0<=Aj d m) (h:Up d m x):AU (CX d m) x=true:=by
 have q:X7 d [m]:=⟨λs hs=>by
  have:s=m:=by simpa using hs
  rw[this];exact u,by simp⟩
 obtain⟨k,v,D⟩:=Ud (d:=d) (n:=d.length) (i:=0) q O1 (λj t=>by omega) O1;have A:m∈CW d d.length 0 [m]:=JZ sc;have r:CX d m=Ie (CW d d.length 0 [m]):=by unfold CX;rw[As O1]
 rw[r];generalize CW d d.length 0 [m]=o at *;have key:AU o x=true:=by
  induction h with
  | base h=>exact VK.2 ⟨m,A,h⟩
  | step h1 l p C B =>
   obtain⟨z,c,a⟩:=VK.1 B;obtain⟨j,t,rfl⟩:=B7 ByteArray.empty c;obtain⟨s,y,f⟩:=VK.1 p;obtain⟨w,b,g⟩:=VK.1 (v j O1 _ h1 (VK.2 ⟨s,y,BF f (Bm a)⟩));exact VK.2 ⟨w,b,BF g l⟩
 obtain⟨z,c,e⟩:=VK.1 key;obtain⟨w,b,a⟩:=VK.1 (OT (o:=[]) c);exact VK.2 ⟨w,b,BF a e⟩
theorem W8:∀ {l o:List ByteArray} {x:ByteArray},AU o x=true->AU (l.foldl (Eg d) o) x=true
 | [],_,_,h=>h
 | s :: l,o,x,h=>by
  rw[OR];refine W8 ?_;unfold Eg;split
  .exact Gu (λz a=>Ik a) h
  exact h
theorem O6:∀ {l o:List ByteArray} {x:ByteArray},x∈l->0<=Aj d x->AU (l.foldl (Eg d) o) x=true
 | s :: l,o,x,h,a=>by
  rw[OR];rcases BY.1 h with rfl|h
  .refine W8 ?_;unfold Eg;rw[At a];exact K5
  exact O6 h a
theorem MW:∀ {l o:List ByteArray},(∀x∈o,0<=Aj d x)->∀x∈l.foldl (Eg d) o,0<=Aj d x
 | [],_,b=>b
 | s :: l,o,b=>by
  rw[OR];refine MW λx a=>?_;unfold Eg at a;split at a
  .rcases FD a with a|rfl
   .exact b x a
   assumption
  exact b x a
theorem A4S {l:List ByteArray} (h:lD l) {i j:Nat} (hi:i<l.length) (a:j<l.length) (d:i≠j):AL (l.getD i ByteArray.empty) (l.getD j ByteArray.empty)=false:=by
 have c:∀k (h:k<l.length),l.getD k ByteArray.empty=l[k]:=λk h=>by rw[AS,An h];rfl
 rw[c i hi,c j a];rcases Nat.lt_or_gt_of_ne d with b|b
 .exact(mX.1 h) i j hi a b
 exact Hw ((mX.1 h) j i a hi b)
theorem O7:∀ {l o:List ByteArray},lD o->(∀s∈l,∀x∈o,AL x s=false)->lD l->lD (l.foldl (Eg d) o)
 | [],_,h,_,_=>h
 | s :: l,o,h,b,f=>by
  rw[OR];have e:=AAf.1 f;refine O7 ?_ (λy c x a=>?_) e.2
  .unfold Eg;split
   .exact UD h (b s sc)
   exact h
  unfold Eg at a;split at a
  .rcases FD a with a|rfl
   .exact b y (by simp[c]) x a
   exact e.1 y c
  exact b y (by simp[c]) x a
theorem p9 (hn:CV d=0) (s:ByteArray):lD (Ep d s):=by
 have key:∀(r:List AH) (o:List ByteArray),lD o->(∀y∈r,∀x∈o,AL x y.1=false)->r.Pairwise (λa b=>AL a.1 b.1=false)->lD (r.foldl (GT s) o):=by
  intro r;induction r with
  | nil=>exact λo h _ _=>h
  | cons y r t =>
   intro o h f q;rw[OR];have l:=AAf.1 q;refine t _ ?_ (λz g x c=>?_) l.2
   .unfold GT;split
    .exact UD h (f y sc)
    exact h
   unfold GT at c;split at c
   .rcases FD c with c|rfl
    .exact f z (by simp[g]) x c
    exact l.1 z g
   exact f z (by simp[g]) x c
 refine key d [] .nil (λy _ x c=>by cases c) (mX.2 λi j hi k u=>?_);cases e:AL d[i].1 d[j].1 with
 | false=>rfl
 | true =>
  have h1:=K4 hn hi;have p:=K4 hn k;have m:d.getD i d0=d[i]:=by rw[AS,An hi];rfl
  have n:d.getD j d0=d[j]:=by rw[AS,An k];rfl
  rw[m,Hs d e]at h1;rw[n]at p;omega
theorem QA (r:A3 d=0) {l:List ByteArray} (t:lD l) {x:ByteArray} (g:x∈l) (w:0<=Aj d x):∃m∈A0 d l,Up d m x:=by
 obtain⟨hs,C,-,hn,A⟩:=Av r;have z:∀y∈BZ d l,0<=Aj d y:=MW λy c=>by cases c
 obtain⟨q,n,ex⟩:=VK.1 (O6 (d:=d) (o:=[]) g w);have n:q∈BZ d l:=n;have v:lD (BZ d l):=O7 .nil (λs _ x g=>by cases g) t;have u:A0 d l=OH d (BZ d l) (BZ d l).length:=rfl;rw[u];generalize BZ d l=all at *;have key:∀(k:Nat) (y:ByteArray),FO d y<k->y∈all->Up d y x->∃m∈OH d all all.length,Up d m x:=by
  intro k;induction k with
  | zero=>exact λy h=>by omega
  | succ k B =>
   intro y D c hu;obtain⟨i,hi,rfl⟩:=B7 ByteArray.empty c;by_cases a:OG d all i all.length=true
   .exact⟨_,IF.2 ⟨i,AAO.2 ⟨oN.2 hi,a⟩,rfl⟩,hu⟩
   have a:OG d all i all.length=false:=by simpa using a
   unfold OG at a;obtain⟨j,b,hf⟩:=List.all_eq_false.1 a;have b:=oN.1 b;unfold kQ at hf;simp only[qY,AA3,aT,not_or,Bool.not_eq_false]at hf;obtain⟨f,ha⟩:=hf;have f:j≠i:=λe=>f (by rw[e]);have p:=yH hs (z _ c) ha;rcases A1S hn A p with e|e
   .exact absurd e (by rw[A4S v b hi f];simp)
   exact B _ O1 (Ax b) (O5 p hu)
 exact key _ q (AAT _) n (.base ex)
theorem Jm (hs:s∈AN d):0<=Aj d s:=by
 obtain⟨x,a,rfl⟩:=DA hs;exact C9 a
theorem O8 {x:AH} (a:x∈d) (hn:CV d=0):x.1∈AN d:=by
 obtain⟨s,hs,e⟩:=VK.1 (NB a);obtain⟨y,b,rfl⟩:=DA hs;rw[<-OQ hn b a e];exact hs
theorem A1T (b:A3 d=0) {m:ByteArray} (c:0<=Aj d m) (h:Up d m x) {i:Nat} (hi:BA (D9 d (AN d) x) i=true):BA (D9 d (AN d) m) i=true:=by
 obtain⟨-,j,-,hn,k⟩:=Av b;have e:=Da d d.length;rw[oR]at e;have a:(AN d).length<=4096:=by omega
 obtain⟨f,g⟩:=(B0 (d:=d) a x i).1.1 hi;exact(B0 (d:=d) a m i).1.2 ⟨f,Un c (O5 h (Um g))⟩
end
section
variable {d:List AH}
def Dc (d:List AH) (c:List Int):Prop:=HI c/\∀i j,BA c i=true->j<(AN d).length->Up d ((AN d).getD i ByteArray.empty) ((AN d).getD j ByteArray.empty)->BA c j=true
theorem A4T:Dc d []:=⟨λx a=>(by cases a),λi j hi=>by unfold BA at hi;simp at hi⟩
theorem A4U {a b:List Int} (ha:Dc d a) (c:Dc d b):Dc d (Dz a b) :=
 ⟨Od ha.1 c.1,λi j hi e hu=>by
  rw[Oc ha.1 c.1,AT]at hi ⊢;exact⟨ha.2 i j hi.1 e hu,c.2 i j hi.2 e hu⟩⟩
theorem A1U {l:List (List Int)} (h:∀c∈l,Dc d c) (k:Nat):Dc d (l.getD k []):=by grind [Ax,Pv,A4T]
theorem A1V {l:List (List Int)} (h:∀c∈l,Dc d c) (i k:Nat):∀c∈Fi l i k,Dc d c:=by grind [Fi,Dz,A4U,A1U]
theorem l0 {i:Nat}:∀ {n k:Nat} {l:List (List Int)},(∀c∈l,Dc d c)->∀c∈Fj i n k l,Dc d c
 | 0,_,_,h=>h
 | n+1,k,l,h=>by
  unfold Fj;split
  .exact l0 (A1V h i k)
  exact h
theorem l4:∀ {n i:Nat} {l:List (List Int)},(∀c∈l,Dc d c)->∀c∈HG n i l,Dc d c
 | 0,_,_,h=>h
 | n+1,i,l,h=>by
  unfold HG;split
  .exact l4 (l0 h)
  exact h
theorem Q3 (a:A3 d=0):(AN d).length<=4096:=by
 obtain⟨-,c,-⟩:=Av a;have b:=Da d d.length;rw[oR]at b;omega
theorem A1W (a:A3 d=0) (hs:0<=Aj d s):Dc d (D9 d (AN d) s):=by
 have b:=Q3 a;refine⟨(B0 (d:=d) b s 0).2.1,λi j hi c hu=>?_⟩;grind [B0,Un,O5,Um]
theorem A4V (a:A3 d=0):∀c∈Ar (AR d),Dc d c:=l4 λc b=>by
 obtain⟨s,hs,rfl⟩:=IF.1 b;exact A1W a (Jm hs)
theorem l5 {all:List ByteArray} {codes:List (List Int)} {b:List Int} {u:ByteArray}:∀ {m i:Nat} {l:List ByteArray},kW d all codes b m i l=.inl u->∃j,i<=j/\j<i+m/\C2 (codes.getD j []) b=true/\u=all.getD j ByteArray.empty
 | 0,_,_,h=>by cases h
 | m+1,i,l,h=>by
  unfold kW at h;split at h
  .grind
  obtain⟨j,e,f,a,c⟩:=l5 h;exact⟨j,by omega,by omega,a,c⟩
theorem l6 {all:List ByteArray} {codes:List (List Int)} {b:List Int} {r:List ByteArray}:∀ {m i:Nat} {l:List ByteArray},kW d all codes b m i l=.inr r->(∀j,i<=j->j<i+m->C2 (codes.getD j []) b=false)/\r=l++((List.range' i m).filter λj:Nat=>RM b (j:Int)).map λj=>all.getD j ByteArray.empty
 | 0,i,l,h=>by grind [kW]
 | m+1,i,l,h=>by
  unfold kW at h;split at h
  .cases h
  rename_i f;obtain⟨c,a⟩:=l6 h;refine⟨λj h1 e=>?_,?_⟩
  .grind
  rw[a,ACr,AAp];grind
theorem l7 {a b:ByteArray} {x:UInt8}:x∈(a++b).toList↔x∈a.toList\/x∈b.toList:=by
 rw[ByteArray.toList_eq,ByteArray.toList_eq,ByteArray.toList_eq];simp
theorem qA {l:List ByteArray}:∀ {n:Nat},2<=n->(38:UInt8)∈(OU l n).toList
 | n+1,hn=>by
  rw[NC];unfold WU;rw[At O1];rw[l7,l7]
  simp_all
theorem iO (hn:CV d=0) (hs:s∈AN d):(38:UInt8)∉s.toList:=by
 obtain⟨x,g,rfl⟩:=DA hs;obtain⟨j,c,e⟩:=B7 d0 g;have h1:=(Ht (d:=d) (r:=d) (k:=0) hn j c).2;rw[e]at h1;intro a;unfold BJ at h1;rw[AT,No]at h1;rw[ByteArray.toList_eq]at a;obtain⟨k,hk,h⟩:=AAn.1 a;have f:k<x.1.data.size:=by simpa using hk
 have:=h1.2 k (oN.2 f);unfold MO at this;have b:x.1.data.getD k 0=38:=by simp_all
 rw[b]at this;revert this;decide
theorem qB (h:A3 d=0) {y:AP} (V:y∈AK d) (hf:Hv (Ar (AR d))) (hs:s∈AN d) (e:AL y.1 s=true):y.2=D9 d (AN d) s:=by
 obtain⟨ah,ab,-,hn,af⟩:=Av h;have o:=Q3 h;have L:Nd (Ar (AR d)):=R4 (Pw h);have ae:(AR d).length=(AN d).length:=by simp[AR]
 have M:AR d <+: Ar (AR d):=Oa 257 0 (AR d);have U:∀ {t:ByteArray},t∈AN d->AL t s=true->t=s:=λ{t} x e=>by grind [DA,OQ]
 have heq:∀j,j<(AN d).length->∀b∈Ar (AR d),C2 ((AR d).getD j []) b=true->b=D9 d (AN d) ((AN d).getD j ByteArray.empty):=λj R b f p=>by
  have g:(AR d).getD j []∈Ar (AR d):=M.subset (Ax O1);unfold C2 at p;rw[AT,Er (hf.wds _ g) (hf.wds b f),Er (hf.wds b f) (hf.wds _ g)]at p;rw[<-Hu d R];refine gM (hf.wds b f) (hf.wds _ g) (L.nrm b f) (L.nrm _ g) λi=>?_;rw[ABm];exact⟨p.2 i,p.1 i⟩
 obtain⟨b,f,rfl⟩:=DB.1 V;show b=_;have e:AL (F8 d (AN d) (AR d) b) s=true:=e;unfold F8 at e;cases w:kW d (AN d) (AR d) b (AN d).length 0 [] with
 | inl u =>
  rw[w]at e;obtain⟨j,-,C,X,rfl⟩:=l5 w;rw[AAG]at C;rw[<-U (Ax C) e];exact heq j C b f X
 | inr l =>
  exfalso;rw[w]at e;have e:AL (aI (A0 d l)) s=true:=e;obtain⟨O,D⟩:=l6 w;rw[bY]at D;have N:=hf.wds b f;have v:∀i,i<(AN d).length->BA b i=true->(AN d).getD i ByteArray.empty∈l:=λi hi ad=>by grind [SC]
  have K:∀t∈l,∃i,i<(AN d).length/\t=(AN d).getD i ByteArray.empty/\BA b i=true:=λt x=>by grind [SC]
  have T:(List.range' 0 (AN d).length).map (λj=>(AN d).getD j ByteArray.empty)=AN d:=by
   apply AAl
   .simp
   intro i ai W;simp[AS,W]
  have E:lD l:=by
   rw[D];have:=UE hn;rw[<-T]at this;exact this.sublist (List.filter_sublist.map _)
  obtain⟨z,r⟩:=hf.some b f;have B:∀i,BA b i=true->i<(AN d).length:=by
   have:=Yf (q:=(AN d).length) (n:=257) (i:=0) (l:=AR d) (λc Q=>by
    obtain⟨t,x,rfl⟩:=IF.1 Q;exact⟨(B0 (d:=d) o t 0).2.1,λi hi=>((B0 (d:=d) o t i).1.1 hi).1⟩) b f
   exact this.2
  have F:∀t∈l,0<=Aj d t:=λt x=>by
   obtain⟨i,hi,rfl,-⟩:=K t x;exact Jm (Ax hi)
  obtain⟨m,g,-⟩:=QA h E (v z (B z r) r) (F _ (v z (B z r) r));have ag:0<(A0 d l).length:=ABO g;have S:aI (A0 d l)=OU (A0 d l) (A0 d l).length:=rfl;rw[S]at e;by_cases h1:(A0 d l).length=1
  .obtain⟨k,H,rfl,P⟩:=K m (Gg g);have G:C2 ((AR d).getD k []) b=true:=by
    have J:(AR d).getD k []∈Ar (AR d):=M.subset (Ax O1);unfold C2;rw[AT,Er (hf.wds _ J) N,Er N (hf.wds _ J),Hu d H];refine⟨λi hi=>?_,λi hi=>?_⟩
    .obtain⟨Z,aa⟩:=(B0 (d:=d) o _ i).1.1 hi;exact(A4V h b f).2 k i P Z (Um aa)
    have A:=B i hi;obtain⟨Y,I,hu⟩:=QA h E (v i A hi) (F _ (v i A hi));have:Y=(AN d).getD k ByteArray.empty:=by
     obtain⟨a,ha⟩:=AAF.1 h1;rw[ha]at g I;rw[oF.1 I,oF.1 g]
    rw[this]at hu;exact(B0 (d:=d) o _ i).1.2 ⟨A,Un (Jm (Ax H)) hu⟩
   rw[O k (Do _) O1]at G;cases G
  grind [qA,A0,Fh,iO]
theorem W9 (s:ByteArray):∀(l:List AP) (k:Nat),0<=JV s k l->∃j,j<l.length/\JV s k l=((k+j:Nat):Int)/\AL (l.getD j c0).1 s=true
 | [],k,h=>by simp only[JV]at h;omega
 | x :: l,k,h=>by
  simp only[JV]at h ⊢;split
  .grind
  rename_i e;rw[As e]at h;obtain⟨j,c,a,b⟩:=W9 s l (k+1) h;exact⟨j+1,by simp only[NO];omega,by rw[a];congr 1;omega,by simpa using b⟩
theorem yI (a:A3 d=0) (hf:Hv (Ar (AR d))) (hs:s∈AN d):((AK d).getD (BE (AK d) s).toNat c0).2=D9 d (AN d) s:=by
 have h0:0<=BE (AK d) s:=F9 a (E0 hs);grind [W9,AK,BE,qB,Ax]
theorem XA {s:ByteArray} (hn:CV d=0):∀ {r:List AH} {o:List ByteArray} {x:AH},(∀y∈r,y∈d)->x∈d->((∃z∈o,AL z x.1=true)\/(x∈r/\(Cu x s).2=true))->∃z∈r.foldl (GT s) o,AL z x.1=true
 | [],o,x,_,_,h=>h.resolve_right λg=>by cases g.1
 | y :: r,o,x,f,i,h=>by
  rw[OR];refine XA hn (λz c=>f z (by simp[c])) i ?_;rcases h with ⟨z,c,e⟩|⟨a,b⟩
  .grind [GT,Ik]
  rcases BY.1 a with rfl|a
  .left;unfold GT;rw[At b];exact VK.1 (K5 (l:=o) (s:=x.1))
  exact .inr ⟨a,b⟩
theorem XB (f:Int):∀(a b:List (Int×Int)),Ei f (a++b)=if (Ei f a).2=true then Ei f a else Ei f b
 | [],_=>rfl
 | x :: a,b=>by
  have h1:Ei f (x :: a++b)=if x.1=f then (x.2,true) else Ei f (a++b):=rfl
  have c:Ei f (x :: a)=if x.1=f then (x.2,true) else Ei f a:=rfl
  rw[h1,c];split
  .rfl
  exact XB f a b
theorem l8 (l:List AP) (fs:List ByteArray) (t:Nat) (f:Int):∀n,Ei f (RR d l fs t n)=if 0<=f/\f<(n:Int)/\(Eq d l (t:Int) (fs.getD f.toNat ByteArray.empty)).2=true then (GM l (Eq d l (t:Int) (fs.getD f.toNat ByteArray.empty)).1,true) else (0,false)
 | 0=>by
  rw[As O1];rfl
 | n+1=>by
  rw[WZ,XB,l8 l fs t f n];grind [Eq,Ei]
theorem Uo (c:Ah d=0) {t f:Int} (e:0<=t) (g:t<((AK d).length:Int)) (a:0<=f) (b:f<((BC d).length:Int)):Cc (Be d) t f=if (Eq d (AK d) t ((BC d).getD f.toNat ByteArray.empty)).2=true then (GM (AK d) (Eq d (AK d) t ((BC d).getD f.toNat ByteArray.empty)).1,true) else (0,false):=by
 unfold Cc;grind [yA,l8,Eq,AK,BC]
theorem A1X (c:Ah d=0) {f:Int} (a:0<=f) (b:f<((BC d).length:Int)):J3 (Be d) f=BE (AK d) (DC d ((BC d).getD f.toNat ByteArray.empty)).1:=by grind [J3,LO,BC,K7]
theorem A6I (b:Ah d=0):HAp (Be d):=by
 obtain⟨j,-,T,F,-⟩:=Ui b;obtain⟨u,-,-⟩:=B5 b;obtain⟨-,U,-⟩:=BU u;have al:=UA j U;obtain⟨ao,ak,-,hn,am⟩:=Av j;obtain⟨hk,an⟩:=A3f b;have I:=OX j T;have n:=Uh d;have hF:(Be d).2.length=(BC d).length:=by rw[LO b,dB]
 have E:∀s∈AN d,BV (Be d) (BE (AK d) s)=D9 d (AN d) s:=λs hs=>by grind [L3,F9,E0,HL,yI]
 refine⟨λt f g l k c=>?_,λt w f g l A ai k c X q=>?_⟩
 .rw[n]at l;rw[hF]at c;have hs:=Ax (d:=ByteArray.empty) (show f.toNat<(BC d).length by omega);rw[Uo b g l k c,A1X b k c];generalize (BC d).getD f.toNat ByteArray.empty=s at *;obtain⟨v,-⟩:=O3 b g l hs;obtain⟨aj,aa,S,Y⟩:=Uk (F s hs);have hi:(if (Eq d (AK d) t s).2=true then (GM (AK d) (Eq d (AK d) t s).1,true) else ((0:Int),false)).2=true↔(Eq d (AK d) t s).2=true:=by
   split<;>simp[*]
  rw[hi,v];constructor
  .rintro⟨x,a,Z,W⟩;have hint:=F s hs;unfold DC at hint ⊢;split at hint
   .rename_i h1;rw[At h1];obtain⟨ap,V⟩:=AAF.1 h1;obtain⟨z,u,C⟩:=XA (d:=d) (s:=s) hn (r:=d) (o:=[]) (λy ad=>ad) a (.inr ⟨a,Z⟩);have ae:0<=Aj d z:=by rw[Hs d C];exact C9 a
    obtain⟨m,p,hu⟩:=QA j (p9 hn s) u ae;have hu:=Ul hu C;have e:(A0 d (Ep d s)).getD 0 ByteArray.empty=m:=by
     rw[V]at p ⊢;rw[oF.1 p];rfl
    rw[show ((A0 d (Ep d s)).getD 0 ByteArray.empty,true).1=m from e];obtain⟨ar,K,B,-⟩:=(P7 (Gg p)).resolve_left sc;have H:m∈AN d:=by rw[<-B];exact O8 K hn
    have ab:=O8 a hn;obtain⟨n0,n1⟩:=SD I a;have L:0<=BE (AK d) m:=F9 j (E0 H);have aq:=HL (AK d) m;refine Gh hk L O1 n0 O1 g O1 ((Bq hk L O1 n0 O1).2 λi hi=>?_) W;unfold wS at hi ⊢;rw[E x.1 ab]at hi;rw[E m H];exact A1T j (by rw[<-B];exact C9 K) hu hi
   cases hint
  intro h;rw[<-S]at h;exact⟨aj,aa,Y,h⟩
 have M:t<((AK d).length:Int):=by omega
 have N:w<((AK d).length:Int):=by omega
 rw[hF]at c;have hs:=Ax (d:=ByteArray.empty) (show f.toNat<(BC d).length by omega);rw[Uo b g M k c]at q ⊢;rw[Uo b A N k c];generalize (BC d).getD f.toNat ByteArray.empty=s at *;obtain⟨v,af⟩:=O3 b g M hs;obtain⟨ag,ah⟩:=O3 b A N hs;have hi:(Eq d (AK d) t s).2=true:=by
  split at q
  .assumption
  cases q
 have J:∀x∈d,UsD d t s x->UsD d w s x:=λx a hu=>by
  obtain⟨n0,n1⟩:=SD I a;exact⟨hu.1,Gh hk n0 O1 g l A ai hu.2 X⟩
 have G:(Eq d (AK d) w s).2=true:=by
  obtain⟨x,a,hu⟩:=v.1 hi;exact ag.2 ⟨x,a,J x a hu⟩
 rw[At hi,At G];obtain⟨⟨O,P⟩,Q⟩:=af hi;obtain⟨⟨R,b1⟩,b2⟩:=ah G;refine(Bq hk O (by rw[n];exact P) R (by rw[n];exact b1)).2 λi D=>?_;unfold wS at D ⊢;exact(Q i).2 λx a hu=>(b2 i).1 D x a (J x a hu)
theorem iP (d:List AH):HAp (AW d).1:=by
 by_cases a:Ah d=0
 .rw[Jl a];exact A6I a
 have:(AW d).1=([],[]):=by
  unfold AW A1;rw[At a,At a]
 rw[this];exact⟨λt f c b=>by simp at b;omega,λt e f c b=>by simp at b;omega⟩
end
theorem LP (d:List AH):(AW d).1.1.length<=256/\(AW d).1.2.length<=64:=by
 unfold AW;split
 .exact⟨by simp,by simp⟩
 rename_i a;have a:(A1 d).2=0:=DO a;have b:Ah d=0:=by
  unfold A1 at a;split at a
  .rename_i h;exact absurd a h
  rename_i h;exact DO h
 obtain⟨f,c,-⟩:=B5 b;obtain⟨-,e,-⟩:=BU f;refine⟨?_,?_⟩
 .show (Dx _ _ _).length<=256;rw[Io,HK];exact e
 show (Cy d).1.length<=64;unfold Cy;rw[As (by rw[b];simp)];show ((BC d).map (K7 d)).length<=64;rw[dB];exact c
structure H14 (h:AE):Prop where
 ok:GC h
 inj:IH h
 ft:dF h
 nrm:A4O h
 ap:HAp h
 b1:h.1.length<=256
 b2:h.2.length<=64
theorem Uq (d:List AH):H14 (AW d).1:=⟨GD d,Qw d,iK d,λt a=>(Ug d).nrm _ (IF.2 ⟨t,a,rfl⟩),iP d,(LP d).1,(LP d).2⟩
theorem h14 (d:List AH):H14 (Lx d):=by
 unfold Lx;split
 .exact Uq d
 exact Uq Bi
theorem QB {ty:List Int} {x:AD} (b:x∈ET f ty):∃i,i<f.length/\x=(ty.getD i 0,(f.getD i (0,[])).2):=by
 obtain⟨i,hi,rfl⟩:=List.getElem_of_mem b;have a:i<f.length:=by rw[DQ]at hi;exact hi
 refine⟨i,a,?_⟩;rw[<-Gv f ty a,AS,An hi];rfl
theorem Iu {α:Type} {f:List α} {i:Nat} (h:i<f.length) (d:α):f.getD i d∈f:=by
 rw[AS,An h];exact AAo _
def Ur (p:List Int) (n:Nat):List AD:=(List.range n).map λ(i:Nat)=>((0:Int),[(p.getD i 0,(i:Int)+1)])
def B2 (p:List Int) (g:List AD):List AD:=Ur p p.length++g.map λx=>(x.1,De p.length x.2)
theorem NP (p:List Int) (n:Nat):(Ur p n).length=n:=by simp[Ur]
def FtP (h:AE) (p:List Int):Prop:=∀e∈p,0<=e/\e<(h.2.length:Int)
theorem VF.srt (hu:HU h) (a:VF h f):gR f:=λx b=>by
 have:=xZ (a.str x b) (a.ft64 hu x b);exact⟨(bN _).2 (a.str x b),by omega⟩
theorem Yi (a b:List AD):(∃c,iE h a b c/\Jk h a b=(c,true))\/(Jk h a b=([],false)/\∀c,¬iE h a b c):=by
 unfold Jk;by_cases H:∃c,iE h a b c
 .left;rw[dif_pos H];exact⟨_,H.choose_spec,rfl⟩
 right;rw[dif_neg H];exact⟨rfl,λc d=>H ⟨c,d⟩⟩
theorem HT (f:List AD) (ty:List Int) (n:Nat):((ET f ty).getD n (0,[])).2=(f.getD n (0,[])).2:=by
 by_cases h:n<f.length
 .rw[Gv f ty h]
 rw[AS,oS (by rw[DQ];omega),AS,oS O1]
theorem cA {f g:List AD} (h:∀n:Nat,(f.getD n (0,[])).2=(g.getD n (0,[])).2):∀(k:Nat) (o:List Int) (n:Int),EH f k o n=EH g k o n
 | 0,_,_=>rfl
 | k+1,o,n=>by
  have e:A2 f k=A2 g k:=by
   funext o a;unfold A2;rw[cA h k o a.2]
  rw[CS,CS,h,e]
theorem iQ (hf:Aa f) (h0:0<f.length) (a:AQ f 0=f):bX f:=by
 have:=(Ya hf (r:=0) O1 O1).2
 rwa [a]at this
theorem yJ (b:VF h f) {ty:List Int} (l:SE h f.length ty):VF h (ET f ty):=by
 have c:=DQ f ty;have g:Aa (ET f ty):=by
  refine⟨by rw[c];exact b.good.1,λx a=>?_⟩;obtain⟨i,hi,rfl⟩:=QB a;rw[c];exact b.good.2 (f.getD i (0,[])) (Iu hi (0,[]))
 have k:∀x∈ET f ty,∃y∈f,x.2=y.2:=λx a=>by
  obtain⟨i,hi,rfl⟩:=QB a;exact⟨_,Iu hi (0,[]),rfl⟩
 refine⟨g,by rw[c];exact b.pos,λx a=>?_,λx a=>?_,λx a=>?_,Ua g ?_,λi m n=>?_⟩
 .obtain⟨i,hi,rfl⟩:=QB a;exact l.get hi
 .obtain⟨y,d,e⟩:=k x a;rw[e];exact b.str y d
 .obtain⟨y,d,e⟩:=k x a;rw[e];exact b.ft y d
 .have:=iQ b.good b.pos b.can;unfold bX at this ⊢;rw[c,cA (HT f ty)];exact this
 obtain⟨j,o,p,x,a,e⟩:=b.ro i m (by rw[<-c];exact n);exact⟨j,o,p,x,by show x∈((ET f ty).getD j.toNat (0,[])).2;rw[HT];exact a,e⟩
theorem Df (f:List AD) (i:Nat):(Ba f).getD i 0=(f.getD i (0,[])).1:=by
 unfold Ba;rw[AS,AAt,AS];cases f[i]?<;>rfl
theorem iR {ty:List Int} (a:ty.length=f.length):Ba (ET f ty)=ty:=by
 refine AAl (by simp[Ba,DQ,a]) λi b c=>?_;have:=Df (ET f ty) i;rw[Gv f ty O1]at this;simpa[AS,b,c] using this
theorem Q4 {h:AE} {f:List AD} {t:Int}:∀ {l:List (Int×Int)},Pz h f t l=0↔∀a∈l,(Cc h t a.1).2=true/\Ad h (Cc h t a.1).1 (f.getD a.2.toNat (0,[])).1=true
 | []=>⟨λ_ a ha=>(by cases ha),λ_=>rfl⟩
 | a :: l=>by
  unfold Pz;rw[List.forall_mem_cons,<-Q4 (l:=l)];cases h1:(Cc h t a.1).2
  .simp
  cases b:Ad h (Cc h t a.1).1 (f.getD a.2.toNat (0,[])).1<;>simp
theorem MX {h:AE} {f:List AD}:∀ {l:List AD},LI h f l=0↔∀x∈l,∀a∈x.2,(Cc h x.1 a.1).2=true/\Ad h (Cc h x.1 a.1).1 (f.getD a.2.toNat (0,[])).1=true
 | []=>⟨λ_ a ha=>(by cases ha),λ_=>rfl⟩
 | x :: l=>by
  unfold LI;rw[List.forall_mem_cons,<-MX (l:=l),<-Q4];by_cases h1:Pz h f x.1 x.2=0
  .simp[h1]
  simp[h1]
theorem A1Z:LI h f f=0↔WTy h f (Ba f):=by
 rw[MX];constructor
 .intro h1 i hi a ha;have:=h1 _ (Iu hi (0,[])) a ha
  rwa [Df,Df,iS]
 intro h1 x b a ha;obtain⟨i,hi,rfl⟩:=B7 (0,[]) b;have:=h1 i hi a ha
 rwa [Df,Df,iS]at this
theorem cB {n:Int}:∀ {l seen:List (Int×Int)},(∀a∈l,0<=a.1/\0<=a.2/\a.2<n)->(l.map (·.1)).Nodup->(∀y∈seen,∀x∈l,y.1≠x.1)->GU n seen l=0
 | [],_,_,_,_=>rfl
 | x :: l,seen,h,c,hs=>by
  rw[AA2,AAi]at c;have h1:=h x sc;have f:(seen.any λy=>y.1==x.1)=false:=by
   rw[ACn];intro y b;have:=hs y b x sc;simpa using this
  unfold GU;rw[As O1,As (by rw[f];simp)];refine cB (λa ha=>h a (by simp[ha])) c.2 λy b z d=>?_;rcases IS.1 b with b|b
  .exact hs y b z (by simp[d])
  rw[oF.1 b];exact λe=>c.1 (IF.2 ⟨z,d,e.symm⟩)
theorem yK {m:Int} (hs:(l.map (·.1)).Nodup) (h:∀a∈l,0<=a.1/\0<=a.2/\a.2<m):Oj l m=0:=cB h hs λy b=>by cases b
theorem cC {m:Int}:∀ {l:List AD},(∀x∈l,0<=x.1/\Oj x.2 m=0)->J2 m l=0
 | [],_=>rfl
 | x :: l,h=>by
  have:=h x sc;unfold J2;rw[As O1,As (by rw[this.2];simp)];exact cC λy a=>h y (by simp[a])
section
variable {h:AE} (hh:H14 h)
include hh
theorem H14.hu:HU h:=⟨hh.ok,hh.inj,hh.b2⟩
omit hh in
theorem Yj {f:List AD} (b:VF h f):NI h f:=λx c a ha=>⟨b.ft x c a ha,(b.good.2 x c).2 a ha⟩
theorem cE (a:VF h f) {ty:List Int} (e:HR h f=some ty):VF h (ET f ty)/\WTy h f ty/\SE h f.length ty/\RW h f (ET f ty) id:=by
 obtain⟨h1,g,d⟩:=iM hh.ok hh.inj hh.ft hh.ap (Yj a) a.ty e;refine⟨yJ a d,h1,d,rfl,λi b c=>⟨b,by rw[DQ];exact c⟩,λi b c=>?_,λi b c x j=>?_⟩
 .have:=g i.toNat O1;rw[Df]at this;show Ad h _ ((ET f ty).getD i.toNat (0,[])).1=true
  rwa [Gv f ty O1]
 show Br ((ET f ty).getD i.toNat (0,[])).2 x.1=x.2;rw[HT];exact A4I (a.srt hh.hu) j
theorem l9 (n:VF h f) (p:VF h g) (E:WTy h g (Ba g)) {m:Int->Int} (c:RW h f g m):∃ty,HR h f=some ty/\RW h (ET f ty) g m:=by
 have H:=p.pos
 let u:List Int:=(List.range f.length).map λi:Nat=>(g.getD (m (i:Int)).toNat (0,[])).1
 have k:∀i:Nat,i<f.length->u.getD i 0=(g.getD (m (i:Int)).toNat (0,[])).1:=λi hi=>by
  simp[u,AS,hi]
 have q:∀i:Nat,i<f.length->(m (i:Int)).toNat<g.length/\0<=m (i:Int):=λi hi=>by
  have:=c.rng (i:Int) O1 O1;omega
 have D:SE h f.length u:=⟨by simp[u],λt C=>by
  obtain⟨i,hi,rfl⟩:=IF.1 C;exact p.ty _ (Iu (q i (oN.1 hi)).1 (0,[]))⟩
 have F:WTy h f u:=λi hi a ha=>by
  have z:a∈Ak f (i:Int):=by show a∈(f.getD (i:Int).toNat (0,[])).2;rwa [iS]
  have h1:=c.arc (i:Int) O1 O1 a z;obtain⟨s,G⟩:=(n.good.2 _ (Iu hi (0,[]))).2 a ha;have y:=c.rng a.2 s G;obtain⟨b,A,v,w⟩:=bT (l:=Ak g (m (i:Int))) (e:=a.1) (by rw[h1];exact y.1);have o:=E _ (q i hi).1 b (by exact A);rw[Df,Df,v,w,h1,iS]at o;rw[iS,k i hi,k a.2.toNat O1,AAX s];exact o
 obtain⟨ty,e,B⟩:=b9 hh.ok hh.inj hh.ft hh.ap (Yj n) n.ty D F λi hi=>by
  rw[Df,k i hi];have:=c.ty (i:Int) O1 O1
  rwa [iS]at this
 refine⟨ty,e,c.zero,λi j d=>c.rng i j (by rw[DQ]at d;exact d),λi j d=>?_,λi j d x r=>?_⟩
 .rw[DQ]at d;have:=B i.toNat O1;rw[k _ O1,AAX j]at this
  rwa [Gv f ty O1]
 rw[DQ]at d;exact c.arc i j d x (by rw[Ak,HT]at r;exact r)
omit hh in
theorem qC {f:List AD} (e:YV h f=0):WTy h f (Ba f):=by
 unfold YV at e
 split at e
 .exact A1Z.1 e
 rename_i hn;exact absurd e hn
end
theorem Q5 {ty:List Int} (e:HR h f=some ty):Dt h f=(ET f ty,true):=by unfold Dt;rw[e]
theorem Q6 (e:HR h f=none):Dt h f=([],false):=by unfold Dt;rw[e]
theorem SE.set {u:List Int} (hu:SE h m u) {t:Int} (b:0<=t) (c:t<(h.1.length:Int)) (i:Nat):SE h m (u.set i t):=⟨by rw[AAc];exact hu.1,λx a=>by
 rcases AAN a with a|rfl
 .exact hu.2 x a
 exact⟨b,c⟩⟩
theorem PG.set (hk:GC h) {u:List Int} (hu:SE h m u) {t:Int} (hi:i<m) (hs:Ad h (u.getD i 0) t=true):PG h m u (u.set i t):=λk a=>by
 rw[Lz _ _ _ (by rw[hu.1];exact hi) k];split
 .rename_i e;rw[e];exact hs
 exact R6 hk (hu.get a).1 (hu.get a).2
section
variable {h:AE} (hk:GC h) (hn:A4O h) (hi:IH h) (hf:dF h) (hap:HAp h) {m:Nat}
include hk hn hi hf hap
end
section
variable {h:AE} (hk:GC h) (hn:A4O h) (hi:IH h) (hf:dF h) (hap:HAp h) {f:List AD} (ha:NI h f)
include hk hn hi hf hap ha
end
section
attribute [local go_sem] UV
theorem A4W (hh:H14 h) (a:VF h f):xL h f:=⟨hh.ok,hh.inj,hh.ft,gO hh.b2 dg,a.good,Yj a,a.ty⟩
noncomputable def Yk (h:AE) (a b:List AD):List AD×Bool:=if (Jk h a b).2=true then Dt h (Jk h a b).1 else ([],false)
end
theorem yL (hk:GC h) {N:List AD} {P:List (Int×Int)}:∀(k:Nat) (p ty:List Int) (ar:List (List (Int×Int))) (W:List (Int×Int)),JI h N P p ty ar W->nR p*((Ji N).length+1)+W.length<=k ->
  (∃E G o,JI h N P E G o [])\/(∀X v,DP h X->¬pV h N P X v):=by
 intro k;induction k with
 | zero =>
  intro p ty ar W c g;have:W=[]:=AA0 O1;subst this;exact .inl ⟨p,ty,ar,c⟩
 | succ k l =>
  intro p ty ar W c g;cases j:W.getLast? with
  | none =>
   have:W=[]:=List.getLast?_eq_none_iff.1 j;subst this;exact .inl ⟨p,ty,ar,c⟩
  | some w =>
   have r:W=W.dropLast++[w]:=by
    obtain⟨K,e⟩:=List.getLast?_eq_some_iff.1 j;rw[e];simp
   obtain⟨s,t⟩:=w;rw[r]at c g;rw[If,nO]at g;generalize W.dropLast=V at *;obtain⟨⟨m,s1⟩,n,F⟩:=c.wr (s,t) sc;simp only at m s1 n F;obtain⟨M,fo⟩:=c.fo;have lp:=c.lp;obtain⟨a,ha,H,I⟩:=fo.root m O1;obtain⟨b,d,q,b1⟩:=fo.root n O1;by_cases f:a=b
   .subst f;exact l p ty ar V (A1J c ha d) O1
   cases i:(Cb h (ty.getD a.toNat 0) (ty.getD b.toNat 0)).2 with
   | false =>
    right;intro X v u C;have:=(lP hk c ha d u C).2.1;rw[i]at this;cases this
   | true =>
    have z:=xR hk c ha d f i;refine l _ _ _ _ z ?_;have B:=A1K (a:=a) q b1 d.root f;have A:=lQ (c.srt a.toNat) (λx D=>(c.arr a.toNat x D).2);have L:=gO (R8 (x:=ar.getD a.toNat []) (y:=ar.getD b.toNat [])) A;have J:nR p*((Ji N).length+1)=nR (p.set b.toNat a)*((Ji N).length+1)+((Ji N).length+1):=by rw[<-B,ABR,Nat.one_mul]
    rw[If];omega
theorem XC {h:AE} (hk:GC h) {N:List AD}:∀(R P:List (Int×Int)) (p ty:List Int) (ar:List (List (Int×Int))),(∀q∈R,(0<=q.1/\q.1<(N.length:Int))/\(0<=q.2/\q.2<(N.length:Int)))->JI h N P p ty ar [] ->
  (∃l r g,JI h N (P++R) l r g [])\/(∀X v,DP h X->¬pV h N (P++R) X v)
 | [],P,p,ty,ar,f,e=>.inl ⟨p,ty,ar,by rw[AAk];exact e⟩
 | q :: R,P,p,ty,ar,f,e=>by
  obtain⟨a,b⟩:=q;have c:=f (a,b) sc;have i:P++(a,b) :: R=P++[(a,b)]++R:=by simp
  rw[i];rcases yL hk _ _ _ _ _ (xS e c.1 c.2) (OS _) with ⟨m,o,n,h1⟩|k
  .exact XC hk R (P++[(a,b)]) m o n (λq c=>f q (by simp[c])) h1
  exact .inr λX v j d=>k X v j ⟨d.rng,d.ty,d.arc,λq c=>d.eq q (tO _ c)⟩
theorem A20 (hu:HU h) {a b X:List AD} (va:VF h a) (c:VF h b) (l:a.length+b.length<=100000) (j:DP h X) {n o:Int->Int} (h1:RW h a X n) (f:RW h b X o):∃i,iE h a b i:=by
 have r:=Gw a b;have hap:=va.pos;have s:=c.pos;have k:=iG va.good c.good l;rcases XC hu.ok (N:=EU a b) [(0,(a.length:Int))] [] _ _ _ (λq d=>by
  have e:q=(0,(a.length:Int)):=by simpa using d
  subst e;simp only;omega) (A1M k (xX va.ty c.ty) (pZ va.str c.str)) with ⟨p,ty,ar,g⟩|m
 .exact⟨_,A1L va c g (x4 g O1 (xY (va.ft64 hu) (c.ft64 hu)))⟩
 exfalso;refine m X _ j (xU (bW va.good c.good (SB h1) (SB f)) λq d=>?_);have e:q=(0,(a.length:Int)):=by simpa using d
 subst e;try simp only
 rw[At O1,As O1,Int.sub_self,h1.zero,f.zero]
abbrev Wt (h:AE) (f:List AD):Prop:=VF h f/\WTy h f (Ba f)
def mA (h:AE) (l:List (List AD)) (X:List AD):Prop:=∀x∈l,∃m,RW h x X m
structure TU (h:AE) (l:List (List AD)) (U:List AD):Prop where
 wt:Wt h U
 hom:mA h l U
 least:∀X,Wt h X->mA h l X->∃m,RW h U X m
def LQ (h:AE) (l:List (List AD)) (r:List AD×Bool):Prop:=(r.2=true/\TU h l r.1)\/(r=([],false)/\∀X,Wt h X->¬mA h l X)
theorem LQ.congr {l l':List (List AD)} {r:List AD×Bool} (H:LQ h l r) (d:∀X,Wt h X->(mA h l X↔mA h l' X)):LQ h l' r:=by
 rcases H with ⟨h1,a⟩|⟨h1,a⟩
 .exact .inl ⟨h1,a.wt,(d _ a.wt).1 a.hom,λX b c=>a.least X b ((d X b).2 c)⟩
 exact .inr ⟨h1,λX b c=>a X b ((d X b).2 c)⟩
theorem yM (hk:GC h) {l:List (List AD)} (c:∀x∈l,VF h x) {a X:List AD} (d:VF h a) (e:VF h X) (f:mA h l a) {m:Int->Int} (g:RW h a X m):mA h l X:=λx b=>by
 obtain⟨k,q⟩:=f x b;exact⟨_,Ub hk (c x b).good (c x b).ty d.ty e.ty q g⟩
theorem Gj {x X:List AD}:mA h [x] X↔∃m,RW h x X m:=by simp[mA]
theorem Us {x X:List AD} {l:List (List AD)}:mA h (x :: l) X↔(∃m,RW h x X m)/\mA h l X:=by simp[mA]
section
variable {h:AE} (hh:H14 h)
include hh
theorem A4X (c:VF h f) {ty:List Int} (e:HR h f=some ty):Wt h (ET f ty):=by
 obtain⟨h1,a,b,-⟩:=cE hh c e;refine⟨h1,?_⟩;rw[iR b.1];intro i hi;rw[HT];exact a i (by rw[<-DQ f ty];exact hi)
theorem A21 (c:VF h f):LQ h [f] (Dt h f):=by
 cases e:HR h f with
 | some ty =>
  rw[Q5 e];refine .inl ⟨rfl,A4X hh c e,Gj.2 ⟨_,(cE hh c e).2.2.2⟩,λX b d=>?_⟩;obtain⟨m,g⟩:=Gj.1 d;obtain⟨i,a,q⟩:=l9 hh c b.1 b.2 g;rw[e]at a;cases a;exact⟨m,q⟩
 | none =>
  rw[Q6 e];refine .inr ⟨rfl,λX b d=>?_⟩;obtain⟨m,g⟩:=Gj.1 d;obtain⟨i,a,q⟩:=l9 hh c b.1 b.2 g;rw[e]at a;cases a
theorem A22 {a b:List AD} (va:VF h a) (k:VF h b) (q:a.length+b.length<=10000):LQ h [a,b] (Yk h a b):=by
 unfold Yk;rcases Yi (h:=h) a b with ⟨l,c,e⟩|⟨e,p⟩
 .rw[e,At rfl];refine(A21 hh c.vf).congr λX g=>?_;rw[Gj,Us,Gj];constructor
  .rintro⟨m,o⟩;obtain⟨i,d⟩:=c.left;obtain⟨j,f⟩:=c.right;exact⟨⟨_,Ub hh.ok va.good va.ty c.vf.ty g.1.ty d o⟩,_,Ub hh.ok k.good k.ty c.vf.ty g.1.ty f o⟩
  rintro⟨⟨i,d⟩,j,f⟩;exact c.least X g.1.ty i d j f
 rw[e,As Bool.false_ne_true];refine .inr ⟨rfl,λX g n=>?_⟩;rw[Us,Gj]at n;obtain⟨⟨i,d⟩,j,f⟩:=n;obtain⟨l,c⟩:=A20 hh.hu va k O1 g.1.ty d f;exact p l c
omit hh in
theorem yN {l l':List (List AD)} (c:∀x,x∈l↔x∈l') (X:List AD):mA h l X↔mA h l' X:=⟨λa x b=>a x ((c x).2 b),λa x b=>a x ((c x).1 b)⟩
omit hh in
theorem LQ.perm {l l':List (List AD)} {r:List AD×Bool} (H:LQ h l r) (a:∀x,x∈l↔x∈l'):LQ h l' r:=H.congr λX _=>yN a X
omit hh in
theorem mB {a b:List AD}:(Yk h a b).1.length<=a.length+b.length:=by
 unfold Yk
 split
 .rename_i e
  have:=(b3 e).len
  cases c:HR h (Jk h a b).1 with
  | none=>rw[Q6 c];simp
  | some ty=>rw[Q5 c,DQ];exact this
 simp
omit hh in
theorem LQ.vf {l:List (List AD)} {r:List AD×Bool} (H:LQ h l r) (e:r.2=true):TU h l r.1:=by
 rcases H with ⟨-,b⟩|⟨a,-⟩
 .exact b
 rw[a]at e;cases e
end
theorem Jn (p:List Int) (g:List AD):(B2 p g).length=p.length+g.length:=by simp[B2,Ur]
theorem Q7 {g:List AD} {i:Int} (a:0<=i) (b:i<(p.length:Int)):(B2 p g).getD i.toNat (0,[])=(0,[(p.getD i.toNat 0,i+1)]):=by grind [B2,NP,Ur]
theorem O9 {g:List AD} {y:Int} (a:0<=y) (b:y<(g.length:Int)):(B2 p g).getD ((p.length:Int)+y).toNat (0,[])=((g.getD y.toNat (0,[])).1,De p.length (g.getD y.toNat (0,[])).2):=by
 unfold B2;have e:((p.length:Int)+y).toNat=p.length+y.toNat:=by omega
 rw[e,AS,AA4 (by rw[NP];omega),NP,ABI];rw[<-AS];exact Ww (λx:AD=>(x.1,De p.length x.2)) (0,[]) (0,[]) O1
theorem Jo {g:List AD} {x:AD} (a:x∈B2 p g):(∃i,i<p.length/\x=(0,[(p.getD i 0,(i:Int)+1)]))\/∃y∈g,x=(y.1,De p.length y.2):=by
 rcases IS.1 a with h|h
 .obtain⟨i,hi,rfl⟩:=IF.1 h;exact .inl ⟨i,by simpa using hi,rfl⟩
 obtain⟨y,b,rfl⟩:=IF.1 h;exact .inr ⟨y,b,rfl⟩
theorem iT {b:Nat} (h:VM l):VM (De b l):=by
 unfold De VM;rw[AAy];exact h
theorem Q8 {g:List AD} (l:p.length<=1000) (c:Aa g) (j:0<g.length) (k:g.length<=10000):Aa (B2 p g):=by
 have d:=Jn p g;refine⟨by omega,λx h=>?_⟩;rcases Jo h with ⟨i,hi,rfl⟩|⟨y,e,rfl⟩
 .refine⟨by simp,λa ha=>?_⟩;have:a=(p.getD i 0,(i:Int)+1):=by simpa using ha
  subst this;rw[d];simp only;omega
 refine⟨by unfold De;rw[dB];exact(c.2 y e).1,λa ha=>?_⟩;obtain⟨b,f,rfl⟩:=IF.1 ha;have:=(c.2 y e).2 b f;rw[d];simp only;omega
theorem qD (vf:VF h f):EH f f.length [] 0=(List.range f.length).map λ(i:Nat)=>(i:Int):=by
 have q:=vf.pos;have d:=Jj vf.good (r:=0) O1 O1;have l:=LL f 0;have c:=λi=>LK (f:=f) (r:=0) (i:=i);rw[vf.can]at l;simp only[vf.can]at c;generalize p:EH f f.length [] 0=o at *;have m:RW h f f (λi=>o.getD i.toNat 0):=by
  refine⟨d.zero.1,λi g j=>d.ok.rng _ (AG o 0 O1),λi g j=>?_,λi g j a ha=>?_⟩
  .rw[c i.toNat O1];exact P0 h _
  rw[Ak,c i.toNat O1]at ha;obtain⟨b,e,rfl⟩:=IF.1 ha;have k:=d.cl _ (AG o 0 O1) b e;show Br (Ak f (o.getD i.toNat 0)) b.1=o.getD (Es o b.2).toNat 0;rw[(FJ k).2.2];exact Ow (Yb vf.str _) e
 have hu:=xV vf.ro m (xW vf.str);apply AAl
 .rw[dB,ABS];omega
 intro i h1 n;rw[ABC,ABJ];have:=hu i (i:Int) O1 O1 O1;simp only[iS,id]at this;rw[<-this,AS,An h1];rfl
theorem qE (hf:Aa f) (h:EH f f.length [] 0=(List.range f.length).map λ(i:Nat)=>(i:Int)):AQ f 0=f:=by
 unfold AQ;generalize q:EH f f.length [] 0=l at *;have r:l.length=f.length:=by rw[h];simp
 have b:∀k,(hk:k<l.length)->l[k]=(k:Int):=λk hk=>by subst h;simp
 clear h;have o:l.Nodup:=by
  unfold List.Nodup;rw[mX];intro i j hi n p e;rw[b i hi,b j n]at e;omega
 have m:∀x,0<=x->x<(l.length:Int)->Es l x=x:=λx s t=>by
  have:=Ir o (i:=x.toNat) O1;have e:l.getD x.toNat 0=x:=by
   rw[AS,An O1];show l[x.toNat]=x;rw[b _ O1];omega
  rw[e]at this;rw[this];omega
 apply AAl
 .rw[dB];omega
 intro i h1 c;rw[ABC,b i (by simpa using h1)];have d:f.getD (i:Int).toNat (0,[])=f[i]:=by simp[AS,c]
 unfold Ip;rw[d];have:∀a∈f[i].2,L8 l a=a:=λa ha=>by
  have g:=(hf.2 _ (AAo c)).2 a ha;unfold L8;rw[m a.2 g.1 O1]
 rw[AAb this,List.map_id']
theorem mC {Q R:List AD} {c:Int->Int} {d:Int->Prop} (h:Iso Q R c d) {pre:List Int} (n:∀i,d i->c i∉pre):∀(k:Nat) (t:List Int) (i:Int),(∀x∈t,d x)->d i->EH R k (pre++t.map c) (c i)=pre++(EH Q k t i).map c/\∀x∈EH Q k t i,d x
 | 0,t,i,f,hi=>⟨rfl,f⟩
 | k+1,t,i,f,hi=>by
  have key:∀(l:List (Int×Int)) (t:List Int),(∀a∈l,d a.2)->(∀x∈t,d x) ->
    (l.map λa=>(a.1,c a.2)).foldl (A2 R k) (pre++t.map c)=pre++(l.foldl (A2 Q k) t).map c/\∀x∈l.foldl (A2 Q k) t,d x:=by
   intro l;induction l with
   | nil=>intro t _ f;exact⟨rfl,f⟩
   | cons a l r =>
    intro t m f;have ha:=m a sc;have hs:A2 R k (pre++t.map c) (a.1,c a.2)=pre++(A2 Q k t a).map c/\∀x∈A2 Q k t a,d x:=by
     unfold A2;by_cases j:a.2∈t
     .rw[At j,At (IS.2 (.inr (IF.2 ⟨_,j,rfl⟩)))];exact⟨rfl,f⟩
     have q:¬c a.2∈pre++t.map c:=by
      intro hh;rcases IS.1 hh with hh|hh
      .exact n _ ha hh
      obtain⟨x,g,e⟩:=IF.1 hh;exact j (h.inj x a.2 (f x g) ha e▸g)
     rw[As j];simp only[As q];exact mC h n k t a.2 f ha
    rw[AA2,OR,OR,hs.1];exact r _ (λb p=>m b (by simp[p])) hs.2
  rw[CS,CS];have e:pre++t.map c++[c i]=pre++(t++[i]).map c:=by simp
  have o:(R.getD (c i).toNat (0,[])).2=(Ak Q i).map λa=>(a.1,c a.2):=h.arc i hi;rw[o,e];refine key _ _ (h.cl i hi) λx g=>?_;rcases IS.1 g with g|g
  .exact f x g
  have:x=i:=by simpa using g
  rw[this];exact hi
abbrev Yl (n:Nat):List Int:=(List.range n).map λ(i:Nat)=>(i:Int)
theorem cF {n:Nat} {x:Int} (h:x∈Yl n):0<=x/\x<(n:Int):=by grind
theorem qF (n:Nat):Yl (n+1)=Yl n++[(n:Int)]:=by unfold Yl;rw[AAh,AAH];rfl
theorem Ut {p:List Int} {g:List AD}:∀(r j:Nat) (k:Nat),j+r=p.length->EH (B2 p g) (r+k) (Yl j) (j:Int)=EH (B2 p g) k (Yl p.length) (p.length:Int)
 | 0,j,k,h=>by rw[show j=p.length by omega,AAG]
 | r+1,j,k,h=>by
  rw[show r+1+k=(r+k)+1 by omega,CS,Q7 O1 O1,iS];show A2 (B2 p g) (r+k) (Yl j++[(j:Int)]) (p.getD j 0,(j:Int)+1)=_;rw[<-qF];unfold A2;rw[As (λa=>by have:=cF a;simp only at this;omega)];have e:((j:Int)+1)=((j+1:Nat):Int):=by omega
  simp only[e];exact Ut r (j+1) k O1
theorem qG {g:List AD} (b:VF h g) (n:p.length<=1000) (l:g.length<=10000):AQ (B2 p g) 0=B2 p g:=by
 have f:=b.pos;refine qE (Q8 n b.good f l) ?_;rw[Jn];have d:=Ut (p:=p) (g:=g) p.length 0 g.length O1;rw[show Yl 0=[] from rfl,show ((0:Nat):Int)=0 from rfl]at d;rw[d];have k:Iso g (B2 p g) (λi=>(p.length:Int)+i) (λi=>0<=i/\i<(g.length:Int)):=by
  refine⟨λi hi=>?_,λi hi a ha=>CK b.good ha,λi j hi q e=>by have e:(p.length:Int)+i=(p.length:Int)+j:=e;omega⟩;rw[Ak,O9 hi.1 hi.2];show De p.length (Ak g i)=_;unfold De;refine AAb λa _=>?_;show (a.1,a.2+(p.length:Int))=(a.1,(p.length:Int)+a.2);rw[Int.add_comm]
 have c:=(mC k (pre:=Yl p.length) (λi hi m=>by have:=cF m;omega) g.length [] 0 (λx o=>by cases o) ⟨by omega,by omega⟩).1;rw[ABG,AAk,ACi,qD b]at c;rw[c];rw[List.range_add,AAH,ABd,ABd];refine ABa _ (AAb λi _=>?_);show (p.length:Int)+(i:Int)=((p.length+i:Nat):Int);omega
theorem yO (h0:0<h.1.length) {g:List AD} (d:VF h g) (m:FtP h p) (l:p.length<=1000) (k:g.length<=10000):VF h (B2 p g):=by
 have o:=d.pos;have r:=Jn p g;refine⟨Q8 l d.good o k,by omega,λx c=>?_,λx c=>?_,λx c a ha=>?_,qG d l k,λi s t=>?_⟩
 .rcases Jo c with ⟨i,hi,rfl⟩|⟨y,f,rfl⟩
  .exact⟨by simp,by simp only;omega⟩
  exact d.ty y f
 .rcases Jo c with ⟨i,hi,rfl⟩|⟨y,f,rfl⟩
  .exact List.pairwise_singleton _ _
  exact iT (d.str y f)
 .rcases Jo c with ⟨i,hi,rfl⟩|⟨y,f,rfl⟩
  .have:a=(p.getD i 0,(i:Int)+1):=by simpa using ha
   rw[this];exact m _ (Ax hi)
  obtain⟨b,n,rfl⟩:=IF.1 ha;exact d.ft y f b n
 by_cases hi:i<=(p.length:Int)
 .refine⟨i-1,by omega,by omega,(p.getD (i-1).toNat 0,i-1+1),?_,by simp only;omega⟩;rw[Ak,Q7 O1 O1];exact oF.2 rfl
 obtain⟨j,q,u,x,c,e⟩:=d.ro (i-p.length) O1 O1;refine⟨(p.length:Int)+j,by omega,by omega,(x.1,x.2+(p.length:Int)),?_,by simp only;omega⟩;rw[Ak,O9 q O1];exact IF.2 ⟨x,c,rfl⟩
theorem qH (hf:Aa f) {r:Int} (l:0<=r) (m:r<(f.length:Int)):Aa (AQ f r)/\0<(AQ f r).length:=by
 have c:=Jj hf l m;have h:=LL f r;have g:=λi=>LK (f:=f) (r:=r) (i:=i);generalize p:EH f f.length [] r=o at *;have q:=c.ok.len;have n:=hf.1;have t:=c.zero.2;refine⟨⟨by omega,λx j=>?_⟩,by omega⟩;obtain⟨i,hi,rfl⟩:=B7 (0,[]) j;rw[g i O1];have d:o.getD i 0∈o:=AG o 0 O1;have s:=c.ok.rng _ d;refine⟨?_,λa ha=>?_⟩
 .show (List.map (L8 o) _).length<=_;rw[dB];exact(hf.2 _ (AG f (0,[]) (k:=(o.getD i 0).toNat) O1)).1
 obtain⟨b,e,rfl⟩:=IF.1 ha;have:=FJ (c.cl _ d b e);rw[h];exact⟨this.1,this.2.1⟩
theorem A23 (hf:Aa f) (b:DP h f) {r:Int} (d:0<=r) (e:r<(f.length:Int)):DP h (AQ f r):=by
 have a:=Jj hf d e;intro x c;obtain⟨n,hn,rfl⟩:=IF.1 c;have g:=a.ok.rng n hn;exact b (f.getD n.toNat (0,[])) (AG f (0,[]) (k:=n.toNat) O1)
structure PF (h:AE) (S:List AD):Prop where
 good:Aa S
 pos:0<S.length
 ty:DP h S
 str:∀x∈S,VM x.2
 ft:∀x∈S,∀a∈x.2,0<=a.1/\a.1<(h.2.length:Int)
theorem cH {S:List AD} (a:Aa S) {r:Int} (c:0<=r) (d:r<(S.length:Int)):∀x∈AQ S r,∃n∈EH S S.length [] r,(0<=n/\n<(S.length:Int))/\x=Ip S (EH S S.length [] r) n:=λx b=>by
 obtain⟨n,hn,rfl⟩:=IF.1 b;exact⟨n,hn,(Jj a c d).ok.rng n hn,rfl⟩
theorem A24 {S:List AD} (b:Aa S) {r:Int} (c:0<=r) (d:r<(S.length:Int)):RO (AQ S r):=by
 have k:=Jj b c d;have h:=UW b S.length [] r (Jh _) c d sc;have p:=LL S r;have g:=λi=>LK (f:=S) (r:=r) (i:=i);generalize AQ S r=l at *;generalize EH S S.length [] r=o at *;intro i m n;obtain⟨j,q,a,ha,e⟩:=h i.toNat (by simp only[AAd];omega) O1;refine⟨(j:Int),by omega,by omega,L8 o a,?_,?_⟩
 .rw[Ak,iS,g j O1];exact IF.2 ⟨a,ha,rfl⟩
 show Es o a.2=i;rw[e,Ir k.ok.nd O1];omega
theorem A4Y {S:List AD} (p:PF h S) {r:Int} (c:0<=r) (d:r<(S.length:Int)):VF h (AQ S r):=by
 have f:=qH p.good c d;refine⟨f.1,f.2,A23 p.good p.ty c d,λx e=>?_,λx e a ha=>?_,bZ p.good c d,A24 p.good c d⟩
 .obtain⟨n,-,hn,rfl⟩:=cH p.good c d x e;show List.Pairwise _ (List.map _ _);rw[AAy];exact(Yb p.str n).imp λh=>h
 obtain⟨n,-,hn,rfl⟩:=cH p.good c d x e;obtain⟨b,g,rfl⟩:=IF.1 ha;exact p.ft _ (AG S (0,[]) O1) b g
def A6J (f:List AD) (e:Int):List (Int×Int):=(f.getD 0 (0,[])).2.filter λa=>a.1 != e
def A6K (f:List AD) (e:Int):List AD:=((f.getD 0 (0,[])).1,De 1 (A6J f e)) :: f.map λx=>(x.1,De 1 x.2)
def A3h (f:List AD) (e:Int):List AD:=AQ (A6K f e) 0
def FT (l:List (Int×Int)) (e:Int):Int×Bool:=match l with
 | []=>(0,false)
 | a :: l=>if a.1=e then (a.2,true) else FT l e
theorem Uu (e:Int) (l:List (Int×Int)) {k:Nat} (h:k<l.length):FT (l.drop k) e=if (l.getD k (0,0)).1=e then ((l.getD k (0,0)).2,true) else FT (l.drop (k+1)) e:=by
 rw[OF h];have e:l.getD k (0,0)=l[k]:=by simp[AS,h]
 rw[e];rfl
def yP:AX:={ ins:=[MM,T3,T3],pre:=λ(f,n,_,_)=>gY f/\0<=n/\n<(List.length f:Int),out:=λ(f,n,e,_)=>[.p T3 (FT (List.getD f n.toNat (0,[])).2 e).1,.p .bool (FT (List.getD f n.toNat (0,[])).2 e).2] }
theorem A25:Ac Tryz.prog 128 yP:=by
 refine fK [0,1,2,3,6,7,9,15,16,17,18,24] Tryz.func128 Tryz.ntmps128 AI ?_;rintro w0 O0 ⟨f,n,e,u⟩ c-⟨hf,h0,h1⟩;simp only[yP,AM];repeat'(first|exact trivial|apply eS rfl|apply AB|refine rX c ?_ ?_|refine rC ?_ ?_<;>intro a<;>try(cases a;done))
 .exact⟨h0,h1⟩
 generalize g:(f.getD n.toNat (0,[])).2=xs at *;have i:xs.length<=100000:=by
  rw[<-g];have hn:n.toNat<f.length:=by
   have h0:(0:Int)<=n:=h0;have h1:(n:Int)<(List.length f:Int):=h1;exact(ACx h0).2 h1
  exact hf.2 _ (AG f (0,[]) hn)
 refine AJ (ι:={k:Nat//k<=xs.length/\FT xs e=FT (xs.drop k) e}) (λk=>⟨[(2,.p T3 e),(15,.p VY xs),(16,.p (.int .i64) (xs.length:Int)),(17,.p (.int .i64) (k.1:Int))],[]⟩) (λk=>xs.length-k.1) ⟨0,Do _,rfl⟩ (AC [] rfl rfl ?_ ?_) (λk=>?_)
 .first|exact eN|refine eM ?_
 .first|exact eN|refine eM ?_
 obtain⟨k,hk,d⟩:=k;repeat'(first|exact trivial|apply eS rfl|apply AB|refine rX c ?_ ?_|refine rC ?_ ?_<;>intro a<;>try(cases a;done))
 .exact a
 .have b:k<xs.length:=iN.1 (by assumption);have h:=Uu e xs b;rw[At a]at h;rw[d,h];exact fI c [.tmp 6,.tmp 7]
 .omega
 .have b:k<xs.length:=iN.1 (by assumption);have h:=Uu e xs b;rw[As a]at h;refine⟨⟨k+1,b,d.trans h⟩,by simp only;omega,AC [] rfl rfl ?_ ?_⟩
  .first|exact eN|refine eM ?_
  first|exact eN|refine eM ?_
 have b:xs.drop k=[]:=ON (AAe.1 a);rw[b]at d;rw[d];exact fI c [.tmp 6,.tmp 7] (by first|exact eR|refine N9 ?_;exact⟨rfl,rfl⟩)
section
attribute [local go_sem] yP
def RY (f:List AD):Int->List Int->Int×Bool
 | n,[]=>(n,true)
 | n,e :: p=>if (FT (Ak f n) e).2=true then RY f (FT (Ak f n) e).1 p else (0,false)
theorem XD {k:Nat} (h:k<p.length):p.drop k=p.getD k 0 :: p.drop (k+1):=by
 rw[OF h];simp[AS,h]
theorem yQ {e:Int} (h:(FT l e).2=true):∃a∈l,a.1=e/\a.2=(FT l e).1:=by
 induction l with
 | nil=>simp[FT]at h
 | cons a l g =>
  simp only[FT]at h ⊢;split
  .rename_i c;exact⟨a,by simp,c,rfl⟩
  rename_i c;rw[As c]at h;obtain⟨b,f,h1,d⟩:=g h;exact⟨b,by simp[f],h1,d⟩
def atS:AX:={ ins:=[MM,CH],pre:=λ(f,_,_)=>Aa f/\0<List.length f,out:=λ(f,p,_)=>[.p T3 (RY f 0 p).1,.p .bool (RY f 0 p).2] }
attribute [local go_sem] atS
theorem A6L:Ac Tryz.prog 80 atS:=by
 refine fK [0,1,2,4,5,6,8,9,10,11,12,13,14,25] Tryz.func80 Tryz.ntmps80 (AF A25 AI) ?_;rintro w0 O0 ⟨f,p,u⟩ e ⟨-,⟨i,-⟩,-⟩ ⟨hf,h0⟩;simp only[AO]at i;simp only[atS,AM];have j:gY f:=⟨hf.1,λx l=>(hf.2 x l).1⟩;have h0:0<f.length:=h0;repeat'(first|exact trivial|apply eS rfl|apply AB|refine rX e ?_ ?_|refine rC ?_ ?_<;>intro b<;>try(cases b;done))
 refine AJ (ι:={s:Nat×Int//s.1<=p.length/\(0<=s.2/\s.2<(f.length:Int))/\RY f 0 p=RY f s.2 (p.drop s.1)}) (λs=>⟨[(2,.bp 2 [] 0),(6,.p T3 s.1.2),(11,.p CH p),(12,.p (.int .i64) (p.length:Int)),(13,.p (.int .i64) (s.1.1:Int))],[(2,.box 34 true [.p VZ f])]⟩) (λs=>p.length-s.1.1) ⟨(0,0),Do _,⟨ABg 0,by show (0:Int)<_;omega⟩,rfl⟩ (AC [(2,.nm 2)] rfl rfl ?_ ?_) (λs=>?_)
 .first|exact eN|refine eM ?_
 .first|exact eN|refine eM ?_
 obtain⟨⟨k,n⟩,hk,hn,d⟩:=s;simp only at hk hn d ⊢;repeat'(first|exact trivial|apply eS rfl|apply AB|refine rX e ?_ ?_|refine rC ?_ ?_<;>intro b<;>try(cases b;done))
 .exact b
 .exact⟨j,hn⟩
 .have c:k<p.length:=iN.1 (by assumption);have h1:RY f 0 p=(0,false):=by
   rw[d,XD c];simp only[RY];rw[As (by rw[b];simp)]
  exact fI e [.tmp 4,.tmp 5] (by rw[h1];exact eR)
 .omega
 .have c:k<p.length:=iN.1 (by assumption);have h1:=d;rw[XD c]at h1;simp only[RY]at h1;rw[At b]at h1;obtain⟨a,ha,-,h⟩:=yQ b;have g:=CK hf ha;rw[h]at g;refine⟨⟨(k+1,(FT (f.getD n.toNat (0,[])).2 (p.getD k 0)).1),c,g,h1⟩,by simp only;omega,AC [(2,.nm 2)] rfl rfl ?_ ?_⟩
  .first|exact eN|refine eM ?_
  first|exact eN|refine eM ?_
 have c:p.drop k=[]:=ON (AAe.1 b);rw[c]at d;exact fI e [.tmp 4,.tmp 5] (by rw[d];first|exact eR|refine N9 ?_;exact⟨rfl,rfl⟩)
end
def cI (h:AE):Int:=BN h (sb [65,82,71,83])
def iU (h:AE) (i:Nat):List Int:=cI h :: (List.replicate i (D0 h).rest++[(D0 h).first])
theorem A26 (h:AE) (i:Nat):(iU h i).length=i+2:=by simp[iU]
def HV (pl:Nat->List Int):Nat->List (List AD)->List (List AD)
 | _,[]=>[]
 | i,k :: l=>B2 (pl i) k :: HV pl (i+1) l
noncomputable def Fq (h:AE) (pl:Nat->List Int):Nat->List AD->List (List AD)->List AD×Bool
 | _,f,[]=>(f,true)
 | i,f,k :: l=>if (Yk h f (B2 (pl i) k)).2=true then Fq h pl (i+1) (Yk h f (B2 (pl i) k)).1 l else ([],false)
theorem Uv {pl:Nat->List Int} {x:List AD}:∀ {l:List (List AD)} {i:Nat},x∈HV pl i l->∃j,j<l.length/\x=B2 (pl (i+j)) (l.getD j [])
 | k :: l,i,h=>by
  rcases BY.1 h with rfl|h
  .exact⟨0,by simp,rfl⟩
  obtain⟨j,a,rfl⟩:=Uv h;exact⟨j+1,by simpa using a,by rw[show i+(j+1)=i+1+j by omega];rfl⟩
theorem Uw {h:AE} {pl:Nat->List Int}:∀ {l:List (List AD)} {i:Nat} {f:List AD},(∀x∈HV pl i l,x.length<=100)->(Fq h pl i f l).1.length<=f.length+100*l.length
 | [],i,f,_=>OS _
 | k :: l,i,f,c=>by
  unfold Fq;split
  .have h1:=mB (h:=h) (a:=f) (b:=B2 (pl i) k);have e:=c _ (iF (a:=B2 (pl i) k) (l:=HV pl (i+1) l));have g:=Uw (h:=h) (pl:=pl) (l:=l) (i:=i+1) (f:=(Yk h f (B2 (pl i) k)).1) λx d=>c x (GO _ d);simp only[NO];omega
  simp
section
variable {h:AE} (hh:H14 h)
include hh
theorem Ux {pl:Nat->List Int}:∀(l:List (List AD)) (i:Nat) (f:List AD) (L:List (List AD)),LQ h L (f,true)->(∀x∈L,VF h x)->(∀x∈HV pl i l,VF h x/\x.length<=100)->f.length+100*l.length<=10000->LQ h (L++HV pl i l) (Fq h pl i f l)
 | [],i,f,L,H,o,q,r=>by
  show LQ h (L++[]) (f,true);rw[AAk];exact H
 | k :: l,i,f,L,H,o,q,r=>by
  have hu:=q _ (iF (a:=B2 (pl i) k) (l:=HV pl (i+1) l));have g:=H.vf rfl;simp only[NO]at r;have v:=mB (h:=h) (a:=f) (b:=B2 (pl i) k);have hs:LQ h (L++[B2 (pl i) k]) (Yk h f (B2 (pl i) k)):=by
   refine(A22 hh g.wt.1 hu.1 (by have:=hu.2;show f.length+_<=10000;omega)).congr λX j=>?_;rw[Us,Gj];constructor
   .rintro⟨⟨m,d⟩,s⟩ x t;rcases IS.1 t with c|c
    .exact yM hh.ok o g.wt.1 j.1 g.hom d x c
    rw[oF.1 c];exact s
   intro n;exact⟨g.least X j λx d=>n x (tO _ d),n _ (AAA _ (oF.2 rfl))⟩
  show LQ h (L++B2 (pl i) k :: HV pl (i+1) l) (Fq h pl i f (k :: l));unfold Fq;split
  .rename_i p;have:=Ux l (i+1) (Yk h f (B2 (pl i) k)).1 (L++[B2 (pl i) k]) (by rw[<-p];exact hs) (λx d=>by
    rcases IS.1 d with c|c
    .exact o x c
    rw[oF.1 c];exact hu.1) (λx d=>q x (GO _ d)) O1
   rwa [AA5,ABu]at this
  rename_i p;refine .inr ⟨rfl,λX j n=>?_⟩;rcases hs with ⟨e,-⟩|⟨-,u⟩
  .exact p e
  refine u X j λx d=>n x ?_;rcases IS.1 d with c|c
  .exact tO _ c
  exact AAA _ (by rw[oF.1 c];exact iF)
omit hh in
theorem qI {f:List AD} (a:Wt h f):LQ h [f] (f,true):=.inl ⟨rfl,a,Gj.2 ⟨id,xW a.1.str⟩,λ_ _ b=>Gj.1 b⟩
end
theorem A4Z (e:RU h=true) (ha:0<=cI h) (i:Nat):FtP h (iU h i):=by
 obtain⟨⟨h1,b⟩,-⟩:=xG e;have c:=Fx h (sb [70,73,82,83,84]);have d:=Fx h (sb [82,69,83,84]);have f:=Fx h (sb [65,82,71,83]);intro x a;rcases BY.1 a with rfl|a
 .exact⟨ha,f.2⟩
 rcases IS.1 a with a|a
 .rw[(List.mem_replicate.1 a).2];exact⟨b,d.2⟩
 rw[oF.1 a];exact⟨h1,c.2⟩
structure A50 (h:AE) (ar:Int) (f:List AD):Prop where
 arb:1<=ar/\ar<=2
 chk:YV h f=0
 args:0<=cI h
 lw:RU h=true
 walk:∀i:Nat,(i:Int)<ar->∃n,A3b f 0 (iU h i)=some n
section
attribute [local go_sem] NK NJ UU
def DS (h:AE) (w:LW):Obj:=.box 248 true [.p GL h,.p T3 w.list,.p T3 w.cons,.p T3 w.null,.p T3 w.dlist,.p T3 w.first,.p T3 w.rest,.p T3 w.head,.p T3 w.last]
theorem yR (h:AE) (w:LW) (f:List AD) (n:Int):A7 Tryz.prog 170 [.p Zv (wdF h w),.p MM f,.p T3 n] [] [] (λres c=>res=.clo 187 [5,3,4]/\c=[(5,.box 3 false [.p T3 n]),(4,.box 34 true [.p VZ f]),(3,DS h w)]):=by
 refine JP [0,1,2,3,4,5,6] [] [] Tryz.func170 Tryz.ntmps170 AI ?_;intro w0 K O0 ρ0 a d e;simp only[Am,wdF];repeat'(first|exact trivial|apply eS rfl|apply AB|refine rX a ?_ ?_|refine rC ?_ ?_<;>intro b<;>try(cases b;done))
 exact fM a [.tmp 6] (.clo 187 [5,3,4]) eT ⟨rfl,rfl⟩
abbrev WS:=List Int×List Int×Bool×Int
def Aq (f:List AD) (n:Int):AD:=f.getD n.toNat (0,[])
def XE (h:AE) (w:LW) (f:List AD) (s:WS):WS:=(s.1++[s.2.2.2],if K0 h w (Aq f s.2.2.2)=2 then s.2.1++[Br (Aq f s.2.2.2).2 w.first] else s.2.1,decide (K0 h w (Aq f s.2.2.2)=1),Br (Aq f s.2.2.2).2 w.rest)
def CC (h:AE) (w:LW) (f:List AD) (n:Int):Nat->WS
 | 0=>([],[],false,n)
 | i+1=>XE h w f (CC h w f n i)
def WGo (h:AE) (w:LW) (f:List AD) (n:Int) (i:Nat):Prop:=∀j,j<i->K0 h w (Aq f (CC h w f n j).2.2.2)=2/\(CC h w f n j).2.2.2∉(CC h w f n j).1
theorem SF {h:AE} {w:LW} {f:List AD} {n:Int} (hf:Aa f) (n0:0<=n) (n1:n<(f.length:Int)):∀i,WGo h w f n i->Lv f (CC h w f n i).1/\(CC h w f n i).1.length=i/\(0<=(CC h w f n i).2.2.2/\(CC h w f n i).2.2.2<(f.length:Int))/\(CC h w f n i).2.1.length=i
 | 0,_=>⟨Jh f,rfl,⟨n0,n1⟩,rfl⟩
 | i+1,c=>by
  obtain⟨h1,d,a,e⟩:=SF hf n0 n1 i (λj l=>c j O1);obtain⟨b,g⟩:=c i O1;have hk:=Wr b;refine⟨h1.snoc a.1 a.2 g,?_,⟨hk.2,?_⟩,?_⟩
  .show ((CC h w f n i).1++_).length=_;rw[If,d];rfl
  .exact Oo O1 _ λx k=>(CK hf (n:=(CC h w f n i).2.2.2) k).2
  show (if _ then _ else _:List Int).length=_;rw[At b,If,e];rfl
def GV (L:Go.Loop):Go.Loop:={ L with state:=.done,pending:=some .ret }
end
section
attribute [local go_sem] Ot KC UR WH KD KB MQ JW IJ M6
theorem Fy (h:AE) (s:ByteArray):Ap h s<(h.1.length:Int):=by
 have:=YW s h.1 0;unfold Ap;omega
def QC (h:AE) (s:ByteArray) (t:Int):Bool:=decide (0<=Ap h s)&&Ad h (Ap h s) t
def cJ:AX:={ ins:=[GL,T9,T3],pre:=λ(h,_,t,_)=>GC h/\(0:Int)<=t/\t<(List.length (h:AE).1:Int),out:=λ(h,s,t,_)=>[.p .bool (QC h s t)],lend:=true }
attribute [local go_sem] cJ
theorem A51:Ac Tryz.prog 34 cJ:=by
 refine fK [0,1,2,3,6,7] Tryz.func34 Tryz.ntmps34 (AF lN (AF xE AI)) ?_;rintro w0 O0 ⟨h,s,t,u⟩ a-⟨hk,h0,h1⟩;have hk:GC h:=hk;have c:(h.1,h.2)=h:=rfl;have d:=Fy h s;simp only[cJ,AM];repeat'(first|exact trivial|apply eS rfl|apply AB|refine rX a ?_ ?_|refine rC ?_ ?_<;>intro b<;>try(cases b;done))
 all_goals try simp only[c]at *
 .exact λe=>⟨⟨⟨e,d⟩,h0,h1⟩,hk⟩
 exact fI a [.tmp 6] (by first|exact eR|refine N9 ?_;rfl)
def B3 (h:AE) (t:Int):ByteArray :=
 if QC h ⟨#[104,97,110,100,108,101]⟩ t=true then ⟨#[104]⟩ else if QC h ⟨#[101,118,101,110,116]⟩ t=true then ⟨#[101]⟩
 else if QC h ⟨#[101,110,116,105,116,121]⟩ t=true then ⟨#[120]⟩ else if QC h ⟨#[105,110,100,101,120]⟩ t=true then ⟨#[105]⟩ else ⟨#[]⟩
def SG:AX:={ ins:=[GL,T3],pre:=λ(h,t,_)=>GC h/\(0:Int)<=t/\t<(List.length (h:AE).1:Int),out:=λ(h,t,_)=>[.p T9 (B3 h t)],lend:=true }
attribute [local go_sem] SG
theorem qJ:Ac Tryz.prog 12 SG:=by
 refine fK [0,1,2,4,5,9,13,17] Tryz.func12 Tryz.ntmps12 (AF A51 AI) ?_;rintro w0 O0 ⟨h,t,u⟩ c-⟨hk,h0,h1⟩;have hk:GC h:=hk;have f:GC h/\(0:Int)<=t/\t<(h.1.length:Int):=⟨hk,h0,h1⟩;have i:(h.1,h.2)=h:=rfl;simp only[SG,AM];repeat'(first|exact trivial|apply eS rfl|apply AB|refine rX c ?_ ?_|refine rC ?_ ?_<;>intro b<;>try(cases b;done))
 all_goals try simp only[i]at *
 .exact f
 .have e:B3 h t=⟨#[104]⟩:=At b;exact fI c [.tmp 4] (by rw[e];exact eR)
 .exact f
 .rename_i a;have e:B3 h t=⟨#[101]⟩:=(As (by rw[a];simp)).trans (At b);exact fI c [.tmp 4] (by rw[e];exact eR)
 .exact f
 .rename_i a d;have e:B3 h t=⟨#[120]⟩:=(As (by rw[a];simp)).trans ((As (by rw[d];simp)).trans (At b));exact fI c [.tmp 4] (by rw[e];exact eR)
 .exact f
 .rename_i a d g;have e:B3 h t=⟨#[105]⟩:=(As (by rw[a];simp)).trans ((As (by rw[d];simp)).trans ((As (by rw[g];simp)).trans (At b)));exact fI c [.tmp 4] (by rw[e];exact eR)
 rename_i a d g;have e:B3 h t=⟨#[]⟩:=(As (by rw[a];simp)).trans ((As (by rw[d];simp)).trans ((As (by rw[g];simp)).trans (As (by rw[b];simp))));exact fI c [.tmp 4] (by rw[e];exact eR)
def Cl (h:AE) (f:List AD) (n:Int) (s:ByteArray):Int:=if 0<=BN h s then Br (Aq f n).2 (BN h s) else -1
def MB (h:AE) (f:List AD) (n:Int):ByteArray:=if n<0 then ⟨#[]⟩ else B3 h (Aq f n).1
end
section
attribute [local go_sem] Ot KC UR JW IJ
def Uy:AX:={ ins:=[GL],pre:=λ(h,_)=>GC h,out:=λ(h,_)=>[.p .bool (RU h)],lend:=true }
attribute [local go_sem] Uy
def iV:AX:={ ins:=[GL,MM,T3,T9],pre:=λ(_,f,n,_)=>Aa f/\(0:Int)<=n/\n<(List.length f:Int),out:=λ(h,f,n,s,_)=>[.p T3 (Br (List.getD (f:List AD) n.toNat (0,[])).2 (BN h s))],lend:=true }
attribute [local go_sem] iV
def Ym:AX:={ ins:=[GL,MM,T3],pre:=λ(h,f,n,_)=>(RU h=true/\GC h)/\Aa f/\DP h f/\(0:Int)<=n/\n<(List.length f:Int),out:=λ(h,f,n,_)=>[.p .bool (hJ h (D0 h) (List.getD (f:List AD) n.toNat (0,[])))],lend:=true }
attribute [local go_sem] Ym
def Yn:AX:={ ins:=[GL,MM,T3],pre:=λ(h,f,n,_)=>(RU h=true/\GC h)/\Aa f/\DP h f/\(0:Int)<=n/\n<(List.length f:Int),out:=λ(h,f,n,_)=>[.p .bool (US h (D0 h) (List.getD (f:List AD) n.toNat (0,[])))],lend:=true }
attribute [local go_sem] Yn
def Uz:AX:={ ins:=[GL,MM,T3],pre:=λ(h,f,n,_)=>(RU h=true/\GC h)/\Aa f/\DP h f/\(0:Int)<=n/\n<(List.length f:Int),out:=λ(h,f,n,_)=>[.p .bool (!hJ h (D0 h) (List.getD (f:List AD) n.toNat (0,[]))&&Wq h (D0 h) (List.getD (f:List AD) n.toNat (0,[])))],lend:=true }
attribute [local go_sem] Uz
def yS:AX:={ ins:=[CH,T3],pre:=λ_=>True,out:=λ(l,n,_)=>[.p .bool (inF l n)],lend:=true }
attribute [local go_sem] yS
end
section
attribute [local go_sem] atS
theorem VF.h0 (vf:VF h f):0<h.1.length:=by
 have a:=vf.pos;have:=vf.ty _ (AG f (0,[]) (k:=0) O1);omega
end
noncomputable def iW (h:AE) (ar:Int) (f:List AD) (A:List (List AD)):List AD×Bool :=
 if (A.length:Int)≠ar then ([],false) else if (Fq h (iU h) 0 f A).2=true then (A3h (Fq h (iU h) 0 f A).1 (cI h),true) else ([],false)
structure RA (h:AE) (ar:Int) (f:List AD) (A:List (List AD)):Prop where
 hh:H14 h
 top:A6F h
 vf:VF h f
 lf:f.length<=12
 ok:A50 h ar f
 va:∀x∈A,VF h x/\x.length<=12
 la:A.length<=3
theorem RA.wt {ar:Int} (r:RA h ar f A):Wt h f:=⟨r.vf,qC r.ok.chk⟩
theorem RA.un {ar:Int} (r:RA h ar f A):∀x∈HV (iU h) 0 A,VF h x/\x.length<=100:=λx b=>by
 obtain⟨j,a,rfl⟩:=Uv b;have d:=A26 h (0+j);have hk:=r.va _ (AG A [] a);have c:=r.la;exact⟨yO r.vf.h0 hk.1 (A4Z r.ok.lw r.ok.args _) O1 O1,by rw[Jn];omega⟩
theorem RA.all {ar:Int} (r:RA h ar f A):LQ h (f :: HV (iU h) 0 A) (Fq h (iU h) 0 f A) :=
 Ux r.hh A 0 f [f] (qI r.wt) (by simp[r.vf]) r.un (by have:=r.lf;have:=r.la;omega)
theorem RA.len {ar:Int} (r:RA h ar f A):(Fq h (iU h) 0 f A).1.length<=312:=by
 have:=Uw (h:=h) (pl:=iU h) (l:=A) (i:=0) (f:=f) λx a=>(r.un x a).2;have:=r.lf;have:=r.la;omega
theorem RA.res {ar:Int} (r:RA h ar f A) (a:(iW h ar f A).2=true):(A.length:Int)=ar/\TU h (f :: HV (iU h) 0 A) (Fq h (iU h) 0 f A).1/\iW h ar f A=(A3h (Fq h (iU h) 0 f A).1 (cI h),true):=by
 unfold iW at a ⊢;by_cases h1:(A.length:Int)≠ar
 .rw[At h1]at a;cases a
 rw[As h1]at a ⊢;by_cases b:(Fq h (iU h) 0 f A).2=true
 .rw[At b];exact⟨by omega,r.all.vf b,rfl⟩
 rw[As b]at a;cases a
section
attribute [local go_sem] NK NJ UU
def cK (h:AE) (w:LW) (f:List AD) (la:Int) (a out:List Int) (m:Int):Option (List Int×Int) :=
 if m=la then some (if K0 h w (Aq f m)=3 then (out,0) else ([],13)) else if m∈a then some ([],6) else if K0 h w (Aq f m)=2 then none else some ([],13)
def FK (h:AE) (w:LW) (f:List AD) (la:Int):Nat->List Int->List Int->Int->List Int×Int
 | 0,_,_,_=>([],6)
 | k+1,a,out,m=>match cK h w f la a out m with
  | some r=>r
  | none=>FK h w f la k (a++[m]) (out++[Br (Aq f m).2 w.first]) (Br (Aq f m).2 w.rest)
def BH (h:AE) (f:List AD) (n:Int):List Int×Int :=
 if RU h=true then
  if Br (Aq f n).2 (D0 h).head<0\/Br (Aq f n).2 (D0 h).last<0 then ([],13)
  else FK h (D0 h) f (Br (Aq f n).2 (D0 h).last) (f.length+1) [] [] (Br (Aq f n).2 (D0 h).head)
 else ([],5)
def MY (h:AE) (w:LW) (f:List AD) (la:Int) (s:WS):Option (List Int×Int):=cK h w f la s.1 s.2.1 s.2.2.2
def DGo (h:AE) (w:LW) (f:List AD) (la n:Int) (i:Nat):Prop:=∀j,j<i->MY h w f la (CC h w f n j)=none
theorem Iv {w:LW} {la:Int} {a out:List Int} {m:Int} (e:cK h w f la a out m=none):m≠la/\m∉a/\K0 h w (Aq f m)=2:=by
 unfold cK at e;split at e
 .cases e
 split at e
 .cases e
 split at e
 .exact⟨by assumption,by assumption,by assumption⟩
 cases e
theorem Yo {w:LW} {la n:Int} {i:Nat} (a:DGo h w f la n i):WGo h w f n i:=λj b=>⟨(Iv (a j b)).2.2,(Iv (a j b)).2.1⟩
theorem XF {h:AE} {w:LW} {f:List AD} {la n:Int} (k:Nat):∀i,DGo h w f la n i->FK h w f la (k+i) [] [] n=FK h w f la k (CC h w f n i).1 (CC h w f n i).2.1 (CC h w f n i).2.2.2
 | 0,_=>rfl
 | i+1,b=>by
  have c:=XF (h:=h) (w:=w) (f:=f) (la:=la) (n:=n) (k+1) i (λj d=>b j O1);have a:cK h w f la (CC h w f n i).1 (CC h w f n i).2.1 (CC h w f n i).2.2.2=none:=b i O1;rw[show k+(i+1)=k+1+i by omega,c];rw[FK,a];show _=FK h w f la k (XE h w f (CC h w f n i)).1 (XE h w f (CC h w f n i)).2.1 (XE h w f (CC h w f n i)).2.2.2;unfold XE;rw[At (Iv a).2.2]
theorem XG {w:LW} {la n:Int} (hf:Aa f) (n0:0<=n) (n1:n<(f.length:Int)) {i:Nat} (a:DGo h w f la n i) {r:List Int×Int} (b:MY h w f la (CC h w f n i)=some r):FK h w f la (f.length+1) [] [] n=r:=by
 obtain⟨h1,c,d,-⟩:=SF hf n0 n1 i (Yo a);have e:=h1.len;rw[show f.length+1=(f.length-i)+1+i by omega,XF _ _ a,FK,show cK h w f la (CC h w f n i).1 (CC h w f n i).2.1 (CC h w f n i).2.2.2=some r from b]
def dE:List (Nat×AV):=[(4,.bp 4 [] 0),(6,.bp 6 [] 0),(7,.bp 7 [] 0),(8,.bp 8 [] 0),(11,.bp 11 [] 0),(12,.bp 12 [] 0),(13,.bp 13 [] 0)]
def dO (h:AE) (w:LW) (f:List AD) (L:Go.Loop) (a:Array Value) (la:Int) (s:WS) (m:Int) (c:AV) (e:Int):List (Nat×Obj):=[(50,.box 3 false [.p T3 m]),(51,DS h w),(52,.box 34 true [.p VZ f]),(101,.loop L),(102,.frame a dE),(6,.box 101 false [c]),(7,.box 35 false [.p DD e]),(8,DS h w),(4,.box 34 true [.p VZ f]),(11,.box 3 false [.p T3 la]),(12,.box 101 false [.sr 60 T3 0 s.2.1.length]),(60,.arr 3 T3 s.2.1),(13,.box 215 false [.mp 24]),(24,.mapo T3 .bool (J6 s.1))]
def DRd (h:AE) (w:LW) (f:List AD) (la n:Int) (L:Go.Loop) (a:Array Value) (i:Nat) (b:Bool) (O:List (Nat×Obj)):Prop :=
 (MY h w f la (CC h w f n i)=some ((CC h w f n i).2.1,0)/\b=false/\O=dO h w f (GV L) a la (CC h w f n i) (CC h w f n i).2.2.2 (.sr 60 T3 0 (CC h w f n i).2.1.length) 0) \/
 (∃e,MY h w f la (CC h w f n i)=some ([],e)/\b=false/\O=dO h w f (GV L) a la (CC h w f n i) (CC h w f n i).2.2.2 (.raw (.slice none 0 0)) e) \/
 (MY h w f la (CC h w f n i)=none/\b=true/\O=dO h w f L a la (CC h w f n (i+1)) (CC h w f n i).2.2.2 (.raw (.slice none 0 0)) 0)
theorem qK (h:AE) (w:LW) (f:List AD) (la n:Int) (D:WOk h w) (hf:Aa f) (C:DP h f) (n0:0<=n) (n1:n<(f.length:Int)) (L:Go.Loop) (d:Array Value)
  (m:∀i,DGo h w f la n i->V9 Tryz.prog 101 [.p T3 (CC h w f n i).2.2.2] (dO h w f L d la (CC h w f n i) (CC h w f n i).2.2.2 (.raw (.slice none 0 0)) 0) [50,51,52,101,102,6,7,8,4,11,12,13,24] (λres l=>∃b,res=.p .bool b/\DRd h w f la n L d i b l)) :
  A7 Tryz.prog 187 [.yl 101,.bp 50 [] 0,.bp 51 [] 0,.bp 52 [] 0] (dO h w f L d la (CC h w f n 0) n (.raw (.slice none 0 0)) 0) [50,51,52,101,102,6,7,8,4,11,12,13,24] (λres l=>res=.raw (.tuple #[])/\∃i,DGo h w f la n i/\DRd h w f la n L d i false l):=by
 refine JP [0,1,2,3,14] [] [] Tryz.func187 Tryz.ntmps187 (AF bP (AF YX AI)) ?_;intro w0 K O0 ρ0 a A B;simp only[Am,dO,DS];have t:=m;clear m;repeat'(first|exact trivial|apply eS rfl|apply AB|refine rX a ?_ ?_|refine rC ?_ ?_<;>intro c<;>try(cases c;done))
 refine AJ (ι:={i:Nat//DGo h w f la n i}) (λi=>⟨[(0,.yl 101),(1,.bp 50 [] 0),(2,.bp 51 [] 0),(3,.bp 52 [] 0)],dO h w f L d la (CC h w f n i.1) (CC h w f n i.1).2.2.2 (.raw (.slice none 0 0)) 0⟩) (λi=>f.length+1-i.1) ⟨0,λj o=>by omega⟩ (AC [(50,.nm 50),(51,.nm 51),(52,.nm 52),(101,.nm 101),(102,.nm 102),(6,.nm 6),(7,.nm 7),(8,.nm 8),(4,.nm 4),(11,.nm 11),(60,.nm 60),(12,.nm 12),(13,.nm 13),(24,.nm 24)] rfl rfl ?_ ?_) (λi=>?_)
 .simp only[dO,DS,dE,CC];first|exact eN|refine eM ?_
 .simp only[dO,DS,dE,CC];first|exact eN|refine eM ?_
 obtain⟨i,hi⟩:=i;obtain⟨q,v,r,x⟩:=SF hf n0 n1 i (Yo hi);have u:=t i hi;have y:=q.len;have z:CC h w f n (i+1)=XE h w f (CC h w f n i):=rfl;simp only[dO,DS,dE];repeat'(first|exact trivial|apply eS rfl|apply AB|refine rX a ?_ ?_|refine rC ?_ ?_<;>intro c<;>try(cases c;done))
 refine cG 2 a ?_ ?_
 .trivial
 refine rY 101 101 a (u) [(50,.nm 50),(51,.nm 51),(52,.nm 52),(101,.nm 101),(102,.nm 102),(6,.nm 6),(7,.nm 7),(8,.nm 8),(4,.nm 4),(11,.nm 11),(60,.nm 60),(12,.nm 12),(13,.nm 13),(24,.nm 24)] [60] ?_ ?_ ?_
 .first|exact eN|refine eM ?_
 .simp only[dO,DS,dE];first|exact eN|refine eM ?_
 rintro _ _ ⟨b,rfl,k⟩;have s:=k;rcases s with ⟨g,rfl,rfl⟩|⟨e,g,rfl,rfl⟩|⟨g,rfl,rfl⟩
 .refine⟨[(50,.nm 50),(51,.nm 51),(52,.nm 52),(101,.nm 101),(102,.nm 102),(6,.nm 6),(7,.nm 7),(8,.nm 8),(4,.nm 4),(11,.nm 11),(60,.nm 60),(12,.nm 12),(13,.nm 13),(24,.nm 24)],.p .bool false,dO h w f (GV L) d la (CC h w f n i) (CC h w f n i).2.2.2 (.sr 60 T3 0 (CC h w f n i).2.1.length) 0,rfl,rfl,?_,?_,rfl,rfl,?_⟩
  .simp only[dO,DS,dE];first|exact eN|refine eM ?_
  .first|exact eN|refine eM ?_
  simp only[dO,DS,dE];refine rL a ?_ ?_
  .trivial
  repeat'(first|exact trivial|apply eS rfl|apply AB|refine rX a ?_ ?_|refine rC ?_ ?_<;>intro c<;>try(cases c;done))
  refine Ev.ent (σ':=⟨[],dO h w f (GV L) d la (CC h w f n i) (CC h w f n i).2.2.2 (.sr 60 T3 0 (CC h w f n i).2.1.length) 0⟩) ?_ (AC [(50,.nm 50),(51,.nm 51),(52,.nm 52),(101,.nm 101),(102,.nm 102),(6,.nm 6),(7,.nm 7),(8,.nm 8),(4,.nm 4),(11,.nm 11),(60,.nm 60),(12,.nm 12),(13,.nm 13),(24,.nm 24)] rfl rfl ?_ ?_)
  .exact fM a [] (.raw (.tuple #[])) rfl ⟨rfl,i,hi,k⟩
  .simp only[dO,DS,dE];first|exact eN|refine eM ?_
  first|exact eN|refine eM ?_
 .refine⟨[(50,.nm 50),(51,.nm 51),(52,.nm 52),(101,.nm 101),(102,.nm 102),(6,.nm 6),(7,.nm 7),(8,.nm 8),(4,.nm 4),(11,.nm 11),(60,.nm 60),(12,.nm 12),(13,.nm 13),(24,.nm 24)],.p .bool false,dO h w f (GV L) d la (CC h w f n i) (CC h w f n i).2.2.2 (.raw (.slice none 0 0)) e,rfl,rfl,?_,?_,rfl,rfl,?_⟩
  .simp only[dO,DS,dE];first|exact eN|refine eM ?_
  .first|exact eN|refine eM ?_
  simp only[dO,DS,dE];refine rL a ?_ ?_
  .trivial
  repeat'(first|exact trivial|apply eS rfl|apply AB|refine rX a ?_ ?_|refine rC ?_ ?_<;>intro c<;>try(cases c;done))
  refine Ev.ent (σ':=⟨[],dO h w f (GV L) d la (CC h w f n i) (CC h w f n i).2.2.2 (.raw (.slice none 0 0)) e⟩) ?_ (AC [(50,.nm 50),(51,.nm 51),(52,.nm 52),(101,.nm 101),(102,.nm 102),(6,.nm 6),(7,.nm 7),(8,.nm 8),(4,.nm 4),(11,.nm 11),(60,.nm 60),(12,.nm 12),(13,.nm 13),(24,.nm 24)] rfl rfl ?_ ?_)
  .exact fM a [] (.raw (.tuple #[])) rfl ⟨rfl,i,hi,k⟩
  .simp only[dO,DS,dE];first|exact eN|refine eM ?_
  first|exact eN|refine eM ?_
 have hk:=Iv g;refine⟨[(50,.nm 50),(51,.nm 51),(52,.nm 52),(101,.nm 101),(102,.nm 102),(6,.nm 6),(7,.nm 7),(8,.nm 8),(4,.nm 4),(11,.nm 11),(60,.nm 60),(12,.nm 12),(13,.nm 13),(24,.nm 24)],.p .bool true,dO h w f L d la (CC h w f n (i+1)) (CC h w f n i).2.2.2 (.raw (.slice none 0 0)) 0,rfl,rfl,?_,?_,rfl,rfl,?_⟩
 .simp only[dO,DS,dE];first|exact eN|refine eM ?_
 .first|exact eN|refine eM ?_
 simp only[dO,DS,dE];refine rL a ?_ ?_
 .trivial
 repeat'(first|exact trivial|apply eS rfl|apply AB|refine rX a ?_ ?_|refine rC ?_ ?_<;>intro c<;>try(cases c;done))
 .exact⟨hf,r⟩
 .refine⟨⟨i+1,λj o=>(Nat.lt_succ_iff_lt_or_eq.1 o).elim (hi j) λe=>by rw[e];exact g⟩,by simp only;omega,AC [(50,.nm 50),(51,.nm 51),(52,.nm 52),(101,.nm 101),(102,.nm 102),(6,.nm 6),(7,.nm 7),(8,.nm 8),(4,.nm 4),(11,.nm 11),(60,.nm 60),(12,.nm 12),(13,.nm 13),(24,.nm 24)] rfl rfl ?_ ?_⟩
  .simp only[dO,DS,dE];first|exact eN|refine eM ?_
   rfl
  first|exact eN|refine eM ?_
 exact absurd hk.2.2 c
end
section
attribute [local go_sem] NK NJ UU
theorem iX (h:AE) (f:List AD) (n:Int) (k:Aa f) (H:DP h f) (n0:0<=n) (n1:n<(f.length:Int)):A7 Tryz.prog 130 [.p GL h,.p MM f,.p T3 n] [] [] (λres am=>res=.tup [.p CH (BH h f n).1,.p DD (BH h f n).2]):=by
 refine fKR [0,1,2,3,4,6,7,8,9,10,11,12,13,14,15,22,39,44,45,50,59,63,67] [78] [] Tryz.func130 Tryz.ntmps130 (AF xK (AF bP (AF YX AI))) ?_;intro w0 K O0 ρ0 c ah ai;simp only[Am];have S:(h.1,h.2)=h:=rfl;repeat'(first|exact trivial|apply eS rfl|apply AB|refine rX c ?_ ?_|refine rC ?_ ?_<;>intro d<;>try(cases d;done))
 all_goals simp only[S]at *
 .have l:RU h=false:=by
   cases j:RU h with
   | true=>rw[j]at d;exact absurd rfl d
   | false=>rfl
  have s:BH h f n=([],5):=by unfold BH;rw[l,As sc]
  simp only[l,AAM,AAR,s];exact WC c [.cell 6 101,.cell 7 35] rfl (.inl rfl) (.tup [.p CH [],.p DD 5]) eT rfl
 .exact⟨k,n0,n1⟩
 .have l:RU h=true:=by
   have q:((if RU h=true then (0:Int) else 5) != 0)=false:=by assumption
   cases j:RU h with
   | false=>rw[j]at q;exact absurd q dg
   | true=>rfl
  simp only[At l,wdF]at *;have s:BH h f n=([],13):=by unfold BH;rw[At l];exact At d
  rw[s];exact WC c [.cell 6 101,.cell 7 35] rfl (.inl rfl) (.tup [.p CH [],.p DD 13]) eT rfl
 have l:RU h=true:=by
  have q:((if RU h=true then (0:Int) else 5) != 0)=false:=by assumption
  cases j:RU h with
  | false=>rw[j]at q;exact absurd q dg
  | true=>rfl
 simp only[At l,wdF]at *;have E:=xG l;have D:=xJ h;have I:WOk h (D0 h):=⟨⟨E.2.1,D.1.2.1⟩,E.2.2.1,D.1.2.2.1⟩;have C:BH h f n=FK h (D0 h) f (Br (Aq f n).2 (D0 h).last) (f.length+1) [] [] (Br (Aq f n).2 (D0 h).head):=by
  unfold BH;rw[At l];exact As (λq=>q.elim (λq=>absurd d.1 (ACA.2 q)) λq=>absurd d.2 (ACA.2 q))
 have u:Br (Aq f n).2 (D0 h).head<(f.length:Int):=Oo O1 _ λx Z=>(Oq k n.toNat x Z).2;have t:0<=Br (Aq f n).2 (D0 h).head:=d.1;have G:f.getD n.toNat (0,[])=Aq f n:=rfl;simp only[G]at *;rw[C];generalize af:D0 h=w at *;generalize Br (Aq f n).2 w.head=a at *;generalize Br (Aq f n).2 w.last=la at *;clear G C d n0 n1;refine Ev.ent (σ':=⟨[(10,.p T3 a),(4,.bp 4 [] 0),(6,.bp 6 [] 0),(7,.bp 7 [] 0),(8,.bp 8 [] 0),(11,.bp 11 [] 0),(12,.bp 12 [] 0),(13,.bp 13 [] 0)],[(6,.box 101 false [.raw (.slice none 0 0)]),(7,.box 35 false [.p DD 0]),(8,DS h w),(4,.box 34 true [.p VZ f]),(11,.box 3 false [.p T3 la]),(12,.box 101 false [.raw (.slice none 0 0)]),(13,.box 215 false [.mp 24]),(24,.mapo T3 .bool [])]⟩) ?_ (AC [(6,.nm 6),(7,.nm 7),(8,.nm 8),(4,.nm 4),(11,.nm 11),(12,.nm 12),(13,.nm 13),(24,.nm 40)] rfl rfl ?_ ?_)
 .simp only[DS];refine cP 3 c ?_ ?_
  .trivial
  refine rM c (yR h w f a) [] [] ?_ ?_ ?_
  .simp only[wdF];first|exact eN|refine eM ?_
  .first|exact eN|refine eM ?_
  rintro _ _ ⟨rfl,rfl⟩;refine⟨[(50,.nm 5),(52,.nm 4),(51,.nm 3)],.clo 187 [50,51,52],[(50,.box 3 false [.p T3 a]),(52,.box 34 true [.p VZ f]),(51,DS h w)],rfl,rfl,?_,?_,rfl,rfl,Fu ?_⟩
  .simp only[DS];first|exact eN|refine eM ?_
  .first|exact eN|refine eM ?_
  simp only[DS];repeat'(first|exact trivial|apply eS rfl|apply AB|refine rX c ?_ ?_|refine rC ?_ ?_<;>intro d<;>try(cases d;done))
  refine Zp c rfl rfl (by simp only[go_sem,Nat.reduceEqDiff,reduceCtorEq,Nat.reduceAdd,Nat.reduceSub,Nat.reduceMul,Nat.reduceLeDiff,Nat.reduceLT,Int.reduceLE,Int.reduceToNat,Int.reduceNeg,↓reduceIte];rfl) 101 103 102 rfl rfl rfl rfl ?_;intro L o B M N O P Q Y;refine⟨_,dO h w f L o la (CC h w f a 0) a (.raw (.slice none 0 0)) 0,[50,51,52,101,102,6,7,8,4,11,12,13,24],_,[(50,.nm 50),(51,.nm 51),(52,.nm 52),(101,.nm 101),(102,.nm 102),(6,.nm 6),(7,.nm 7),(8,.nm 8),(4,.nm 4),(11,.nm 11),(60,.nil),(12,.nm 12),(13,.nm 13),(24,.nm 24)],[60],qK h w f la a I k H t u L o ?_,rfl,rfl,?_,?_,rfl,?_⟩
  .intro i hi;obtain⟨J,ad,A,ae⟩:=SF k t u i (Yo hi);have ag:=J.len;have v:=A1B (CC h w f a i).1 (CC h w f a i).2.2.2;have V:lwO (h,w.list,w.cons,w.null,w.dlist,w.first,w.rest,w.head,w.last)=w:=rfl;have W:J6 (CC h w f a (i+1)).1=Em T3 .bool (CC h w f a i).2.2.2 true (J6 (CC h w f a i).1):=by
    show J6 ((CC h w f a i).1++[(CC h w f a i).2.2.2])=_;simp[J6]
   have hT:=c.T;have hF:=c.F;refine Zn (fr:=102) rfl rfl B O P Q N Y rfl (by kernel_rfl) sc rfl rfl (by kernel_rfl) (by kernel_rfl) hT hF ?_;intro an aa ab ao al c aj ak j;simp only[dO,DS,dE,HA];repeat'(first|exact trivial|apply eS rfl|apply AB|refine rX c ?_ ?_|refine rC ?_ ?_<;>intro d<;>try(cases d;done))
   refine⟨rfl,?_⟩;repeat'(first|exact trivial|apply eS rfl|apply AB|refine rX c ?_ ?_|refine rC ?_ ?_<;>intro d<;>try(cases d;done))
   all_goals try simp only[V]at *
   all_goals try simp only[show ∀m:Int,f.getD m.toNat (0,[])=Aq f m from λ_=>rfl]at *
   .exact⟨I,k,H,A⟩
   .have g:MY h w f la (CC h w f a i)=some ((CC h w f a i).2.1,0):=(At d.1).trans (by rw[At d.2]);refine Ev.ent (σ':=⟨[],dO h w f { L with state:=.busy } o la (CC h w f a i) (CC h w f a i).2.2.2 (.sr 60 T3 0 (CC h w f a i).2.1.length) 0⟩) ?_ (AC [(50,.nm 50),(51,.nm 51),(52,.nm 52),(101,.nm 101),(102,.nm 102),(6,.nm 6),(7,.nm 7),(8,.nm 8),(4,.nm 4),(11,.nm 11),(60,.nm 60),(12,.nm 12),(13,.nm 13),(24,.nm 24)] rfl rfl ?_ ?_)
    .refine Lq c (yn:=101) rfl rfl sc j ⟨false,rfl,.inl ⟨g,rfl,?_⟩⟩;simp only[dO,DS,dE,GV,go_sem,Nat.reduceEqDiff,reduceCtorEq,Nat.reduceAdd,Nat.reduceSub,Nat.reduceMul,Nat.reduceLeDiff,Nat.reduceLT,Int.reduceLE,Int.reduceToNat,Int.reduceNeg,↓reduceIte]
    .simp only[dO,DS,dE];first|exact eN|refine eM ?_
    first|exact eN|refine eM ?_
   .have g:MY h w f la (CC h w f a i)=some ([],13):=(At (by assumption)).trans (by rw[As (d (by assumption))]);refine Ev.ent (σ':=⟨[],dO h w f { L with state:=.busy } o la (CC h w f a i) (CC h w f a i).2.2.2 (.raw (.slice none 0 0)) 13⟩) ?_ (AC [(50,.nm 50),(51,.nm 51),(52,.nm 52),(101,.nm 101),(102,.nm 102),(6,.nm 6),(7,.nm 7),(8,.nm 8),(4,.nm 4),(11,.nm 11),(60,.nm 60),(12,.nm 12),(13,.nm 13),(24,.nm 24)] rfl rfl ?_ ?_)
    .refine Lq c (yn:=101) rfl rfl sc j ⟨false,rfl,.inr (.inl ⟨13,g,rfl,?_⟩)⟩;simp only[dO,DS,dE,GV,go_sem,Nat.reduceEqDiff,reduceCtorEq,Nat.reduceAdd,Nat.reduceSub,Nat.reduceMul,Nat.reduceLeDiff,Nat.reduceLT,Int.reduceLE,Int.reduceToNat,Int.reduceNeg,↓reduceIte]
    .simp only[dO,DS,dE];first|exact eN|refine eM ?_
    first|exact eN|refine eM ?_
   .have U:(CC h w f a i).2.2.2∈(CC h w f a i).1:=by
     have r:(BO T3 .bool (CC h w f a i).2.2.2 (J6 (CC h w f a i).1)).getD false=true:=by assumption
     rw[v]at r;simpa[inF] using r
    have g:MY h w f la (CC h w f a i)=some ([],6):=(As (by assumption)).trans (At U);refine Ev.ent (σ':=⟨[],dO h w f { L with state:=.busy } o la (CC h w f a i) (CC h w f a i).2.2.2 (.raw (.slice none 0 0)) 6⟩) ?_ (AC [(50,.nm 50),(51,.nm 51),(52,.nm 52),(101,.nm 101),(102,.nm 102),(6,.nm 6),(7,.nm 7),(8,.nm 8),(4,.nm 4),(11,.nm 11),(60,.nm 60),(12,.nm 12),(13,.nm 13),(24,.nm 24)] rfl rfl ?_ ?_)
    .refine Lq c (yn:=101) rfl rfl sc j ⟨false,rfl,.inr (.inl ⟨6,g,rfl,?_⟩)⟩;simp only[dO,DS,dE,GV,go_sem,Nat.reduceEqDiff,reduceCtorEq,Nat.reduceAdd,Nat.reduceSub,Nat.reduceMul,Nat.reduceLeDiff,Nat.reduceLT,Int.reduceLE,Int.reduceToNat,Int.reduceNeg,↓reduceIte]
    .simp only[dO,DS,dE];first|exact eN|refine eM ?_
    first|exact eN|refine eM ?_
   .have z:(CC h w f a i).2.2.2∉(CC h w f a i).1:=by
     have r:(BO T3 .bool (CC h w f a i).2.2.2 (J6 (CC h w f a i).1)).getD false=false:=by assumption
     rw[v]at r;intro y;have:=ACn.1 r _ y;simp at this
    have g:MY h w f la (CC h w f a i)=some ([],13):=(As (by assumption)).trans ((As z).trans (As (by assumption)));refine Ev.ent (σ':=⟨[],dO h w f { L with state:=.busy } o la (CC h w f a i) (CC h w f a i).2.2.2 (.raw (.slice none 0 0)) 13⟩) ?_ (AC [(50,.nm 50),(51,.nm 51),(52,.nm 52),(101,.nm 101),(102,.nm 102),(6,.nm 6),(7,.nm 7),(8,.nm 8),(4,.nm 4),(11,.nm 11),(60,.nm 60),(12,.nm 12),(13,.nm 13),(24,.nm 24)] rfl rfl ?_ ?_)
    .refine Lq c (yn:=101) rfl rfl sc j ⟨false,rfl,.inr (.inl ⟨13,g,rfl,?_⟩)⟩;simp only[dO,DS,dE,GV,go_sem,Nat.reduceEqDiff,reduceCtorEq,Nat.reduceAdd,Nat.reduceSub,Nat.reduceMul,Nat.reduceLeDiff,Nat.reduceLT,Int.reduceLE,Int.reduceToNat,Int.reduceNeg,↓reduceIte]
    .simp only[dO,DS,dE];first|exact eN|refine eM ?_
    first|exact eN|refine eM ?_
   .refine⟨⟨k,A⟩,?_⟩;have:=k.1;simp only[AO];omega
   have z:(CC h w f a i).2.2.2∉(CC h w f a i).1:=by
    have r:(BO T3 .bool (CC h w f a i).2.2.2 (J6 (CC h w f a i).1)).getD false=false:=by assumption
    rw[v]at r;intro y;have:=ACn.1 r _ y;simp at this
   have hk:K0 h w (Aq f (CC h w f a i).2.2.2)=2:=by simpa using d
   have g:MY h w f la (CC h w f a i)=none:=(As (by assumption)).trans ((As z).trans (At hk));have X:(CC h w f a (i+1)).2.1=(CC h w f a i).2.1++[Br (Aq f (CC h w f a i).2.2.2).2 w.first]:=At hk;refine Ev.ent (σ':=⟨[],dO h w f { L with state:=.busy } o la (CC h w f a (i+1)) (CC h w f a i).2.2.2 (.raw (.slice none 0 0)) 0⟩) ?_ (AC [(50,.nm 50),(51,.nm 51),(52,.nm 52),(101,.nm 101),(102,.nm 102),(6,.nm 6),(7,.nm 7),(8,.nm 8),(4,.nm 4),(11,.nm 11),(60,.nm 60),(12,.nm 12),(13,.nm 13),(24,.nm 24)] rfl rfl ?_ ?_)
   .refine WA c (yn:=101) rfl rfl sc j ⟨true,rfl,.inr (.inr ⟨g,rfl,?_⟩)⟩;simp only[dO,DS,dE,go_sem,Nat.reduceEqDiff,reduceCtorEq,Nat.reduceAdd,Nat.reduceSub,Nat.reduceMul,Nat.reduceLeDiff,Nat.reduceLT,Int.reduceLE,Int.reduceToNat,Int.reduceNeg,↓reduceIte,bF B M]
   .simp only[dO,DS,dE,W,X];first|exact eN|refine eM ?_
   first|exact eN|refine eM ?_
  .simp only[BX,dO,DS,dE,CC];first|exact eN|refine eM ?_
  .simp only[BX,dO,DS,dE,CC];first|exact eN|refine eM ?_
   rfl
  rintro _ _ ⟨rfl,i,hi,R⟩;rcases R with ⟨g,-,rfl⟩|⟨e,g,-,rfl⟩|⟨g,q,rfl⟩
  .have s:=XG k t u hi g;refine⟨[(50,.nm 50),(51,.nm 51),(52,.nm 52),(101,.nm 101),(102,.nm 102),(6,.nm 6),(7,.nm 7),(8,.nm 8),(4,.nm 4),(11,.nm 11),(60,.nm 60),(12,.nm 12),(13,.nm 13),(24,.nm 24)],dO h w f (GV L) o la (CC h w f a i) (CC h w f a i).2.2.2 (.sr 60 T3 0 (CC h w f a i).2.1.length) 0,GV L,rfl,rfl,?_,rfl,rfl,rfl,rfl,?_⟩
   .simp only[dO,DS,dE];first|exact eN|refine eM ?_
   intro b;simp only[GV,EvJ,dO,DS,dE,BX,go_sem,Nat.reduceEqDiff,reduceCtorEq,Nat.reduceAdd,Nat.reduceSub,Nat.reduceMul,Nat.reduceLeDiff,Nat.reduceLT,Int.reduceLE,Int.reduceToNat,Int.reduceNeg,↓reduceIte];replace c:=Pe (dn:=103) (b:=b) c;refine C8 [60] ?_;repeat'(first|exact trivial|apply eS rfl|apply AB|refine rX c ?_ ?_|refine rC ?_ ?_<;>intro d<;>try(cases d;done))
   refine Ev.ent (σ':=⟨[(6,.bp 6 [] 0),(7,.bp 7 [] 0)],[(6,.box 101 false [.p CH (CC h w f a i).2.1]),(7,.box 35 false [.p DD 0]),(103,.dfr)]⟩) ?_ (AC [(6,.nm 6),(7,.nm 7),(103,.nm 103)] rfl rfl ?_ ?_)
   .rw[s];exact TN c [.cell 6 101,.cell 7 35] rfl (.inl rfl) rfl rfl (.tup [.p CH (CC h w f a i).2.1,.p DD 0]) eT rfl
   .first|exact eN|refine eM ?_
   first|exact eN|refine eM ?_
  .have s:=XG k t u hi g;refine⟨[(50,.nm 50),(51,.nm 51),(52,.nm 52),(101,.nm 101),(102,.nm 102),(6,.nm 6),(7,.nm 7),(8,.nm 8),(4,.nm 4),(11,.nm 11),(60,.nm 60),(12,.nm 12),(13,.nm 13),(24,.nm 24)],dO h w f (GV L) o la (CC h w f a i) (CC h w f a i).2.2.2 (.raw (.slice none 0 0)) e,GV L,rfl,rfl,?_,rfl,rfl,rfl,rfl,?_⟩
   .simp only[dO,DS,dE];first|exact eN|refine eM ?_
   intro b;simp only[GV,EvJ,dO,DS,dE,BX,go_sem,Nat.reduceEqDiff,reduceCtorEq,Nat.reduceAdd,Nat.reduceSub,Nat.reduceMul,Nat.reduceLeDiff,Nat.reduceLT,Int.reduceLE,Int.reduceToNat,Int.reduceNeg,↓reduceIte];replace c:=Pe (dn:=103) (b:=b) c;repeat'(first|exact trivial|apply eS rfl|apply AB|refine rX c ?_ ?_|refine rC ?_ ?_<;>intro d<;>try(cases d;done))
   refine Ev.ent (σ':=⟨[(6,.bp 6 [] 0),(7,.bp 7 [] 0)],[(6,.box 101 false [.p CH []]),(7,.box 35 false [.p DD e]),(103,.dfr)]⟩) ?_ (AC [(6,.nm 6),(7,.nm 7),(103,.nm 103)] rfl rfl ?_ ?_)
   .rw[s];exact TN c [.cell 6 101,.cell 7 35] rfl (.inl rfl) rfl rfl (.tup [.p CH [],.p DD e]) eT rfl
   .first|exact eN|refine eM ?_
   first|exact eN|refine eM ?_
  cases q
 .simp only[DS];first|exact eN|refine eM ?_
 first|exact eN|refine eM ?_
end
section
attribute [local go_sem] Uy iV Ym Yn Uz yS JW IJ
def LR:AX:={ ins:=[GL,MM,T3],pre:=λ(h,f,n,_)=>Aa f/\DP h f/\(0:Int)<=n/\n<(List.length f:Int),out:=λ(h,f,n,_)=>[.p CH (BH h f n).1,.p DD (BH h f n).2] }
attribute [local go_sem] LR
theorem cL:Ac Tryz.prog 130 LR:=by
 refine VW ⟨_,Tryz.func130,by kernel_rfl,by kernel_rfl⟩ (λds e=>?_) (λds r a=>?_)
 .obtain⟨h,f,n,u⟩:=ds;obtain⟨h1,b,c,d⟩:=e;refine⟨[.p GL h,.p MM f,.p T3 n],λw O t g=>?_,iX h f n h1 b c d⟩;obtain⟨v1,o,rfl,i,l,q,rfl,j,m,s,rfl,k,rfl⟩:=g;exact⟨v1,_,rfl,TT i,l,_,rfl,TT j,m,_,rfl,TT k,rfl⟩
 simp only[LR,BY,ABq,ACB]at a;rcases a with rfl|rfl
 .exact⟨_,_,rfl⟩
 exact⟨_,_,rfl⟩
end
section
attribute [local go_sem] cJ WH KD KB MQ JW IJ M6
def RZ (h:AE) (f:List AD):Prop:=∀x∈f,∀a∈x.2,0<=a.1/\a.1<(h.2.length:Int)
def yT (h:AE) (a:Int×Int):ByteArray:=(h.2.getD a.1.toNat (ByteArray.empty,0)).1
def nmN (h:AE) (f:List AD) (n:Int):ByteArray:=(h.1.getD (Aq f n).1.toNat Qv).1
theorem U0 (a:Aa f) (n:Int) (s:ByteArray) (h0:0<f.length):Cl h f n s<(f.length:Int):=by
 unfold Cl;split
 .exact Oo O1 _ λx b=>(Oq a n.toNat x b).2
 omega
end
section
attribute [local go_sem] LR
theorem XH {h:AE} {w:LW} {f:List AD} {la:Int} (hf:Aa f):∀(k:Nat) (c out:List Int) (n:Int),(∀x∈out,0<=x/\x<(f.length:Int))->(∀x∈(FK h w f la k c out n).1,0<=x/\x<(f.length:Int))/\(FK h w f la k c out n).1.length<=out.length+k/\((FK h w f la k c out n).2≠0->(FK h w f la k c out n).1=[])
 | 0,_,_,_,_=>⟨λx b=>(by cases b),Do _,λ_=>rfl⟩
 | k+1,c,out,n,i=>by
  have d:∀e:Int,(∀x∈(([],e):List Int×Int).1,0<=x/\x<(f.length:Int))/\(([],e):List Int×Int).1.length<=out.length+(k+1)/\((([],e):List Int×Int).2≠0->(([],e):List Int×Int).1=[]):=λe=>⟨λx b=>(by cases b),Do _,λ_=>rfl⟩;rw[FK];cases a:cK h w f la c out n with
  | some r =>
   unfold cK at a;simp only;split at a
   .cases a;split
    .exact⟨i,Nat.le_add_right _ _,λq=>absurd rfl q⟩
    exact d 13
   split at a
   .cases a;exact d 6
   split at a
   .cases a
   cases a;exact d 13
  | none =>
   have hk:=(Iv a).2.2;have l:0<=Br (Aq f n).2 w.first/\Br (Aq f n).2 w.first<(f.length:Int):=by
    have j:=(Wr hk).1;have m:f.length≠0:=by
     intro q;have:f=[]:=List.length_eq_zero_iff.1 q;subst this;simp[Br,Aq]at j
    exact⟨j,Oo O1 _ λx b=>(Oq hf n.toNat x b).2⟩
   have g:=XH (h:=h) (w:=w) (la:=la) hf k (c++[n]) (out++[Br (Aq f n).2 w.first]) (Br (Aq f n).2 w.rest) (λx b=>by
    rcases IS.1 b with q|q
    .exact i x q
    rw[oF.1 q];exact l)
   refine⟨g.1,?_,g.2.2⟩;have:=g.2.1;rw[If,nO]at this;simp only;omega
theorem Q9 (hf:Aa f) (n:Int):((∀x∈(BH h f n).1,0<=x/\x<(f.length:Int))/\(BH h f n).1.length<=200000)/\((BH h f n).2≠0->(BH h f n).1=[]):=by
 unfold BH;split
 .split
  .exact⟨⟨λx a=>(by cases a),Do _⟩,λ_=>rfl⟩
  have:=XH (h:=h) (w:=D0 h) (la:=Br (Aq f n).2 (D0 h).last) hf (f.length+1) [] [] (Br (Aq f n).2 (D0 h).head) (λx a=>by cases a);have b:=hf.1;refine⟨⟨this.1,?_⟩,this.2.2⟩;have:=this.2.1;simp only[AAd]at this;omega
 exact⟨⟨λx a=>(by cases a),Do _⟩,λ_=>rfl⟩
end
section
attribute [local go_sem] cJ Po KD KB MQ JW IJ M6
theorem PA {a b:ByteArray} (h:AL a b=true):a=b:=by
 have h:=Fh.1 h;rw[ByteArray.toList_eq,ByteArray.toList_eq]at h;exact ABa ByteArray.mk (Array.toList_inj.1 h)
def zM:Cv:=(0,0,[],[],[])
end
section
attribute [local go_sem] Ou MT KD KB MQ JW IJ M6
def yU (h:AE):Prop:=0<=Ap h ⟨#[104,97,110,100,108,101]⟩/\0<=Ap h ⟨#[101,118,101,110,116]⟩/\0<=Ap h ⟨#[101,110,116,105,116,121]⟩/\0<=Ap h ⟨#[105,110,100,101,120]⟩
def II:List (ByteArray×ByteArray):=[(⟨#[104]⟩,⟨#[104,97,110,100,108,101]⟩),(⟨#[101]⟩,⟨#[101,118,101,110,116]⟩),(⟨#[120]⟩,⟨#[101,110,116,105,116,121]⟩),(⟨#[105]⟩,⟨#[105,110,100,101,120]⟩)]
def iY (h:AE) (t:Int) (i:Nat):Option ByteArray:=if Ad h (Ap h (II.getD i (ByteArray.empty,ByteArray.empty)).2) t=true then some (II.getD i (ByteArray.empty,ByteArray.empty)).1 else none
theorem yV (hs:yU h) (t:Int):BD (iY h t) ⟨#[]⟩ 4 0=B3 h t:=by
 obtain⟨h1,e,f,g⟩:=hs;have a:iY h t 0=if QC h ⟨#[104,97,110,100,108,101]⟩ t=true then some ⟨#[104]⟩ else none:=by unfold QC;rw[ABf h1];rfl
 have b:iY h t 1=if QC h ⟨#[101,118,101,110,116]⟩ t=true then some ⟨#[101]⟩ else none:=by unfold QC;rw[ABf e];rfl
 have c:iY h t 2=if QC h ⟨#[101,110,116,105,116,121]⟩ t=true then some ⟨#[120]⟩ else none:=by unfold QC;rw[ABf f];rfl
 have d:iY h t 3=if QC h ⟨#[105,110,100,101,120]⟩ t=true then some ⟨#[105]⟩ else none:=by unfold QC;rw[ABf g];rfl
 simp only[BD,B3,a,b,c,d,AAG,Nat.reduceAdd];split<;>rename_i q
 .split at q<;>cases q;rename_i q;rw[At q]
 split at q<;>cases q;rename_i q;rw[As q];split<;>rename_i q
 .split at q<;>cases q;rename_i q;rw[At q]
 split at q<;>cases q;rename_i q;rw[As q];split<;>rename_i q
 .split at q<;>cases q;rename_i q;rw[At q]
 split at q<;>cases q;rename_i q;rw[As q];split<;>rename_i q
 .split at q<;>cases q;rename_i q;rw[At q]
 split at q<;>cases q;rename_i q;rw[As q]
theorem A7B (hs:yU h) {i:Nat} (hi:i<4):0<=Ap h (II.getD i (ByteArray.empty,ByteArray.empty)).2:=by
 obtain⟨h1,a,b,c⟩:=hs;match i,hi with
 | 0,_=>exact h1
 | 1,_=>exact a
 | 2,_=>exact b
 | 3,_=>exact c
def U1:AX:={ ins:=[GL,T3],pre:=λ(h,t,_)=>yU h/\(0:Int)<=t/\t<(List.length (h:AE).1:Int),out:=λ(h,t,_)=>[.p T9 (B3 h t)],lend:=true }
theorem U2:Ac Tryz.prog 11 U1:=by
 refine fK [0,1,2,4,6,7,8,9,10,19] Tryz.func11 Tryz.ntmps11 (AF Ov (AF OZ AI)) ?_;rintro w0 O0 ⟨h,t,u⟩ a-⟨hs,h0,h1⟩;have hs:yU h:=hs;have h0:0<=t:=h0;have h1:t<(h.1.length:Int):=h1;have d:(h.1,h.2)=h:=rfl;simp only[U1,AM];repeat'(first|exact trivial|apply eS rfl|apply AB|refine rP a ?_ ?_|fail)
 refine cP 0 a ?_ ?_
 .trivial
 refine A64 a ?_;refine rL a ?_ ?_
 .trivial
 repeat'(first|exact trivial|apply eS rfl|apply AB|refine rP a ?_ ?_|fail)
 rw[<-yV hs t];generalize e:BD (iY h t) ⟨#[]⟩ 4 0=S;refine AJ (ι:={i:Nat//i<=4/\BD (iY h t) ⟨#[]⟩ (4-i) i=S}) (λi=>⟨[(1,.p T3 t),(2,.bp 2 [] 0),(7,.p T71 II),(8,.p (.int .i64) 4),(9,.p (.int .i64) (i.1:Int))],[(2,.box 26 true [.p Zu h.1,.p fB h.2])]⟩) (λi=>4-i.1) ⟨0,Do _,e⟩ (AC [(2,.nm 2)] rfl rfl ?_ ?_) (λi=>?_)
 .first|exact eN|refine eM ?_
 .first|exact eN|refine eM ?_
  exact⟨rfl,rfl⟩
 obtain⟨i,hi,c⟩:=i;simp only;repeat'(first|exact trivial|apply eS rfl|apply AB|refine rX a ?_ ?_|refine rC ?_ ?_<;>intro b<;>try(cases b;done))
 all_goals have d:(h.1,h.2)=h:=rfl
 all_goals try simp only[d]at *
 .exact b
 .exact⟨⟨A7B hs O1,Fy h _⟩,h0,h1⟩
 .rw[Ce c O1 (At b)];exact fI a [.tmp 4]
 .omega
 .refine⟨⟨i+1,by omega,DN c O1 (As (by rw[b];simp))⟩,by simp only;omega,AC [(2,.nm 2)] rfl rfl ?_ ?_⟩
  .first|exact eN|refine eM ?_
  first|exact eN|refine eM ?_
 rw[EA c O1];exact fI a [.tmp 4]
end
section
attribute [local go_sem] kH kI A0T KD KB MQ JW IJ M6
def yW:AX:={ ins:=[Ty.int .i32],pre:=λ_=>True,out:=λ(c,_)=>[.p .bool (B9 97 122 c)] }
attribute [local go_sem] yW
theorem A27:Ac Tryz.prog 197 yW:=by
 refine fK [0,2] Tryz.func197 Tryz.ntmps197 AI ?_;rintro w0 O0 ⟨c,u⟩ a - -;simp only[yW,AM];repeat'(first|exact trivial|apply eS rfl|apply AB|refine rX a ?_ ?_|refine rC ?_ ?_<;>intro b<;>try(cases b;done))
 exact fI a [.tmp 2] (by unfold B9;exact eR)
def yX:AX:={ ins:=[Ty.int .i32],pre:=λ_=>True,out:=λ(c,_)=>[.p .bool (B9 48 57 c)] }
attribute [local go_sem] yX
theorem A28:Ac Tryz.prog 211 yX:=by
 refine fK [0,2] Tryz.func211 Tryz.ntmps211 AI ?_;rintro w0 O0 ⟨c,u⟩ a - -;simp only[yX,AM];repeat'(first|exact trivial|apply eS rfl|apply AB|refine rX a ?_ ?_|refine rC ?_ ?_<;>intro b<;>try(cases b;done))
 exact fI a [.tmp 2] (by unfold B9;exact eR)
def flB (s:ByteArray) (i:Nat):Bool:=B9 97 122 (MO s i)||(decide (i≠0)&&(B9 48 57 (MO s i)||MO s i==45))
theorem U3 (s:ByteArray):BJ s false=(decide (1<=s.size/\s.size<=32)&&(List.range s.size).all (flB s)):=by
 rw[ABm];simp only[BJ,M0,AT,aT,AAa,TO,IN,No,oN];constructor
 .rintro⟨⟨⟨⟨h1,c⟩,d⟩,e⟩,a⟩;refine⟨⟨by omega,by omega⟩,λi hi=>?_⟩;have:=a i hi;unfold Mz at this;unfold flB;by_cases h0:i=0
  .subst h0;rw[d,e]at this;simpa using this
  simp only[Bool.false_and,ABN,ABV,AC4,qY]at this;simp only[ne_eq,h0,ACl,decide_true,AC4,qY];rcases this with (h|h)|h
  .exact .inr (.inl h)
  .exact .inr (.inr h)
  exact .inl h
 rintro⟨⟨h1,c⟩,a⟩;have h0:=a 0 O1;simp only[flB,ne_eq,ABv,decide_false,Bool.false_and,ABN]at h0;have b:=h0;simp only[B9,AT,IN]at b;refine⟨⟨⟨⟨by omega,by omega⟩,?_⟩,?_⟩,λi hi=>?_⟩
 .simp only[B9,AAI,TO];right;omega
 .simp only[AAP];omega
 have:=a i hi;unfold flB at this;unfold Mz;simp only[Bool.false_and,ABN,ABV,AC4,qY];simp only[qY,AT]at this;rcases this with h|⟨-,h|h⟩
 .exact .inr h
 .exact .inl (.inl h)
 exact .inl (.inr h)
theorem A2a (s:ByteArray) (p:Nat) (h:p<s.size):MO s p=((s[p]'h).toNat:Int):=by
 have a:p<s.data.size:=h;show ((s.data.getD p 0).toNat:Int)=_;simp only[Array.getD_eq_getD_getElem?,AAg a,ABZ];rfl
theorem A2b {p:Nat} (h:p<s.size) {q:Nat} {r:Int} (h1:(s[p]'h).toNat<128->q=p+1/\r=((s[p]'h).toNat:Int)) (b:128<=(s[p]'h).toNat->128<=r) :
  (B9 97 122 r||(decide (p≠0)&&(B9 48 57 r||r==45)))=flB s p/\(flB s p=true->q=p+1):=by
 unfold flB;rw[A2a s p h];by_cases c:(s[p]'h).toNat<128
 .obtain⟨d,a⟩:=h1 c;rw[a];exact⟨rfl,λ_=>d⟩
 have a:=b O1;have f:∀x:Int,128<=x->(B9 97 122 x||(decide (p≠0)&&(B9 48 57 x||x==45)))=false:=by
  intro x e;simp only[B9,AAa,AAI,TO,AAP];exact⟨.inr O1,.inr ⟨.inr O1,by omega⟩⟩
 rw[f r a,f _ O1];exact⟨rfl,λh=>by cases h⟩
theorem iZ (s:ByteArray):A7 Tryz.prog 196 [.p T9 s,.fn 197] [] [] (λres _=>res=.p .bool (BJ s false)):=by
 refine JP [0,1,4,5,6,14,16,17,18,37] [] [] Tryz.func196 Tryz.ntmps196 (AF A27 (AF A28 AI)) ?_;intro w0 K O0 ρ0 a n t;have o:s.size<=AO:=n.1;simp only[Am];repeat'(first|exact trivial|apply eS rfl|apply AB|refine rX a ?_ ?_|refine rC ?_ ?_<;>intro b<;>try(cases b;done))
 .have hf:BJ s false=false:=by
   rw[U3,AAI];exact .inl (decide_eq_false O1)
  exact fM a [.tmp 4] (.p .bool false) eT (by rw[hf])
 refine cP 1 a ?_ ?_
 .trivial
 refine A7p a (by kernel_rfl) ?_;refine Fu ?_;repeat'(first|exact trivial|apply eS rfl|apply AB|refine rP a ?_ ?_|fail)
 refine AJ (ι:={p:Nat//p<=s.size/\∀i,i<p->flB s i=true}) (λp=>⟨[(0,.p T9 s),(1,.fn 197),(16,.bp 16 [] 0)],[(16,.sit s p.1)]⟩) (λp=>s.size-p.1) ⟨0,Do _,λ_ h=>by omega⟩ (AC [(16,.nm 16)] rfl rfl ?_ ?_) (λp=>?_)
 .first|exact eN|refine eM ?_
 .first|exact eN|refine eM ?_
 obtain⟨p,u,f⟩:=p;simp only;repeat'(first|exact trivial|apply eS rfl|apply AB|refine rP a ?_ ?_|fail)
 refine cP 0 a ?_ ?_
 .trivial
 refine A7q a o (λh=>?_) (λh q r x h1 j hi=>?_)
 .refine rL a ?_ ?_
  .trivial
  repeat'(first|exact trivial|apply eS rfl|apply AB|refine rX a ?_ ?_|refine rC ?_ ?_<;>intro b<;>try(cases b;done))
  have w:p=s.size:=by omega
  have hf:BJ s false=true:=by
   rw[U3,AT];exact⟨ABf O1,No.2 λi hi=>f i (by rw[oN]at hi;omega)⟩
  exact fM a [.tmp 4] (.p .bool true) eT (by rw[hf])
 have d:=A2b h h1 j;refine rL a ?_ ?_
 .trivial
 repeat'(first|exact trivial|apply eS rfl|apply AB|refine rX a ?_ ?_|refine rC ?_ ?_<;>intro b<;>try(cases b;done))
 .have hf:BJ s false=false:=by
   rw[U3,AAI];refine .inr (ABn.2 λl=>?_);have:=No.1 l p (oN.2 h);rw[<-d.1]at this;simp only[qY,AT,IN,AA3]at this;rcases b with ⟨ha,c⟩
   rw[ha]at this;rcases this with h|⟨v,h⟩
   .cases h
   rcases c with e|⟨e,g⟩
   .omega
   rw[e]at h;rcases h with h|h
   .cases h
   exact g h
  exact fM a [.tmp 4] (.p .bool false) eT (by rw[hf])
 have hf:flB s p=true:=by
  rw[<-d.1];simp only[qY,AT,IN,AA3];cases ha:B9 97 122 r
  .obtain⟨h0,k⟩:=b ha;refine .inr ⟨by omega,?_⟩;cases c:B9 48 57 r
   .have:=k c;exact .inr (by simpa using this)
   exact .inl rfl
  exact .inl rfl
 obtain rfl:=d.2 hf;refine⟨⟨p+1,by omega,λi hi=>?_⟩,by simp only;omega,AC [(16,.nm 16)] rfl rfl ?_ ?_⟩
 .by_cases m:i=p
  .rw[m];exact hf
  exact f i O1
 .first|exact eN|refine eM ?_
 first|exact eN|refine eM ?_
def Yp:AX:={ ins:=[T9],pre:=λ_=>True,out:=λ(s,_)=>[.p .bool (BJ s false)] }
attribute [local go_sem] Yp
theorem yY:Ac Tryz.prog 186 Yp:=by
 refine fK [0,2] Tryz.func186 Tryz.ntmps186 AI ?_;rintro w0 O0 ⟨s,u⟩ a - -;simp only[Yp,AM];repeat'(first|exact trivial|apply eS rfl|apply AB|refine rX a ?_ ?_|refine rC ?_ ?_<;>intro b<;>try(cases b;done))
 refine cP 1 a ?_ ?_
 .trivial
 refine rM a (iZ s) [] [] ?_ ?_ ?_
 .exact eN
 .exact eN
 rintro _ _ rfl;refine⟨[],.p .bool (BJ s false),[],rfl,rfl,?_,?_,rfl,rfl,?_⟩
 .exact eN
 .exact eN
 refine rL a ?_ ?_
 .trivial
 repeat'(first|exact trivial|apply eS rfl|apply AB|refine rX a ?_ ?_|refine rC ?_ ?_<;>intro b<;>try(cases b;done))
 exact fI a [.tmp 2]
end
section
attribute [local go_sem] nmS U1 Ou MT Yp KD KB MQ JW IJ M6
theorem HW (h:(match P.underlying t with|some (.struct _)=>true|_=>false)=true):∃fs,P.underlying t=some (.struct fs):=by
 cases e:P.underlying t with
 | none=>rw[e]at h;cases h
 | some u =>
  rw[e]at h;cases u<;>first|exact⟨_,rfl⟩|cases h
theorem mD {nm:String} {f:FuncId} (hs:∃fs,P.underlying t=some (.struct fs))
  (h:(match P.info? t with|some i=>(match i.methods.find? (·.name==nm) with|some m=>m.path.toList.isEmpty&&(m.func==some (f,false))|none=>false)|none=>false)=true) (w:World) (v:Value) :
  (method (P.types.size+Made.depth) t v nm).run P w=.ok (f,v) w:=by
 obtain⟨fs,hs⟩:=hs;cases hi:P.info? t with
 | none=>rw[hi]at h;cases h
 | some i =>
  rw[hi]at h;simp only at h;cases a:i.methods.find? (·.name==nm) with
  | none=>rw[a]at h;cases h
  | some m =>
   rw[a]at h;simp only[AT,List.isEmpty_iff,AA3]at h;obtain⟨h1,b⟩:=h;have hk:P.types.size+Made.depth=(P.types.size+(Made.depth-1))+1:=rfl;rw[hk];have c:(typeInfo t).run P w=.ok i w:=by simp[typeInfo,Sem.run,program,hi]
   simp[method,c,a,h1,b,follow,receiverAt,aS hs,Place.get]
theorem yZ:Ac Tryz.prog 234 nmS:=by
 refine fK [0,1,2] Tryz.func234 Tryz.ntmps234 AI ?_;rintro w0 O0 ⟨s,u⟩ a - -;simp only[nmS,AM];repeat'(first|exact trivial|apply eS rfl|apply AB|refine rX a ?_ ?_|refine rC ?_ ?_<;>intro b<;>try(cases b;done))
 exact fI a [.tmp 2]
theorem y3:Ac Tryz.prog 235 nmS:=by
 refine fK [0,1,2] Tryz.func235 Tryz.ntmps235 AI ?_;rintro w0 O0 ⟨s,u⟩ a - -;simp only[nmS,AM];repeat'(first|exact trivial|apply eS rfl|apply AB|refine rX a ?_ ?_|refine rC ?_ ?_<;>intro b<;>try(cases b;done))
 exact fI a [.tmp 2]
def rD (h:AE):Prop:=yU h/\0<=Ap h ⟨#[114,101,108]⟩/\0<=Ap h ⟨#[113,101,113]⟩
def Ra (h:AE) (f:List AD) (n:Int):List PH:=if AL (B3 h (Aq f n).1) ⟨#[]⟩=false then [some (241,some (B3 h (Aq f n).1))] else []
def U4 (h:AE) (f:List AD) (n:Int):Bool:=Ad h (Ap h ⟨#[114,101,108]⟩) (Aq f n).1&&BJ (nmN h f n) false
def Rb (h:AE) (f:List AD) (n:Int):List PH:=if U4 h f n=true then [some (244,some (nmN h f n))] else []
def Rc (h:AE) (f:List AD) (n:Int):List PH:=if Ad h (Ap h ⟨#[113,101,113]⟩) (Aq f n).1=true then [some (246,none)] else []
def GF (h:AE) (f:List AD) (n:Int):List PH:=Ra h f n++Rb h f n++Rc h f n
def Et (h:AE) (f:List AD) (a b:Int) (e:List (Int×Int)) (d:List ByteArray) (c:List HZ) (qs:List RP):List (Nat×Obj) :=
  [(1,.box 81 true [.p GL h,.p MM f,.mp 2,.ag [.p T3 a,.p T3 b,.sr 3 T9 0 d.length,.sr 4 T54 0 c.length,.sr 5 T93 0 qs.length]]),
   (2,.mapo T3 T3 e),(3,.arr 9 T9 d),(4,.arr 54 T54 c),(5,.arr 93 T93 qs)]
theorem PB (q:Ad h (Ap h ⟨#[114,101,108]⟩) (Aq f n).1=true/\BJ (nmN h f n) false=true):U4 h f n=true:=by
 unfold U4;rw[q.1,q.2];rfl
theorem PC (q:Ad h (Ap h ⟨#[114,101,108]⟩) (Aq f n).1=true->BJ (nmN h f n) false=false):¬U4 h f n=true:=by
 unfold U4;rw[AT];rintro⟨a,b⟩;rw[q a]at b;cases b
theorem y4 (hs:rD h) (o:DP h f) (h0:0<=n) (h1:n<(f.length:Int)) (a b:Int) (l:List (Int×Int)) (m:List ByteArray) (k:List HZ) (qs:List RP) :
  A7 Tryz.prog 167 [.bp 1 [] 0,.p T3 n] (Et h f a b l m k qs) [1,2]
  (λres q=>res=.p Pg (GF h f n)/\q=Et h f a b l m k qs):=by
 refine JP [0,1,4,5,6,7,8,25,55,72] [30,60,76] [] Tryz.func167 Tryz.ntmps167 (AF U2 (AF Ov (AF OZ (AF yY AI)))) ?_;intro w0 K O0 ρ0 c r s;simp only[Am,Et];have j:0<=(f.getD n.toNat (0,[])).1/\(f.getD n.toNat (0,[])).1<(h.1.length:Int):=o _ (AG f (0,[]) (LJ ⟨h0,h1⟩));repeat'(first|exact trivial|apply eS rfl|apply AB|refine rX c ?_ ?_|refine rC ?_ ?_<;>intro d<;>try(cases d;done))
 .exact⟨h0,h1⟩
 .exact⟨hs.1,j⟩
 .refine cP 3 c ?_ ?_
  .trivial
  refine A3Y c (HW (by kernel_rfl)) ?_;refine rL c ?_ ?_
  .trivial
  repeat'(first|exact trivial|apply eS rfl|apply AB|refine rX c ?_ ?_|refine rC ?_ ?_<;>intro d<;>try(cases d;done))
  .exact j
  .exact⟨⟨hs.2.1,Fy h _⟩,j⟩
  .refine cP 3 c ?_ ?_
   .trivial
   refine A3Y c (HW (by kernel_rfl)) ?_;refine rL c ?_ ?_
   .trivial
   repeat'(first|exact trivial|apply eS rfl|apply AB|refine rX c ?_ ?_|refine rC ?_ ?_<;>intro d<;>try(cases d;done))
   .exact⟨⟨hs.2.2,Fy h _⟩,j⟩
   .refine cP 1 c ?_ ?_
    .trivial
    refine A0R c (HW (by kernel_rfl)) (λw=>run_build w _ #[] #[] (by kernel_rfl)) dg ?_;refine rL c ?_ ?_
    .trivial
    repeat'(first|exact trivial|apply eS rfl|apply AB|refine rX c ?_ ?_|refine rC ?_ ?_<;>intro d<;>try(cases d;done))
    rename_i g i;have e:GF h f n=[some (241,some (B3 h (f.getD n.toNat (0,[])).1)),some (244,some (List.getD h.1 (Int.toNat (f.getD n.toNat (0,[])).1) (ByteArray.empty,[],[],[])).1),some (246,none)]:=by
     unfold GF Ra Rb Rc;rw[At (show AL (B3 h (Aq f n).1) ⟨#[]⟩=false from g),At (PB i),At (show Ad h (Ap h ⟨#[113,101,113]⟩) (Aq f n).1=true from d)];rfl
    refine C8 [31] ?_;exact fM c [.tmp 4] (.p Pg [some (241,some (B3 h (f.getD n.toNat (0,[])).1)),some (244,some (List.getD h.1 (Int.toNat (f.getD n.toNat (0,[])).1) (ByteArray.empty,[],[],[])).1),some (246,none)]) eT ⟨by rw[e],rfl⟩
   skip
   rename_i g i;have e:GF h f n=[some (241,some (B3 h (f.getD n.toNat (0,[])).1)),some (244,some (List.getD h.1 (Int.toNat (f.getD n.toNat (0,[])).1) (ByteArray.empty,[],[],[])).1)]:=by
    unfold GF Ra Rb Rc;rw[At (show AL (B3 h (Aq f n).1) ⟨#[]⟩=false from g),At (PB i),As (show ¬Ad h (Ap h ⟨#[113,101,113]⟩) (Aq f n).1=true by rw[show Ad h (Ap h ⟨#[113,101,113]⟩) (Aq f n).1=false from d];simp)];rfl
   refine C8 [31] ?_;exact fM c [.tmp 4] (.p Pg [some (241,some (B3 h (f.getD n.toNat (0,[])).1)),some (244,some (List.getD h.1 (Int.toNat (f.getD n.toNat (0,[])).1) (ByteArray.empty,[],[],[])).1)]) eT ⟨by rw[e],rfl⟩
  .exact⟨⟨hs.2.2,Fy h _⟩,j⟩
  .refine cP 1 c ?_ ?_
   .trivial
   refine A0R c (HW (by kernel_rfl)) (λw=>run_build w _ #[] #[] (by kernel_rfl)) dg ?_;refine rL c ?_ ?_
   .trivial
   repeat'(first|exact trivial|apply eS rfl|apply AB|refine rX c ?_ ?_|refine rC ?_ ?_<;>intro d<;>try(cases d;done))
   rename_i g i;have e:GF h f n=[some (241,some (B3 h (f.getD n.toNat (0,[])).1)),some (246,none)]:=by
    unfold GF Ra Rb Rc;rw[At (show AL (B3 h (Aq f n).1) ⟨#[]⟩=false from g),As (PC i),At (show Ad h (Ap h ⟨#[113,101,113]⟩) (Aq f n).1=true from d)];rfl
   refine C8 [31] ?_;exact fM c [.tmp 4] (.p Pg [some (241,some (B3 h (f.getD n.toNat (0,[])).1)),some (246,none)]) eT ⟨by rw[e],rfl⟩
  skip
  rename_i g i;have e:GF h f n=[some (241,some (B3 h (f.getD n.toNat (0,[])).1))]:=by
   unfold GF Ra Rb Rc;rw[At (show AL (B3 h (Aq f n).1) ⟨#[]⟩=false from g),As (PC i),As (show ¬Ad h (Ap h ⟨#[113,101,113]⟩) (Aq f n).1=true by rw[show Ad h (Ap h ⟨#[113,101,113]⟩) (Aq f n).1=false from d];simp)];rfl
  refine C8 [31] ?_;exact fM c [.tmp 4] (.p Pg [some (241,some (B3 h (f.getD n.toNat (0,[])).1))]) eT ⟨by rw[e],rfl⟩
 .exact j
 .exact⟨⟨hs.2.1,Fy h _⟩,j⟩
 .refine cP 3 c ?_ ?_
  .trivial
  refine A3Y c (HW (by kernel_rfl)) ?_;refine rL c ?_ ?_
  .trivial
  repeat'(first|exact trivial|apply eS rfl|apply AB|refine rX c ?_ ?_|refine rC ?_ ?_<;>intro d<;>try(cases d;done))
  .exact⟨⟨hs.2.2,Fy h _⟩,j⟩
  .refine cP 1 c ?_ ?_
   .trivial
   refine A0R c (HW (by kernel_rfl)) (λw=>run_build w _ #[] #[] (by kernel_rfl)) dg ?_;refine rL c ?_ ?_
   .trivial
   repeat'(first|exact trivial|apply eS rfl|apply AB|refine rX c ?_ ?_|refine rC ?_ ?_<;>intro d<;>try(cases d;done))
   rename_i g i;have e:GF h f n=[some (244,some (List.getD h.1 (Int.toNat (f.getD n.toNat (0,[])).1) (ByteArray.empty,[],[],[])).1),some (246,none)]:=by
    unfold GF Ra Rb Rc;rw[As (show ¬AL (B3 h (Aq f n).1) ⟨#[]⟩=false by rw[show AL (B3 h (Aq f n).1) ⟨#[]⟩=true from g];simp),At (PB i),At (show Ad h (Ap h ⟨#[113,101,113]⟩) (Aq f n).1=true from d)];rfl
   refine C8 [61] ?_;exact fM c [.tmp 4] (.p Pg [some (244,some (List.getD h.1 (Int.toNat (f.getD n.toNat (0,[])).1) (ByteArray.empty,[],[],[])).1),some (246,none)]) eT ⟨by rw[e],rfl⟩
  skip
  rename_i g i;have e:GF h f n=[some (244,some (List.getD h.1 (Int.toNat (f.getD n.toNat (0,[])).1) (ByteArray.empty,[],[],[])).1)]:=by
   unfold GF Ra Rb Rc;rw[As (show ¬AL (B3 h (Aq f n).1) ⟨#[]⟩=false by rw[show AL (B3 h (Aq f n).1) ⟨#[]⟩=true from g];simp),At (PB i),As (show ¬Ad h (Ap h ⟨#[113,101,113]⟩) (Aq f n).1=true by rw[show Ad h (Ap h ⟨#[113,101,113]⟩) (Aq f n).1=false from d];simp)];rfl
  refine C8 [61] ?_;exact fM c [.tmp 4] (.p Pg [some (244,some (List.getD h.1 (Int.toNat (f.getD n.toNat (0,[])).1) (ByteArray.empty,[],[],[])).1)]) eT ⟨by rw[e],rfl⟩
 .exact⟨⟨hs.2.2,Fy h _⟩,j⟩
 .refine cP 1 c ?_ ?_
  .trivial
  refine A0R c (HW (by kernel_rfl)) (λw=>run_build w _ #[] #[] (by kernel_rfl)) dg ?_;refine rL c ?_ ?_
  .trivial
  repeat'(first|exact trivial|apply eS rfl|apply AB|refine rX c ?_ ?_|refine rC ?_ ?_<;>intro d<;>try(cases d;done))
  rename_i g i;have e:GF h f n=[some (246,none)]:=by
   unfold GF Ra Rb Rc;rw[As (show ¬AL (B3 h (Aq f n).1) ⟨#[]⟩=false by rw[show AL (B3 h (Aq f n).1) ⟨#[]⟩=true from g];simp),As (PC i),At (show Ad h (Ap h ⟨#[113,101,113]⟩) (Aq f n).1=true from d)];rfl
  refine C8 [77] ?_;exact fM c [.tmp 4] (.p Pg [some (246,none)]) eT ⟨by rw[e],rfl⟩
 skip
 rename_i g i;have e:GF h f n=[]:=by
  unfold GF Ra Rb Rc;rw[As (show ¬AL (B3 h (Aq f n).1) ⟨#[]⟩=false by rw[show AL (B3 h (Aq f n).1) ⟨#[]⟩=true from g];simp),As (PC i),As (show ¬Ad h (Ap h ⟨#[113,101,113]⟩) (Aq f n).1=true by rw[show Ad h (Ap h ⟨#[113,101,113]⟩) (Aq f n).1=false from d];simp)];rfl
 exact fM c [.tmp 4] (.p Pg []) eT ⟨by rw[e],rfl⟩
end
section
attribute [local go_sem] nmS Et KD KB MQ JW IJ M6
def GP (s:ByteArray×ByteArray×Bool):PH->ByteArray×ByteArray×Bool
 | some (t,some x)=>if t=241 then (x,s.2.1,s.2.2) else if t=244 then (s.1,x,s.2.2) else s
 | some (t,none)=>if t=246 then (s.1,s.2.1,true) else s
 | none=>s
def NU (h:AE) (f:List AD) (n:Int):ByteArray×ByteArray×Bool:=(B3 h (Aq f n).1,if U4 h f n=true then nmN h f n else ⟨#[]⟩,Ad h (Ap h ⟨#[113,101,113]⟩) (Aq f n).1)
theorem A2c (h:AE) (f:List AD) (n:Int):(GF h f n).foldl GP (⟨#[]⟩,⟨#[]⟩,false)=NU h f n:=by
 unfold GF Ra Rb Rc NU;cases a:AL (B3 h (Aq f n).1) ⟨#[]⟩<;>cases b:U4 h f n<;>cases c:Ad h (Ap h ⟨#[113,101,113]⟩) (Aq f n).1<;>simp[GP];all_goals exact(PA a).symm
theorem A2d {r:PH} (a:r∈GF h f n):(∃s,r=some (241,some s))\/(∃s,r=some (244,some s))\/r=some (246,none):=by
 unfold GF Ra Rb Rc at a;simp only[IS]at a;rcases a with (a|a)|a<;>split at a
 .exact .inl ⟨_,oF.1 a⟩
 .cases a
 .exact .inr (.inl ⟨_,oF.1 a⟩)
 .cases a
 .exact .inr (.inr (oF.1 a))
 cases a
theorem A2e (h:AE) (f:List AD) (n:Int):(GF h f n).length<=3:=by
 unfold GF Ra Rb Rc;simp only[If];split<;>split<;>split<;>simp
theorem mE (hs:rD h) (u:DP h f) (h0:0<=n) (h1:n<(f.length:Int)) (a b:Int) (k:List (Int×Int)) (l:List ByteArray) (g:List HZ) (qs:List RP) :
  A7 Tryz.prog 129 [.bp 1 [] 0,.p T3 n] (Et h f a b k l g qs) [1,2]
  (λres v=>res=.tup [.p T9 (NU h f n).1,.p T9 (NU h f n).2.1,.p .bool (NU h f n).2.2]/\v=Et h f a b k l g qs):=by
 refine JP [0,1,4,5,6,8,11,12,13,14,17,19,24,29] [] [] Tryz.func129 Tryz.ntmps129 AI ?_;intro w0 K O0 ρ0 c y z;simp only[Am,Et];repeat'(first|exact trivial|apply eS rfl|apply AB|refine rP c ?_ ?_|fail)
 refine cP 2 c ?_ ?_
 .trivial
 refine rM c (y4 hs u h0 h1 a b k l g qs) [(1,.nm 1),(2,.nm 2),(3,.nm 3),(4,.nm 4),(5,.nm 5)] [3,4,5] ?_ ?_ ?_
 .first|exact eN|refine eM ?_
 .first|exact eN|refine eM ?_
 rintro _ _ ⟨rfl,rfl⟩;refine⟨[(1,.nm 1),(2,.nm 2),(3,.nm 3),(4,.nm 4),(5,.nm 5)],.p Pg (GF h f n),Et h f a b k l g qs,rfl,rfl,?_,?_,rfl,rfl,?_⟩
 .first|exact eN|refine eM ?_
 .first|exact eN|refine eM ?_
 simp only[Et];refine rL c ?_ ?_
 .trivial
 repeat'(first|exact trivial|apply eS rfl|apply AB|refine rP c ?_ ?_|fail)
 have q:=λr (t:r∈GF h f n)=>A2d t;have o:=A2c h f n;have x:=A2e h f n;generalize GF h f n=L at *;refine AJ (ι:={i:Nat//i<=L.length}) (λi=>⟨[(0,.bp 1 [] 0),(4,.p T9 ((L.take i.1).foldl GP (⟨#[]⟩,⟨#[]⟩,false)).1),(5,.p T9 ((L.take i.1).foldl GP (⟨#[]⟩,⟨#[]⟩,false)).2.1),(6,.p .bool ((L.take i.1).foldl GP (⟨#[]⟩,⟨#[]⟩,false)).2.2),(11,.p Pg L),(12,.p (.int .i64) (L.length:Int)),(13,.p (.int .i64) (i.1:Int))],Et h f a b k l g qs⟩) (λi=>L.length-i.1) ⟨0,Do _⟩ (AC [(1,.nm 1),(2,.nm 2),(3,.nm 3),(4,.nm 4),(5,.nm 5)] rfl rfl ?_ ?_) (λi=>?_)
 .first|exact eN|refine eM ?_
 .first|exact eN|refine eM ?_
  exact⟨rfl,rfl,rfl⟩
 obtain⟨i,hi⟩:=i;have j:i<L.length->(L.take (i+1)).foldl GP (⟨#[]⟩,⟨#[]⟩,false)=GP ((L.take i).foldl GP (⟨#[]⟩,⟨#[]⟩,false)) (L.getD i none):=by
  intro e;rw[List.take_add_one,An e,AB7,AS,An e];rfl
 have m:i<L.length->L.getD i none∈L:=by
  intro e;rw[AS,An e];exact AAo e
 simp only[Et];repeat'(first|exact trivial|apply eS rfl|apply AB|refine rX c ?_ ?_|refine rC ?_ ?_<;>intro d<;>try(cases d;done))
 .exact d
 .have e:i<L.length:=by omega
  have j:=j e;generalize (L.take i).foldl GP (⟨#[]⟩,⟨#[]⟩,false)=Z at *;have m:=q _ (m e);generalize L.getD i none=r at *;rcases m with ⟨s,rfl⟩|⟨s,rfl⟩|rfl
  .skip
   refine cP 0 c ?_ ?_
   .trivial
   refine oB c (HW (by kernel_rfl)) ⟨_,λw=>rfl⟩ ?_;refine rL c ?_ ?_
   .trivial
   repeat'(first|exact trivial|apply eS rfl|apply AB|refine rX c ?_ ?_|refine rC ?_ ?_<;>intro d<;>try(cases d;done))
   refine cP 1 c ?_ ?_
   .trivial
   refine A65 c yZ (mD (HW (by kernel_rfl)) (by kernel_rfl)) ?_;refine rL c ?_ ?_
   .trivial
   repeat'(first|exact trivial|apply eS rfl|apply AB|refine rX c ?_ ?_|refine rC ?_ ?_<;>intro d<;>try(cases d;done))
   .exact eV
   refine⟨⟨i+1,by omega⟩,by simp only;omega,AC [(1,.nm 1),(2,.nm 2),(3,.nm 3),(4,.nm 4),(5,.nm 5)] rfl rfl ?_ ?_⟩
   .first|exact eN|refine eM ?_
   simp only[j,GP];first|exact eN|refine eM ?_
  .skip
   refine cP 0 c ?_ ?_
   .trivial
   refine oB c (HW (by kernel_rfl)) ⟨_,λw=>rfl⟩ ?_;refine rL c ?_ ?_
   .trivial
   repeat'(first|exact trivial|apply eS rfl|apply AB|refine rX c ?_ ?_|refine rC ?_ ?_<;>intro d<;>try(cases d;done))
   refine cP 0 c ?_ ?_
   .trivial
   refine oB c (HW (by kernel_rfl)) ⟨_,λw=>rfl⟩ ?_;refine rL c ?_ ?_
   .trivial
   repeat'(first|exact trivial|apply eS rfl|apply AB|refine rX c ?_ ?_|refine rC ?_ ?_<;>intro d<;>try(cases d;done))
   refine cP 1 c ?_ ?_
   .trivial
   refine A65 c y3 (mD (HW (by kernel_rfl)) (by kernel_rfl)) ?_;refine rL c ?_ ?_
   .trivial
   repeat'(first|exact trivial|apply eS rfl|apply AB|refine rX c ?_ ?_|refine rC ?_ ?_<;>intro d<;>try(cases d;done))
   .exact eV
   refine⟨⟨i+1,by omega⟩,by simp only;omega,AC [(1,.nm 1),(2,.nm 2),(3,.nm 3),(4,.nm 4),(5,.nm 5)] rfl rfl ?_ ?_⟩
   .first|exact eN|refine eM ?_
   simp only[j,GP];first|exact eN|refine eM ?_
  skip
  refine cP 0 c ?_ ?_
  .trivial
  refine oB c (HW (by kernel_rfl)) ⟨_,λw=>rfl⟩ ?_;refine rL c ?_ ?_
  .trivial
  repeat'(first|exact trivial|apply eS rfl|apply AB|refine rX c ?_ ?_|refine rC ?_ ?_<;>intro d<;>try(cases d;done))
  refine cP 0 c ?_ ?_
  .trivial
  refine oB c (HW (by kernel_rfl)) ⟨_,λw=>rfl⟩ ?_;refine rL c ?_ ?_
  .trivial
  repeat'(first|exact trivial|apply eS rfl|apply AB|refine rX c ?_ ?_|refine rC ?_ ?_<;>intro d<;>try(cases d;done))
  refine cP 0 c ?_ ?_
  .trivial
  refine oB c (HW (by kernel_rfl)) ⟨_,λw=>rfl⟩ ?_;refine rL c ?_ ?_
  .trivial
  repeat'(first|exact trivial|apply eS rfl|apply AB|refine rX c ?_ ?_|refine rC ?_ ?_<;>intro d<;>try(cases d;done))
  .exact eV
  refine⟨⟨i+1,by omega⟩,by simp only;omega,AC [(1,.nm 1),(2,.nm 2),(3,.nm 3),(4,.nm 4),(5,.nm 5)] rfl rfl ?_ ?_⟩
  .first|exact eN|refine eM ?_
  simp only[j,GP];first|exact eN|refine eM ?_
 have e:i=L.length:=by omega
 subst e;rw[oR,o];exact fM c [.tmp 4,.tmp 5,.tmp 6] (.tup [.p T9 (NU h f n).1,.p T9 (NU h f n).2.1,.p .bool (NU h f n).2.2]) eT ⟨rfl,rfl⟩
end
section
attribute [local go_sem] KC Et KD KB MQ JW IJ M6
theorem A2f (h:∀a∈l,0<=a.1):Br l (-1)=-1:=by
 induction l with
 | nil=>rfl
 | cons a l d =>
  have:=h a iF;unfold Br;rw[As O1];exact d λb c=>h b (GO _ c)
theorem mF (ha:RZ h f) (n:Int) (s:ByteArray):Cl h f n s=Br (Aq f n).2 (BN h s):=by
 unfold Cl;split
 .rfl
 have h1:=(Fx h s).1;rw[show BN h s=-1 by omega,A2f];intro a b;by_cases c:n.toNat<f.length
 .exact(ha _ (by unfold Aq;rw[AS,An c];exact AAo c) a b).1
 have:Aq f n=(0,[]):=by unfold Aq;rw[AS,oS O1];rfl
 rw[this]at b;cases b
def PD (h:AE) (f:List AD) (n:Int) (s:ByteArray):Int×Bool:=if Cl h f n s<0 then (0,false) else (Cl h f n s,true)
theorem Yq (r:Aa f) (ha:RZ h f) (h0:0<=n) (h1:n<(f.length:Int)) (s:ByteArray) (a b:Int) (i:List (Int×Int)) (j:List ByteArray) (d:List HZ) (qs:List RP) :
  A7 Tryz.prog 83 [.bp 1 [] 0,.p T3 n,.p T9 s] (Et h f a b i j d qs) [1,2]
  (λres v=>res=.tup [.p T3 (PD h f n s).1,.p .bool (PD h f n s).2]/\v=Et h f a b i j d qs):=by
 refine JP [0,1,2,6,7,8,10,25,26,27,28,34] [] [] Tryz.func83 Tryz.ntmps83 (AF UT AI) ?_;intro w0 K O0 ρ0 g x y;have z:=(r.2 _ (AG f (0,[]) (LJ ⟨h0,h1⟩))).1;have u:Cl h f n s=Br (f.getD n.toNat (0,[])).2 (BN h s):=mF ha n s;simp only[Am,Et];repeat'(first|exact trivial|apply eS rfl|apply AB|refine rX g ?_ ?_|refine rC ?_ ?_<;>intro c<;>try(cases c;done))
 .exact⟨h0,h1⟩
 refine AJ (ι:={k:Nat//k<=(f.getD n.toNat (0,[])).2.length/\Br (f.getD n.toNat (0,[])).2 (BN h s)=Br ((f.getD n.toNat (0,[])).2.drop k) (BN h s)}) (λk=>⟨[(0,.bp 1 [] 0),(8,.p T3 (BN h s)),(25,.p VY (f.getD n.toNat (0,[])).2),(26,.p (.int .i64) ((f.getD n.toNat (0,[])).2.length:Int)),(27,.p (.int .i64) (k.1:Int))],Et h f a b i j d qs⟩) (λk=>(f.getD n.toNat (0,[])).2.length-k.1) ⟨0,Do _,rfl⟩ (AC [(1,.nm 1),(2,.nm 2),(3,.nm 3),(4,.nm 4),(5,.nm 5)] rfl rfl ?_ ?_) (λk=>?_)
 .first|exact eN|refine eM ?_
 .first|exact eN|refine eM ?_
 obtain⟨k,hk,o⟩:=k;have t:=λe:k<(f.getD n.toNat (0,[])).2.length=>Wm (BN h s) (f.getD n.toNat (0,[])).2 e;simp only[Et];repeat'(first|exact trivial|apply eS rfl|apply AB|refine rX g ?_ ?_|refine rC ?_ ?_<;>intro c<;>try(cases c;done))
 .exact c
 .rename_i q;have e:k<(f.getD n.toNat (0,[])).2.length:=by omega
  have l:Cl h f n s=((f.getD n.toNat (0,[])).2.getD k (0,0)).2:=by rw[u,o,t e,At c]
  have w:0<=Cl h f n s:=by rw[l];exact((r.2 _ (AG f (0,[]) (LJ ⟨h0,h1⟩))).2 _ (AG _ (0,0) e)).1
  have m:PD h f n s=(((f.getD n.toNat (0,[])).2.getD k (0,0)).2,true):=by unfold PD;rw[As O1,l]
  refine Ev.ent (σ':=⟨[(6,.p (.int .i64) ((f.getD n.toNat (0,[])).2.getD k (0,0)).2),(7,.p .bool true)],Et h f a b i j d qs⟩) ?_ (AC [(1,.nm 1),(2,.nm 2),(3,.nm 3),(4,.nm 4),(5,.nm 5)] rfl rfl ?_ ?_)
  .exact fM g [.tmp 6,.tmp 7] (.tup [.p T3 (((f.getD n.toNat (0,[])).2.getD k (0,0)).2),.p .bool true]) eT ⟨by rw[m],rfl⟩
  .first|exact eN|refine eM ?_
  first|exact eN|refine eM ?_
 .exact eV
 .rename_i q;refine⟨⟨k+1,by exact eV,o.trans ((t (by exact eV)).trans (As c))⟩,by simp only;omega,AC [(1,.nm 1),(2,.nm 2),(3,.nm 3),(4,.nm 4),(5,.nm 5)] rfl rfl ?_ ?_⟩
  .first|exact eN|refine eM ?_
  first|exact eN|refine eM ?_
 have l:Cl h f n s=-1:=by
  rw[u,o,ON O1];rfl
 have m:PD h f n s=(0,false):=by unfold PD;rw[At O1]
 exact fM g [.tmp 6,.tmp 7] (.tup [.p T3 (0:Int),.p .bool false]) eT ⟨by rw[m],rfl⟩
end
section
attribute [local go_sem] Et KD KB MQ JW IJ M6
def MZ:Nat->List Int->List (Int×Int)
 | _,[]=>[]
 | k,x :: r=>(x,(k:Int)) :: MZ (k+1) r
def Hc (ns:List Int):List (Int×Int):=MZ 0 ns
theorem U5 (x:Int):∀(l:List Int) (k:Nat),BO T3 T3 x (MZ k l)=if Ha x k l<0 then none else some (Ha x k l)
 | [],k=>rfl
 | y :: l,k=>by
  have b:=U5 x l (k+1);unfold MZ BO Ha;by_cases h:y=x
  .subst h;simp[Gn]
  have a:¬x=y:=λe=>h e.symm;simp only[Gn,IN,h,a,AAR];simpa[a] using b
theorem mG (x:Int) (v:Int):∀(l:List Int) (k:Nat),Ha x k l<0->Em T3 T3 x v (MZ k l)=MZ k l++[(x,v)]
 | [],k,_=>rfl
 | y :: l,k,h=>by
  unfold Ha at h;by_cases e:y=x
  .rw[At e]at h;omega
  rw[As e]at h;have b:=mG x v l (k+1) h;have a:¬x=y:=λq=>e q.symm;unfold MZ Em;simp only[Gn,IN,a,AAR];simpa[a] using b
theorem cM (x:Int):∀(l:List Int) (k:Nat),MZ k (l++[x])=MZ k l++[(x,((k+l.length:Nat):Int))]
 | [],k=>rfl
 | y :: l,k=>by
  have a:=cM x l (k+1);simp only[To,MZ,a,NO];rw[show k+1+l.length=k+(l.length+1) by omega]
theorem cN (x:Int):∀(l:List Int) (k:Nat),Ha x k l<0->Ha x k (l++[x])=((k+l.length:Nat):Int)
 | [],k,_=>by simp[Ha]
 | y :: l,k,h=>by
  unfold Ha at h;by_cases e:y=x
  .rw[At e]at h;omega
  rw[As e]at h;have a:=cN x l (k+1) h;simp only[To,Ha,As e,a,NO];rw[show k+1+l.length=k+(l.length+1) by omega]
def GQ (f:List AD) (ns:List Int):Prop:=ns.Nodup/\∀x∈ns,0<=x/\x<(f.length:Int)
theorem mH {x:Int}:∀(l:List Int) (k:Nat),Ha x k l<0->x∉l
 | [],_,_=>by simp
 | y :: l,k,h=>by
  unfold Ha at h;by_cases e:y=x
  .rw[At e]at h;omega
  rw[As e]at h;have a:=mH l (k+1) h;simp only[BY,not_or];exact⟨λq=>e q.symm,a⟩
theorem A2g {ns:List Int} (h:GQ f ns) (h0:0<=n) (h1:n<(f.length:Int)):GQ f (EW ns n):=by
 unfold EW;split
 .rename_i q;refine⟨?_,λx c=>?_⟩
  .have:=mH ns 0 q;exact AAL.2 ⟨h.1,by simp,by rintro a ha b d rfl;rw[oF]at d;subst d;exact this ha⟩
  rcases IS.1 c with c|c
  .exact h.2 x c
  rw[oF.1 c];exact⟨h0,h1⟩
 exact h
theorem A52 {ns:List Int} (h:GQ f ns):ns.length<=f.length:=by
 have h1:(ns.map Int.toNat).Nodup:=by
  refine AAy.2 (h.1.imp_of_mem ?_);intro a b ha d j e;have:=h.2 a ha;have:=h.2 b d;omega
 have c:=DM f.length _ h1 (λx g=>by
  obtain⟨y,i,rfl⟩:=IF.1 g;have:=h.2 y i;omega)
 simpa using c
def EI (h:AE) (f:List AD) (a b:Int) (ns:List Int) (c:List HZ) (qs:List RP):List (Nat×Obj):=Et h f a b (Hc ns) (ns.map (MB h f)) c qs
def RB (h:AE) (f:List AD) (ns:List Int) (n:Int):(Int×Bool)×List Int:=if AL (MB h f n) ⟨#[]⟩=true then ((0,false),ns) else ((kT (EW ns n) n,true),EW ns n)
theorem Yr (hs:rD h) (t:Aa f) (u:DP h f) (h0:0<=n) (h1:n<(f.length:Int)) {ns:List Int} (hn:GQ f ns) (a b:Int) (i:List HZ) (qs:List RP) :
  A7 Tryz.prog 84 [.bp 1 [] 0,.p T3 n] (EI h f a b ns i qs) [1,2]
  (λres v=>res=.tup [.p T3 (RB h f ns n).1.1,.p .bool (RB h f ns n).1.2]/\v=EI h f a b (RB h f ns n).2 i qs):=by
 refine JP [0,1,4,5,6,9,10,19,30] [50] [] Tryz.func84 Tryz.ntmps84 AI ?_;intro w0 K O0 ρ0 c y z;have k:MB h f n=B3 h (Aq f n).1:=As O1;have x:=A52 hn;have w:=t.1;simp only[Am,EI,Et];repeat'(first|exact trivial|apply eS rfl|apply AB|refine rP c ?_ ?_|fail)
 refine cP 2 c ?_ ?_
 .trivial
 refine rM c (mE hs u h0 h1 a b (Hc ns) (ns.map (MB h f)) i qs) [(1,.nm 1),(2,.nm 2),(3,.nm 3),(4,.nm 4),(5,.nm 5)] [3,4,5] ?_ ?_ ?_
 .first|exact eN|refine eM ?_
 .first|exact eN|refine eM ?_
 rintro _ _ ⟨rfl,rfl⟩;refine⟨[(1,.nm 1),(2,.nm 2),(3,.nm 3),(4,.nm 4),(5,.nm 5)],.tup [.p T9 (NU h f n).1,.p T9 (NU h f n).2.1,.p .bool (NU h f n).2.2],Et h f a b (Hc ns) (ns.map (MB h f)) i qs,rfl,rfl,?_,?_,rfl,rfl,?_⟩
 .first|exact eN|refine eM ?_
 .first|exact eN|refine eM ?_
 simp only[Et];refine rL c ?_ ?_
 .trivial
 repeat'(first|exact trivial|apply eS rfl|apply AB|refine rX c ?_ ?_|refine rC ?_ ?_<;>intro d<;>try(cases d;done))
 .have e:RB h f ns n=((0,false),ns):=At (by rw[k];exact d);exact fM c [.tmp 4,.tmp 5] (.tup [.p T3 (0:Int),.p .bool false]) eT ⟨by rw[e],by rw[e]⟩
 .simp only[dB,AO];omega
 .rename_i q;have q:¬AL (MB h f n) ⟨#[]⟩=true:=by rw[k];rw[show AL (B3 h (Aq f n).1) ⟨#[]⟩=false from q];simp
  have g:kT ns n<0:=by
   have:=U5 n ns 0;by_cases j:Ha n 0 ns<0
   .exact j
   rw[As j]at this;rw[show BO T3 T3 n (Hc ns)=some (Ha n 0 ns) from this]at d;cases d
  have l:EW ns n=ns++[n]:=At g;have e:RB h f ns n=(((ns.length:Int),true),ns++[n]):=by
   unfold RB;rw[As q,l];have:=cN n ns 0 g;rw[AAG]at this;rw[show kT (ns++[n]) n=(ns.length:Int) from this]
  have m:Em T3 T3 n (((ns.map (MB h f)).length:Int)) (Hc ns)=Hc (ns++[n]):=by
   have h1:=mG n (ns.length:Int) ns 0 g;have o:=cM n ns 0;rw[AAG]at o;rw[dB];exact h1.trans o.symm
  have r:ns.map (MB h f)++[(NU h f n).1]=(ns++[n]).map (MB h f):=by
   rw[AAH,List.map_singleton,k];rfl
  have s:(ns.map (MB h f)).length+1=((ns++[n]).map (MB h f)).length:=by simp
  rw[m,r,s];exact fM c [.tmp 4,.tmp 5] (.tup [.p T3 ((ns.map (MB h f)).length:Int),.p .bool true]) eT ⟨by rw[e,dB],by rw[e]⟩
 rename_i q;have q:¬AL (MB h f n) ⟨#[]⟩=true:=by rw[k];rw[show AL (B3 h (Aq f n).1) ⟨#[]⟩=false from q];simp
 have hf:=U5 n ns 0;have g:¬kT ns n<0:=by
  intro j;rw[At (show Ha n 0 ns<0 from j)]at hf;rw[show BO T3 T3 n (Hc ns)=none from hf]at d;cases d
 rw[As (show ¬Ha n 0 ns<0 from g)]at hf;have l:EW ns n=ns:=As g;have e:RB h f ns n=((kT ns n,true),ns):=by unfold RB;rw[As q,l]
 have m:(BO T3 T3 n (Hc ns)).getD 0=kT ns n:=by rw[show BO T3 T3 n (Hc ns)=some (Ha n 0 ns) from hf];rfl
 rw[m];exact fM c [.tmp 4,.tmp 5] (.tup [.p T3 (kT ns n),.p .bool true]) eT ⟨by rw[e],by rw[e]⟩
end
section
attribute [local go_sem] Et EI KD KB MQ JW IJ M6
def CT (h:AE) (f:List AD) (ns:List Int) (n:Int) (s:ByteArray):(Int×Bool)×List Int :=
 if Cl h f n s<0 then ((0,false),ns) else if AL (MB h f (Cl h f n s)) ⟨#[104]⟩=false then ((0,false),ns) else RB h f ns (Cl h f n s)
theorem SH (hs:rD h) (i:Aa f) (l:DP h f) (ha:RZ h f) (h0:0<=n) (h1:n<(f.length:Int)) (s:ByteArray) {ns:List Int} (hn:GQ f ns) (a b:Int) (g:List HZ) (qs:List RP) :
  A7 Tryz.prog 82 [.bp 1 [] 0,.p T3 n,.p T9 s] (EI h f a b ns g qs) [1,2]
  (λres r=>res=.tup [.p T3 (CT h f ns n s).1.1,.p .bool (CT h f ns n s).1.2]/\r=EI h f a b (CT h f ns n s).2 g qs):=by
 refine JP [0,1,2,6,7,8,9,10,21,30] [] [] Tryz.func82 Tryz.ntmps82 AI ?_;intro w0 K O0 ρ0 c t u;have m:=U0 (h:=h) i n s O1;simp only[Am,EI,Et];repeat'(first|exact trivial|apply eS rfl|apply AB|refine rP c ?_ ?_|fail)
 refine cP 3 c ?_ ?_
 .trivial
 refine rM c (Yq i ha h0 h1 s a b (Hc ns) (ns.map (MB h f)) g qs) [(1,.nm 1),(2,.nm 2),(3,.nm 3),(4,.nm 4),(5,.nm 5)] [3,4,5] ?_ ?_ ?_
 .first|exact eN|refine eM ?_
 .first|exact eN|refine eM ?_
 rintro _ _ ⟨rfl,rfl⟩;refine⟨[(1,.nm 1),(2,.nm 2),(3,.nm 3),(4,.nm 4),(5,.nm 5)],.tup [.p T3 (PD h f n s).1,.p .bool (PD h f n s).2],Et h f a b (Hc ns) (ns.map (MB h f)) g qs,rfl,rfl,?_,?_,rfl,rfl,?_⟩
 .first|exact eN|refine eM ?_
 .first|exact eN|refine eM ?_
 simp only[EI,Et];refine rL c ?_ ?_
 .trivial
 repeat'(first|exact trivial|apply eS rfl|apply AB|refine rX c ?_ ?_|refine rC ?_ ?_<;>intro d<;>try(cases d;done))
 .have q:Cl h f n s<0:=by
   unfold PD at d;split at d
   .assumption
   cases d
  have e:CT h f ns n s=((0,false),ns):=At q;exact fM c [.tmp 6,.tmp 7] (.tup [.p T3 (0:Int),.p .bool false]) eT ⟨by rw[e],by rw[e]⟩
 have q:0<=Cl h f n s/\(PD h f n s).1=Cl h f n s:=by
  unfold PD at d ⊢;split
  .rename_i q;rw[At q]at d;cases d
  exact⟨by omega,rfl⟩
 rw[q.2];have o:=q.1;have k:MB h f (Cl h f n s)=(NU h f (Cl h f n s)).1:=As O1;have j:CT h f ns n s=if AL (MB h f (Cl h f n s)) ⟨#[104]⟩=false then ((0,false),ns) else RB h f ns (Cl h f n s):=As O1
 generalize Cl h f n s=v at *;refine cP 2 c ?_ ?_
 .trivial
 refine rM c (mE hs l o m a b (Hc ns) (ns.map (MB h f)) g qs) [(1,.nm 1),(2,.nm 2),(3,.nm 3),(4,.nm 4),(5,.nm 5)] [3,4,5] ?_ ?_ ?_
 .first|exact eN|refine eM ?_
 .first|exact eN|refine eM ?_
 rintro _ _ ⟨rfl,rfl⟩;refine⟨[(1,.nm 1),(2,.nm 2),(3,.nm 3),(4,.nm 4),(5,.nm 5)],.tup [.p T9 (NU h f v).1,.p T9 (NU h f v).2.1,.p .bool (NU h f v).2.2],Et h f a b (Hc ns) (ns.map (MB h f)) g qs,rfl,rfl,?_,?_,rfl,rfl,?_⟩
 .first|exact eN|refine eM ?_
 .first|exact eN|refine eM ?_
 simp only[EI,Et];refine rL c ?_ ?_
 .trivial
 repeat'(first|exact trivial|apply eS rfl|apply AB|refine rX c ?_ ?_|refine rC ?_ ?_<;>intro d<;>try(cases d;done))
 .have e:CT h f ns n s=((0,false),ns):=j.trans (At (by rw[k];exact d));exact fM c [.tmp 6,.tmp 7] (.tup [.p T3 (0:Int),.p .bool false]) eT ⟨by rw[e],by rw[e]⟩
 have e:CT h f ns n s=RB h f ns v:=j.trans (As (by rw[k];rw[d];simp));rw[e];refine cP 2 c ?_ ?_
 .trivial
 refine rM c (Yr hs i l o m hn a b g qs) [(1,.nm 1),(2,.nm 2),(3,.nm 3),(4,.nm 4),(5,.nm 5)] [3,4,5] ?_ ?_ ?_
 .first|exact eN|refine eM ?_
 .first|exact eN|refine eM ?_
 rintro _ _ ⟨rfl,rfl⟩;refine⟨[(1,.nm 1),(2,.nm 2),(3,.nm 3),(4,.nm 4),(5,.nm 5)],.tup [.p T3 (RB h f ns v).1.1,.p .bool (RB h f ns v).1.2],EI h f a b (RB h f ns v).2 g qs,rfl,rfl,?_,?_,rfl,rfl,?_⟩
 .first|exact eN|refine eM ?_
 .first|exact eN|refine eM ?_
 simp only[EI,Et];refine rL c ?_ ?_
 .trivial
 repeat'(first|exact trivial|apply eS rfl|apply AB|refine rX c ?_ ?_|refine rC ?_ ?_<;>intro d<;>try(cases d;done))
 exact fM c [.tmp 6,.tmp 7] (.tup [.p T3 (RB h f ns v).1.1,.p .bool (RB h f ns v).1.2]) eT ⟨rfl,rfl⟩
end
section
attribute [local go_sem] Et EI KD KB MQ JW IJ M6
def LS (h:AE) (f:List AD) (st:List Int×List Th) (a:Int×Int):List Int×List Th :=
 if AL (yT h a) ⟨#[76,65,66,69,76]⟩=true then st else ((RB h f st.1 a.2).2,if (RB h f st.1 a.2).1.2=true then st.2++[(yT h a,(RB h f st.1 a.2).1.1)] else st.2)
def U6 (h:AE) (f:List AD) (ns:List Int) (a:List HZ) (n:Int):Bool×List Int×List HZ :=
 if AL (NU h f n).2.1 ⟨#[]⟩=true\/(CT h f ns n ⟨#[76,65,66,69,76]⟩).1.2=false then (false,(CT h f ns n ⟨#[76,65,66,69,76]⟩).2,a)
 else (true,((Aq f n).2.foldl (LS h f) ((CT h f ns n ⟨#[76,65,66,69,76]⟩).2,[])).1,a++[((NU h f n).2.1,(CT h f ns n ⟨#[76,65,66,69,76]⟩).1.1,((Aq f n).2.foldl (LS h f) ((CT h f ns n ⟨#[76,65,66,69,76]⟩).2,[])).2)])
theorem mI {ns:List Int} (hn:GQ f ns) (h:AE) (h0:0<=n) (h1:n<(f.length:Int)):GQ f (RB h f ns n).2:=by
 unfold RB;split
 .exact hn
 exact A2g hn h0 h1
theorem NQ {ns:List Int} (hn:GQ f ns) (b:Aa f) (n:Int) (s:ByteArray) (h0:0<f.length):GQ f (CT h f ns n s).2:=by
 unfold CT;have a:=U0 (h:=h) b n s h0;split
 .exact hn
 split
 .exact hn
 exact mI hn h O1 a
theorem mJ (l:List (Int×Int)):∀(st:List Int×List Th),GQ f st.1->(∀a∈l,0<=a.2/\a.2<(f.length:Int))->GQ f (l.foldl (LS h f) st).1/\(l.foldl (LS h f) st).2.length<=st.2.length+l.length:=by
 induction l with
 | nil=>intro st h _;exact⟨h,by simp⟩
 | cons a l g =>
  intro st d ha;have h1:GQ f (LS h f st a).1/\(LS h f st a).2.length<=st.2.length+1:=by
   unfold LS;split
   .exact⟨d,by omega⟩
   refine⟨mI d h (ha a iF).1 (ha a iF).2,?_⟩;dsimp only;split
   .simp
   omega
  have c:=g (LS h f st a) h1.1 (λb e=>ha b (GO _ e));refine⟨c.1,?_⟩;have:=c.2;have:=h1.2;simp only[OR,NO];omega
theorem A2h (hs:rD h) (m:Aa f) (u:DP h f) (ha:RZ h f) (h0:0<=n) (h1:n<(f.length:Int)) {ns:List Int} (hn:GQ f ns) (a b:Int) (c:List HZ) (H:c.length<=200000) (qs:List RP) :
  A7 Tryz.prog 86 [.bp 1 [] 0,.p T3 n] (EI h f a b ns c qs) [1,2]
  (λres F=>res=.p .bool (U6 h f ns c n).1/\F=EI h f a b (U6 h f ns c n).2.1 (U6 h f ns c n).2.2 qs):=by
 refine JP [0,1,4,6,8,9,10,12,13,14,15,34,46,47,48,49,63,71] [77,88] [] Tryz.func86 Tryz.ntmps86 AI ?_;intro w0 K O0 ρ0 d I J;have t:=AG f (0,[]) (LJ ⟨h0,h1⟩);have G:=(m.2 _ t).1;have v:=(m.2 _ t).2;have B:=ha _ t;have C:0<f.length:=by omega
 have hh:=NQ (h:=h) hn m n ⟨#[76,65,66,69,76]⟩ C;have r:U6 h f ns c n=if AL (NU h f n).2.1 ⟨#[]⟩=true\/(CT h f ns n ⟨#[76,65,66,69,76]⟩).1.2=false then (false,(CT h f ns n ⟨#[76,65,66,69,76]⟩).2,c)
  else (true,((Aq f n).2.foldl (LS h f) ((CT h f ns n ⟨#[76,65,66,69,76]⟩).2,[])).1,c++[((NU h f n).2.1,(CT h f ns n ⟨#[76,65,66,69,76]⟩).1.1,((Aq f n).2.foldl (LS h f) ((CT h f ns n ⟨#[76,65,66,69,76]⟩).2,[])).2)]):=rfl
 simp only[Am,EI,Et];repeat'(first|exact trivial|apply eS rfl|apply AB|refine rP d ?_ ?_|fail)
 refine cP 2 d ?_ ?_
 .trivial
 refine rM d (mE hs u h0 h1 a b (Hc ns) (ns.map (MB h f)) c qs) [(1,.nm 1),(2,.nm 2),(3,.nm 3),(4,.nm 4),(5,.nm 5)] [3,4,5] ?_ ?_ ?_
 .first|exact eN|refine eM ?_
 .first|exact eN|refine eM ?_
 rintro _ _ ⟨rfl,rfl⟩;refine⟨[(1,.nm 1),(2,.nm 2),(3,.nm 3),(4,.nm 4),(5,.nm 5)],.tup [.p T9 (NU h f n).1,.p T9 (NU h f n).2.1,.p .bool (NU h f n).2.2],Et h f a b (Hc ns) (ns.map (MB h f)) c qs,rfl,rfl,?_,?_,rfl,rfl,?_⟩
 .first|exact eN|refine eM ?_
 .first|exact eN|refine eM ?_
 simp only[EI,Et];refine rL d ?_ ?_
 .trivial
 repeat'(first|exact trivial|apply eS rfl|apply AB|refine rX d ?_ ?_|refine rC ?_ ?_<;>intro g<;>try(cases g;done))
 generalize (NU h f n).2.1=p at *;refine cP 2 d ?_ ?_
 .trivial
 refine rM d (SH hs m u ha h0 h1 ⟨#[76,65,66,69,76]⟩ hn a b c qs) [(1,.nm 1),(2,.nm 2),(3,.nm 3),(4,.nm 4),(5,.nm 5)] [3,4,5] ?_ ?_ ?_
 .first|exact eN|refine eM ?_
 .first|exact eN|refine eM ?_
 rintro _ _ ⟨rfl,rfl⟩;refine⟨[(1,.nm 1),(2,.nm 2),(3,.nm 3),(4,.nm 4),(5,.nm 5)],.tup [.p T3 (CT h f ns n ⟨#[76,65,66,69,76]⟩).1.1,.p .bool (CT h f ns n ⟨#[76,65,66,69,76]⟩).1.2],EI h f a b (CT h f ns n ⟨#[76,65,66,69,76]⟩).2 c qs,rfl,rfl,?_,?_,rfl,rfl,?_⟩
 .first|exact eN|refine eM ?_
 .first|exact eN|refine eM ?_
 simp only[EI,Et];generalize CT h f ns n ⟨#[76,65,66,69,76]⟩=j at *;refine rL d ?_ ?_
 .trivial
 repeat'(first|exact trivial|apply eS rfl|apply AB|refine rX d ?_ ?_|refine rC ?_ ?_<;>intro g<;>try(cases g;done))
 .have e:U6 h f ns c n=(false,j.2,c):=r.trans (At (by revert g;simp));exact fM d [.tmp 4] (.p .bool false) eT ⟨by rw[e],by rw[e]⟩
 .exact⟨h0,h1⟩
 have e:=r.trans (As (by revert g;simp));rw[e];clear e r g;have D:f.getD n.toNat (0,[])=Aq f n:=rfl;simp only[D]at *;refine AJ (ι:={k:Nat//k<=(Aq f n).2.length}) (λk=>⟨[(0,.bp 1 [] 0),(10,.bp 10 [] 0),(46,.p VY (Aq f n).2),(47,.p (.int .i64) ((Aq f n).2.length:Int)),(48,.p (.int .i64) (k.1:Int))],(10,.box 54 true [.p T9 p,.p T3 j.1.1,.sr 78 T91 0 (((Aq f n).2.take k.1).foldl (LS h f) (j.2,[])).2.length]) :: (78,.arr 91 T91 (((Aq f n).2.take k.1).foldl (LS h f) (j.2,[])).2) :: EI h f a b (((Aq f n).2.take k.1).foldl (LS h f) (j.2,[])).1 c qs⟩) (λk=>(Aq f n).2.length-k.1) ⟨0,Do _⟩ (AC [(1,.nm 1),(2,.nm 2),(3,.nm 3),(4,.nm 4),(5,.nm 5),(10,.nm 10),(78,.nil)] rfl rfl ?_ ?_) (λk=>?_)
 .first|exact eN|refine eM ?_
  exact⟨rfl,rfl,rfl,rfl,rfl⟩
 .first|exact eN|refine eM ?_
 obtain⟨k,hk⟩:=k;have i:=λq:k<(Aq f n).2.length=>aC (LS h f) (Aq f n).2 (0,0) (j.2,[]) q;have w:=λq:k<(Aq f n).2.length=>AG (Aq f n).2 (0,0) q;have s:=mJ (h:=h) ((Aq f n).2.take k) (j.2,[]) hh (λx E=>v x (AAs E));generalize z:((Aq f n).2.take k).foldl (LS h f) (j.2,[])=Z at *;simp only[EI,Et];repeat'(first|exact trivial|apply eS rfl|apply AB|refine rX d ?_ ?_|refine rC ?_ ?_<;>intro g<;>try(cases g;done))
 .exact g
 .exact B _ (w (by exact eV))
 .exact eV
 .have i:=i (by exact eV);rw[show LS h f Z ((Aq f n).2.getD k (0,0))=Z from At g]at i;refine⟨⟨k+1,by exact eV⟩,by simp only;omega,AC [(1,.nm 1),(2,.nm 2),(3,.nm 3),(4,.nm 4),(5,.nm 5),(10,.nm 10),(78,.nm 78)] rfl rfl ?_ ?_⟩
  .simp only[i];first|exact eN|refine eM ?_
  simp only[i,EI,Et];first|exact eN|refine eM ?_
 .rename_i M;have l:k<(Aq f n).2.length:=by omega
  have o:=v _ (w l);have i:=(i l).trans (As (show ¬AL (yT h ((Aq f n).2.getD k (0,0))) ⟨#[76,65,66,69,76]⟩=true by unfold yT;rw[g];simp));have L:=mI s.1 h o.1 o.2;refine cP 3 d ?_ ?_
  .trivial
  refine rM d (Yr hs m u o.1 o.2 s.1 a b c qs) [(1,.nm 1),(2,.nm 2),(3,.nm 3),(4,.nm 4),(5,.nm 5)] [3,4,5] ?_ ?_ ?_
  .first|exact eN|refine eM ?_
  .first|exact eN|refine eM ?_
  rintro _ _ ⟨rfl,rfl⟩;refine⟨[(1,.nm 1),(2,.nm 2),(3,.nm 3),(4,.nm 4),(5,.nm 5)],.tup [.p T3 (RB h f Z.1 ((Aq f n).2.getD k (0,0)).2).1.1,.p .bool (RB h f Z.1 ((Aq f n).2.getD k (0,0)).2).1.2],EI h f a b (RB h f Z.1 ((Aq f n).2.getD k (0,0)).2).2 c qs,rfl,rfl,?_,?_,rfl,rfl,?_⟩
  .first|exact eN|refine eM ?_
  .first|exact eN|refine eM ?_
  simp only[EI,Et];generalize RB h f Z.1 ((Aq f n).2.getD k (0,0)).2=V at *;refine rL d ?_ ?_
  .trivial
  repeat'(first|exact trivial|apply eS rfl|apply AB|refine rX d ?_ ?_|refine rC ?_ ?_<;>intro g<;>try(cases g;done))
  .simp only[AO];have:=s.2;simp only[On,AAd]at this;omega
  .exact eV
  .rw[g,At rfl]at i;refine⟨⟨k+1,l⟩,by simp only;omega,AC [(1,.nm 1),(2,.nm 2),(3,.nm 3),(4,.nm 4),(5,.nm 5),(10,.nm 10),(78,.nm 78)] rfl rfl ?_ ?_⟩
   .simp only[i,EI,Et,yT];first|exact eN|refine eM ?_
   simp only[i,EI,Et];first|exact eN|refine eM ?_
  .exact eV
  rw[g,As sc]at i;refine⟨⟨k+1,l⟩,by simp only;omega,AC [(1,.nm 1),(2,.nm 2),(3,.nm 3),(4,.nm 4),(5,.nm 5),(10,.nm 10),(78,.nm 78)] rfl rfl ?_ ?_⟩
  .simp only[i,EI,Et];first|exact eN|refine eM ?_
  simp only[i,EI,Et];first|exact eN|refine eM ?_
 have l:(Aq f n).2.take k=(Aq f n).2:=By (by exact eV);refine C8 [78] ?_;refine Mu drawsAny d 9 [([1,2,3,4,5,6,7],8)] [0] (by kernel_rfl) (mxA ?_ ?_)
 .trivial
 refine mxL d [4] ?_ ?_
 .simp only[AO];omega
 refine mxE d ?_ ?_ ?_
 .trivial
 .trivial
 repeat'(first|exact trivial|apply eS rfl|apply AB|refine rX d ?_ ?_|refine rC ?_ ?_<;>intro g<;>try(cases g;done))
 have A:(Aq f n).2.foldl (LS h f) (j.2,[])=Z:=by rw[<-z,l]
 rw[A];have y:c.length+1=(c++[(p,j.1.1,Z.2)]).length:=by simp
 rw[y];refine Ev.ent (σ':=⟨[(4,.p .bool true)],EI h f a b Z.1 (c++[(p,j.1.1,Z.2)]) qs⟩) ?_ (AC [(1,.nm 1),(2,.nm 2),(3,.nm 3),(4,.nm 4),(5,.nm 5)] rfl rfl ?_ ?_)
 .exact fM d [.tmp 4] (.p .bool true) eT ⟨rfl,rfl⟩
 .first|exact eN|refine eM ?_
 first|exact eN|refine eM ?_
end
section
attribute [local go_sem] Et EI KD KB MQ JW IJ M6
def U7 (h:AE) (f:List AD) (ns:List Int) (qs:List RP) (n:Int):Bool×List Int×List RP :=
 if (NU h f n).2.2=false\/(CT h f ns n ⟨#[72,73,71,72]⟩).1.2=false then (false,(CT h f ns n ⟨#[72,73,71,72]⟩).2,qs)
 else ((CT h f (CT h f ns n ⟨#[72,73,71,72]⟩).2 n ⟨#[76,79,87]⟩).1.2,(CT h f (CT h f ns n ⟨#[72,73,71,72]⟩).2 n ⟨#[76,79,87]⟩).2,qs++[((CT h f ns n ⟨#[72,73,71,72]⟩).1.1,(CT h f (CT h f ns n ⟨#[72,73,71,72]⟩).2 n ⟨#[76,79,87]⟩).1.1)])
theorem A2i (hs:rD h) (j:Aa f) (l:DP h f) (ha:RZ h f) (h0:0<=n) (h1:n<(f.length:Int)) {ns:List Int} (hn:GQ f ns) (a b:Int) (g:List HZ) (qs:List RP) (v:qs.length<=200000) :
  A7 Tryz.prog 87 [.bp 1 [] 0,.p T3 n] (EI h f a b ns g qs) [1,2]
  (λres r=>res=.p .bool (U7 h f ns qs n).1/\r=EI h f a b (U7 h f ns qs n).2.1 g (U7 h f ns qs n).2.2):=by
 refine JP [0,1,4,7,8,9,10,29] [45] [] Tryz.func87 Tryz.ntmps87 AI ?_;intro w0 K O0 ρ0 c t u;have o:0<f.length:=by omega
 have hh:=NQ (h:=h) hn j n ⟨#[72,73,71,72]⟩ o;have s:=NQ (h:=h) hh j n ⟨#[76,79,87]⟩ o;have k:U7 h f ns qs n=if (NU h f n).2.2=false\/(CT h f ns n ⟨#[72,73,71,72]⟩).1.2=false then (false,(CT h f ns n ⟨#[72,73,71,72]⟩).2,qs)
  else ((CT h f (CT h f ns n ⟨#[72,73,71,72]⟩).2 n ⟨#[76,79,87]⟩).1.2,(CT h f (CT h f ns n ⟨#[72,73,71,72]⟩).2 n ⟨#[76,79,87]⟩).2,qs++[((CT h f ns n ⟨#[72,73,71,72]⟩).1.1,(CT h f (CT h f ns n ⟨#[72,73,71,72]⟩).2 n ⟨#[76,79,87]⟩).1.1)]):=rfl
 simp only[Am,EI,Et];repeat'(first|exact trivial|apply eS rfl|apply AB|refine rP c ?_ ?_|fail)
 refine cP 2 c ?_ ?_
 .trivial
 refine rM c (mE hs l h0 h1 a b (Hc ns) (ns.map (MB h f)) g qs) [(1,.nm 1),(2,.nm 2),(3,.nm 3),(4,.nm 4),(5,.nm 5)] [3,4,5] ?_ ?_ ?_
 .first|exact eN|refine eM ?_
 .first|exact eN|refine eM ?_
 rintro _ _ ⟨rfl,rfl⟩;refine⟨[(1,.nm 1),(2,.nm 2),(3,.nm 3),(4,.nm 4),(5,.nm 5)],.tup [.p T9 (NU h f n).1,.p T9 (NU h f n).2.1,.p .bool (NU h f n).2.2],Et h f a b (Hc ns) (ns.map (MB h f)) g qs,rfl,rfl,?_,?_,rfl,rfl,?_⟩
 .first|exact eN|refine eM ?_
 .first|exact eN|refine eM ?_
 simp only[EI,Et];refine rL c ?_ ?_
 .trivial
 repeat'(first|exact trivial|apply eS rfl|apply AB|refine rX c ?_ ?_|refine rC ?_ ?_<;>intro d<;>try(cases d;done))
 generalize (NU h f n).2.2=p at *;refine cP 2 c ?_ ?_
 .trivial
 refine rM c (SH hs j l ha h0 h1 ⟨#[72,73,71,72]⟩ hn a b g qs) [(1,.nm 1),(2,.nm 2),(3,.nm 3),(4,.nm 4),(5,.nm 5)] [3,4,5] ?_ ?_ ?_
 .first|exact eN|refine eM ?_
 .first|exact eN|refine eM ?_
 rintro _ _ ⟨rfl,rfl⟩;refine⟨[(1,.nm 1),(2,.nm 2),(3,.nm 3),(4,.nm 4),(5,.nm 5)],.tup [.p T3 (CT h f ns n ⟨#[72,73,71,72]⟩).1.1,.p .bool (CT h f ns n ⟨#[72,73,71,72]⟩).1.2],EI h f a b (CT h f ns n ⟨#[72,73,71,72]⟩).2 g qs,rfl,rfl,?_,?_,rfl,rfl,?_⟩
 .first|exact eN|refine eM ?_
 .first|exact eN|refine eM ?_
 simp only[EI,Et];generalize CT h f ns n ⟨#[72,73,71,72]⟩=i at *;refine rL c ?_ ?_
 .trivial
 repeat'(first|exact trivial|apply eS rfl|apply AB|refine rX c ?_ ?_|refine rC ?_ ?_<;>intro d<;>try(cases d;done))
 .have e:U7 h f ns qs n=(false,i.2,qs):=k.trans (At (by revert d;simp));exact fM c [.tmp 4] (.p .bool false) eT ⟨by rw[e],by rw[e]⟩
 have e:=k.trans (As (by revert d;simp));rw[e];clear e k d;refine cP 2 c ?_ ?_
 .trivial
 refine rM c (SH hs j l ha h0 h1 ⟨#[76,79,87]⟩ hh a b g qs) [(1,.nm 1),(2,.nm 2),(3,.nm 3),(4,.nm 4),(5,.nm 5)] [3,4,5] ?_ ?_ ?_
 .first|exact eN|refine eM ?_
 .first|exact eN|refine eM ?_
 rintro _ _ ⟨rfl,rfl⟩;refine⟨[(1,.nm 1),(2,.nm 2),(3,.nm 3),(4,.nm 4),(5,.nm 5)],.tup [.p T3 (CT h f i.2 n ⟨#[76,79,87]⟩).1.1,.p .bool (CT h f i.2 n ⟨#[76,79,87]⟩).1.2],EI h f a b (CT h f i.2 n ⟨#[76,79,87]⟩).2 g qs,rfl,rfl,?_,?_,rfl,rfl,?_⟩
 .first|exact eN|refine eM ?_
 .first|exact eN|refine eM ?_
 simp only[EI,Et];generalize CT h f i.2 n ⟨#[76,79,87]⟩=m at *;refine rL c ?_ ?_
 .trivial
 repeat'(first|exact trivial|apply eS rfl|apply AB|refine rX c ?_ ?_|refine rC ?_ ?_<;>intro d<;>try(cases d;done))
 .simp only[AO];omega
 have q:qs.length+1=(qs++[(i.1.1,m.1.1)]).length:=by simp
 rw[q];exact fM c [.tmp 4] (.p .bool m.1.2) eT ⟨rfl,rfl⟩
end
end Go.Proofs.YtglkoagnnnpimaaGreatDoor.Fw
