/- This program's types; a slice compared with nil; from a contract to the given statement. -/
import Derived.Test.YtapkhdkbkodbjaaGreatEZI
import Derived.Test.YtapkhdkbkodbjaaGreatChecked
import Derived.Laws.Cover3
import Derived.Carry
import Derived.SizedLaws
import Derived.OpenShut
set_option linter.unusedVariables false
set_option linter.unusedSimpArgs false
namespace Go.Proofs.YtapkhdkbkodbjaaGreat.Fw
section
open Go
abbrev T1:Ty:=.ref 1
abbrev T2:Ty:=.int .i64
abbrev T3:Ty:=.int .i64
abbrev T4:Ty:=.bool
abbrev T5:Ty:=.int .u8
abbrev T9:Ty:=.str
abbrev MU:Ty:=.int .i64
abbrev Ee:Ty:=.slice T3
abbrev GW:Ty:=.slice T9
abbrev Av:Ty:=.agg (.prod T3 (T3))
abbrev AAZ:Ty:=.ref 0
abbrev AB0:Ty:=.ref 1
abbrev AB1:Ty:=.ref 2
abbrev AB2:Ty:=.ref 1
abbrev AB3:Ty:=.ref 1
abbrev qB:Ty:=.agg (.prod T9 (T9))
abbrev A2j:Ty:=.agg (.prod T9 (T3))
abbrev A2k:Ty:=.agg (.prod T3 (T3))
abbrev J6:Ty:=.agg (.prod T3 (T3))
abbrev AB4:Ty:=.slice J6
abbrev AB5:Ty:=.ref 1
abbrev AB6:Ty:=.ref 1
abbrev AB7:Ty:=.ref 2
abbrev AB8:Ty:=.ref 1
abbrev AB9:Ty:=.ref 0
abbrev Sq:Ty:=.int .u64
abbrev ABa:Ty:=.ref 0
abbrev ABb:Ty:=.ref 1
abbrev ABc:Ty:=.ref 1
abbrev ABd:Ty:=.ref 1
abbrev ABe:Ty:=.ref 1
abbrev ABf:Ty:=.ref 1
abbrev ABg:Ty:=.ref 1
abbrev ABh:Ty:=.int .u64
abbrev ABi:Ty:=.int .i64
abbrev ABj:Ty:=.int .u32
abbrev ABk:Ty:=.int .u64
abbrev ABl:Ty:=.ref 0
abbrev ABm:Ty:=.ref 0
abbrev A99:Ty:=.agg (.prod T9 (T9))
abbrev QG:Ty:=.slice A2j
abbrev T51:Ty:=.slice A99
abbrev T53:Ty:=.agg (.prod T3 (T51))
abbrev Cl:Ty:=.slice Av
abbrev GX:Ty:=.agg (.prod T3 (Cl))
abbrev A9a:Ty:=.slice Cl
abbrev BX:Ty:=.slice Sq
abbrev Ze:Ty:=.slice A2k
abbrev qC:Ty:=.agg (.prod T9 (.prod BX (.prod Ee (Ze))))
abbrev A6B:Ty:=.slice Ze
abbrev fA:Ty:=.agg (.prod T9 (BX))
abbrev qD:Ty:=.slice qB
abbrev zF:Ty:=.agg (.prod T9 (.prod GW (qD)))
abbrev VT:Ty:=.slice BX
abbrev Fc:Ty:=.slice zF
abbrev DV:Ty:=.slice GX
abbrev DK:Ty:=.agg (DV)
abbrev T27:Ty:=.agg (.prod T9 (.prod T3 (DK)))
abbrev O2:Ty:=.slice qC
abbrev D8:Ty:=.agg (.prod O2 (QG))
abbrev T38:Ty:=.slice DK
abbrev T40:Ty:=.agg (.prod Fc (.prod T27 (.prod T38 (T38))))
abbrev T55:Ty:=.agg (.prod T9 (.prod T53 (DK)))
abbrev ABn:Ty:=.agg (.prod D8 (.prod Ee (.prod Ee (A9a))))
abbrev kH:Ty:=.agg (.prod D8 (.prod T3 (.prod T3 (.prod T3 (.prod T3 (.prod T3 (.prod T3 (.prod T3 (T3)))))))))
abbrev KS:Ty:=.slice fA
abbrev ABo:Ty:=.agg (.prod DK (.prod Ee (Ee)))
abbrev ABp:Ty:=.agg (.prod D8 (.prod Ee (Ee)))
set_option maxRecDepth 100000
def A3:List (Nat×TI):=[(1,⟨T1,[],0,8⟩),
 (2,⟨T2,[],0,8⟩),
 (3,⟨T3,[],0,8⟩),
 (4,⟨T4,[],0,1⟩),
 (5,⟨T5,[],0,1⟩),
 (9,⟨T9,[],0,16⟩),
 (22,⟨Fc,[],158,24⟩),
 (23,⟨DV,[],93,24⟩),
 (25,⟨DK,[(0,1)],0,24⟩),
 (27,⟨T27,[(0,1),(1,1),(2,1)],0,48⟩),
 (28,⟨O2,[],144,24⟩),
 (29,⟨QG,[],163,24⟩),
 (31,⟨D8,[(0,1),(1,1)],0,48⟩),
 (35,⟨MU,[],0,8⟩),
 (38,⟨T38,[],25,24⟩),
 (40,⟨T40,[(0,1),(1,3),(4,1),(5,1)],0,120⟩),
 (51,⟨T51,[],288,24⟩),
 (53,⟨T53,[(0,1),(1,1)],0,32⟩),
 (55,⟨T55,[(0,1),(1,2),(3,1)],0,72⟩),
 (61,⟨Ee,[],3,24⟩),
 (91,⟨Cl,[],106,24⟩),
 (93,⟨GX,[(0,1),(1,1)],0,32⟩),
 (95,⟨GW,[],9,24⟩),
 (106,⟨Av,[(0,1),(1,1)],0,16⟩),
 (108,⟨AAZ,[],0,8⟩),
 (109,⟨A9a,[],91,24⟩),
 (111,⟨ABn,[(0,2),(2,1),(3,1),(4,1)],0,120⟩),
 (113,⟨AB0,[],0,8⟩),
 (115,⟨kH,[(0,2),(2,1),(3,1),(4,1),(5,1),(6,1),(7,1),(8,1),(9,1)],0,112⟩),
 (119,⟨AB1,[(3,4)],0,8⟩),
 (120,⟨AB2,[],0,8⟩),
 (134,⟨AB3,[],0,8⟩),
 (140,⟨BX,[],186,24⟩),
 (142,⟨Ze,[],170,24⟩),
 (144,⟨qC,[(0,1),(1,1),(2,1),(3,1)],0,88⟩),
 (145,⟨A6B,[],142,24⟩),
 (148,⟨KS,[],152,24⟩),
 (152,⟨fA,[(0,1),(1,1)],0,40⟩),
 (156,⟨qD,[],161,24⟩),
 (158,⟨zF,[(0,1),(1,1),(2,1)],0,64⟩),
 (161,⟨qB,[(0,1),(1,1)],0,32⟩),
 (163,⟨A2j,[(0,1),(1,1)],0,24⟩),
 (170,⟨A2k,[(0,1),(1,1)],0,16⟩),
 (172,⟨J6,[(0,1),(1,1)],3,16⟩),
 (173,⟨AB4,[],172,24⟩),
 (174,⟨AB5,[],0,8⟩),
 (175,⟨AB6,[],0,8⟩),
 (177,⟨AB7,[(3,3)],0,8⟩),
 (178,⟨AB8,[],0,8⟩),
 (182,⟨AB9,[],0,8⟩),
 (184,⟨ABo,[(0,1),(1,1),(2,1)],0,72⟩),
 (186,⟨Sq,[],0,8⟩),
 (194,⟨VT,[],140,24⟩),
 (203,⟨ABa,[],0,8⟩),
 (205,⟨ABp,[(0,2),(2,1),(3,1)],0,96⟩),
 (211,⟨ABb,[],0,8⟩),
 (219,⟨ABc,[],0,8⟩),
 (220,⟨ABd,[],0,8⟩),
 (222,⟨ABe,[],0,8⟩),
 (235,⟨ABf,[],0,8⟩),
 (239,⟨ABg,[],0,8⟩),
 (243,⟨ABh,[],0,8⟩),
 (252,⟨ABi,[],0,8⟩),
 (259,⟨ABj,[],0,4⟩),
 (263,⟨ABk,[],0,8⟩),
 (267,⟨ABl,[],0,8⟩),
 (269,⟨ABm,[],0,8⟩),
 (288,⟨A99,[(0,1),(1,1)],0,32⟩)]
theorem tyTab_ok (f) (a:List Nat) (b:List Nat:=[]) (ne:List (Nat×TypeId):=[]):DQ Tryz.prog ⟨A3,f,b,ne,a⟩:=A5V (by kernel_rfl)
theorem drawsAny:Tryz.prog.follows .mixedOrders=true:=by kernel_rfl
theorem KT:lk 1 A3=some ⟨T1,[],0,8⟩:=rfl
theorem zG:lk 2 A3=some ⟨T2,[],0,8⟩:=rfl
theorem ty3:lk 3 A3=some ⟨T3,[],0,8⟩:=rfl
theorem ty4:lk 4 A3=some ⟨T4,[],0,1⟩:=rfl
theorem ty5:lk 5 A3=some ⟨T5,[],0,1⟩:=rfl
theorem ty9:lk 9 A3=some ⟨T9,[],0,16⟩:=rfl
theorem A9b:lk 22 A3=some ⟨Fc,[],158,24⟩:=rfl
theorem A9c:lk 23 A3=some ⟨DV,[],93,24⟩:=rfl
theorem A9d:lk 25 A3=some ⟨DK,[(0,1)],0,24⟩:=rfl
theorem A9e:lk 27 A3=some ⟨T27,[(0,1),(1,1),(2,1)],0,48⟩:=rfl
theorem A9f:lk 28 A3=some ⟨O2,[],144,24⟩:=rfl
theorem A9g:lk 29 A3=some ⟨QG,[],163,24⟩:=rfl
theorem A9h:lk 31 A3=some ⟨D8,[(0,1),(1,1)],0,48⟩:=rfl
theorem A9i:lk 35 A3=some ⟨MU,[],0,8⟩:=rfl
theorem A9j:lk 38 A3=some ⟨T38,[],25,24⟩:=rfl
theorem A9k:lk 40 A3=some ⟨T40,[(0,1),(1,3),(4,1),(5,1)],0,120⟩:=rfl
theorem A9l:lk 51 A3=some ⟨T51,[],288,24⟩:=rfl
theorem A9m:lk 53 A3=some ⟨T53,[(0,1),(1,1)],0,32⟩:=rfl
theorem A9n:lk 55 A3=some ⟨T55,[(0,1),(1,2),(3,1)],0,72⟩:=rfl
theorem A9o:lk 61 A3=some ⟨Ee,[],3,24⟩:=rfl
theorem A9p:lk 91 A3=some ⟨Cl,[],106,24⟩:=rfl
theorem A9q:lk 93 A3=some ⟨GX,[(0,1),(1,1)],0,32⟩:=rfl
theorem A9r:lk 95 A3=some ⟨GW,[],9,24⟩:=rfl
theorem A2l:lk 106 A3=some ⟨Av,[(0,1),(1,1)],0,16⟩:=rfl
theorem A2m:lk 108 A3=some ⟨AAZ,[],0,8⟩:=rfl
theorem A2n:lk 109 A3=some ⟨A9a,[],91,24⟩:=rfl
theorem A2o:lk 111 A3=some ⟨ABn,[(0,2),(2,1),(3,1),(4,1)],0,120⟩:=rfl
theorem A2p:lk 113 A3=some ⟨AB0,[],0,8⟩:=rfl
theorem A2q:lk 115 A3=some ⟨kH,[(0,2),(2,1),(3,1),(4,1),(5,1),(6,1),(7,1),(8,1),(9,1)],0,112⟩:=rfl
theorem A2r:lk 119 A3=some ⟨AB1,[(3,4)],0,8⟩:=rfl
theorem A2s:lk 120 A3=some ⟨AB2,[],0,8⟩:=rfl
theorem A2t:lk 134 A3=some ⟨AB3,[],0,8⟩:=rfl
theorem A2u:lk 140 A3=some ⟨BX,[],186,24⟩:=rfl
theorem A2v:lk 142 A3=some ⟨Ze,[],170,24⟩:=rfl
theorem A2w:lk 144 A3=some ⟨qC,[(0,1),(1,1),(2,1),(3,1)],0,88⟩:=rfl
theorem A2x:lk 145 A3=some ⟨A6B,[],142,24⟩:=rfl
theorem A2y:lk 148 A3=some ⟨KS,[],152,24⟩:=rfl
theorem A2z:lk 152 A3=some ⟨fA,[(0,1),(1,1)],0,40⟩:=rfl
theorem A2A:lk 156 A3=some ⟨qD,[],161,24⟩:=rfl
theorem A2B:lk 158 A3=some ⟨zF,[(0,1),(1,1),(2,1)],0,64⟩:=rfl
theorem A2C:lk 161 A3=some ⟨qB,[(0,1),(1,1)],0,32⟩:=rfl
theorem A2D:lk 163 A3=some ⟨A2j,[(0,1),(1,1)],0,24⟩:=rfl
theorem A2E:lk 170 A3=some ⟨A2k,[(0,1),(1,1)],0,16⟩:=rfl
theorem A2F:lk 172 A3=some ⟨J6,[(0,1),(1,1)],3,16⟩:=rfl
theorem A2G:lk 173 A3=some ⟨AB4,[],172,24⟩:=rfl
theorem A2H:lk 174 A3=some ⟨AB5,[],0,8⟩:=rfl
theorem A2I:lk 175 A3=some ⟨AB6,[],0,8⟩:=rfl
theorem A2J:lk 177 A3=some ⟨AB7,[(3,3)],0,8⟩:=rfl
theorem A2K:lk 178 A3=some ⟨AB8,[],0,8⟩:=rfl
theorem A2L:lk 182 A3=some ⟨AB9,[],0,8⟩:=rfl
theorem A2M:lk 184 A3=some ⟨ABo,[(0,1),(1,1),(2,1)],0,72⟩:=rfl
theorem A2N:lk 186 A3=some ⟨Sq,[],0,8⟩:=rfl
theorem A2O:lk 194 A3=some ⟨VT,[],140,24⟩:=rfl
theorem A2P:lk 203 A3=some ⟨ABa,[],0,8⟩:=rfl
theorem A2Q:lk 205 A3=some ⟨ABp,[(0,2),(2,1),(3,1)],0,96⟩:=rfl
theorem A2R:lk 211 A3=some ⟨ABb,[],0,8⟩:=rfl
theorem A2S:lk 219 A3=some ⟨ABc,[],0,8⟩:=rfl
theorem A2T:lk 220 A3=some ⟨ABd,[],0,8⟩:=rfl
theorem A2U:lk 222 A3=some ⟨ABe,[],0,8⟩:=rfl
theorem A2V:lk 235 A3=some ⟨ABf,[],0,8⟩:=rfl
theorem A2W:lk 239 A3=some ⟨ABg,[],0,8⟩:=rfl
theorem A2X:lk 243 A3=some ⟨ABh,[],0,8⟩:=rfl
theorem A2Y:lk 252 A3=some ⟨ABi,[],0,8⟩:=rfl
theorem A2Z:lk 259 A3=some ⟨ABj,[],0,4⟩:=rfl
theorem A30:lk 263 A3=some ⟨ABk,[],0,8⟩:=rfl
theorem A31:lk 267 A3=some ⟨ABl,[],0,8⟩:=rfl
theorem A32:lk 269 A3=some ⟨ABm,[],0,8⟩:=rfl
theorem A33:lk 288 A3=some ⟨A99,[(0,1),(1,1)],0,32⟩:=rfl
end
section
open Go Go.RowKit
section
variable {c:Cx} {R:Exit->Act->World->Prop} {k:List Dg} {σ σ':St}
theorem zH {P:Program} {tb:Tb} {t:TypeId} {ti:TI} {e:Ty} (hT:ET P tb t ti) (c:ti.ty=.slice e) (w:World) (a:Option Addr) (n m:Nat):(Op.equal t (.slice a n m) (.slice none 0 0)).run P w=.ok a.isNone w:=by
 have b:=hT.2;rw[c]at b;exact run_equal_slice_nil w t ti.el a n m b.1
def kI:Option TI->Bool
 | some ⟨.slice _,_,_,_⟩=>true
 | _=>false
theorem zI (g:c.Ok) {ops:Array Oper} {rest:List Oper} {d:Nat} {t:TypeId} {x:Operand} {r ty:TypeId} {pos:String} {after:Array Edge} {e:Ty} {l:List e.den} (neg:Bool)
  (G:Am σ x=some (.p (.slice e) l)) (i:kI (lk t c.tb.ty)=true) (hk:∀b:Bool,(b=true->l=[])->JK c R k ops rest (σ.add (.p .bool (if neg then !b else b)) [] (some d))) :
  JK c R k ops (⟨some d,.binOp (if neg then .neq else .eql) t x (.const (.slice none 0 0)) r,ty,pos,after,none⟩ :: rest) σ:=by
 intro n z a w F;obtain⟨ρ,q⟩:=F;have y:G9 (vw w c.O0 σ ρ) σ a.eval:=E0 q.env;have H:=y x _ G;obtain⟨cs,⟨ad,m,rfl,h1,N,f⟩,j⟩:=H;have j:a.eval x=.slice ad (List.length l) m:=j;unfold kI at i;split at i
 .rename_i M offs el bytes A;have s:=g.T _ _ A;have heq:=zH s rfl w ad (List.length l) m;unfold wpListIn;rw[BY (by simp[Region.wanted])];have D:(execOp a.eval ⟨some d,.binOp (if neg then .neq else .eql) t x (.const (.slice none 0 0)) r,ty,pos,after,none⟩).run c.P w=.ok (.value (.bool (if neg then !ad.isNone else ad.isNone))) w:=by
   have I:a.eval (.const (.slice none 0 0))=.slice none 0 0:=rfl;cases neg<;>simp[execOp,j,I,eqGuard,binOp,heq]
  refine Ay D ?_ (λcl h=>by cases neg<;>cases h);have u:ad.isNone=true->l=[]:=λhn=>by
   rcases f with f|⟨J,rfl,_⟩
   .exact f
   simp at hn
  have C:QS w c.O0 σ ρ (.p .bool (if neg then !ad.isNone else ad.isNone)) [] (.bool (if neg then !ad.isNone else ad.isNone)) ρ w:=QS.still (Bq _);have E:=q.add g.K g.O (dst:=some d) (λL v=>by cases v;exact B2 (n _ AAw) d rfl) rfl C;exact hk ad.isNone u (λo B=>n o (by simp[B])) z _ _ ⟨ρ,E⟩
 cases i
end
end
section
open Go Go.RowKit Go.ChangeShapes Go.WideShapes
set_option maxRecDepth 100000
def vK (r:Ty->TypeId->Bool) (P:Program):Ty->Nat->List Field->Bool
 | .prod a b,o,fs=>match fs with
  | f :: fs=>f.offset==o&&P.cellsOf f.type==a.size&&r a f.type&&vK r P b (o+a.size) fs
  | []=>false
 | s,o,[f]=>f.offset==o&&P.cellsOf f.type==s.size&&r s f.type
 | _,_,_=>false
def zJ (P:Program) (m:Nat) (e:TypeId):List Field:=(List.range m).map λi=>{ (default:Field) with offset:=i*P.cellsOf e,type:=e }
def rd (P:Program):Nat->Ty->TypeId->Bool
 | 0,_,_=>false
 | _+1,.int k,t=>isI k (P.underlying t)
 | _+1,.bool,t=>match P.underlying t with|some .bool=>true|_=>false
 | _+1,.str,t=>match P.underlying t with|some .string=>true|_=>false
 | n+1,.slice e,t=>match P.underlying t with|some (.slice et)=>decide (0<P.bytesOf et)&&P.cellsOf et==e.size&&rd P n e et|_=>false
 | n+1,.agg s,t=>match P.underlying t with|some (.struct fs)=>P.cellsOf t==s.size&&vK (rd P n) P s 0 fs.toList|some (.array m e)=>P.cellsOf t==s.size&&vK (rd P n) P s 0 (zJ P m e)|_=>false
 | _+1,_,_=>false
theorem vL {P:Program} {n:Nat} {t:TypeId} (h:rd P (n+1) .bool t=true):P.underlying t=some .bool:=by
 simp only[rd]at h;split at h
 .assumption
 cases h
theorem A34 {P:Program} {n:Nat} {t:TypeId} (h:rd P (n+1) .str t=true):P.underlying t=some .string:=by
 simp only[rd]at h;split at h
 .assumption
 cases h
theorem kJ {P:Program} {n:Nat} {e:Ty} {t:TypeId} (h:rd P (n+1) (.slice e) t=true):∃et,P.underlying t=some (.slice et)/\0<P.bytesOf et/\P.cellsOf et=e.size/\rd P n e et=true:=by
 simp only[rd]at h;split at h
 .rename_i et hu;simp only[As,NO,Tx]at h;exact⟨et,hu,h.1.1,h.1.2,h.2⟩
 cases h
theorem A35 {P:Program} {n:Nat} {s:Ty} {t:TypeId} (h:rd P (n+1) (.agg s) t=true):(∃fs,P.underlying t=some (.struct fs)/\P.cellsOf t=s.size/\vK (rd P n) P s 0 fs.toList=true)\/∃m e,P.underlying t=some (.array m e)/\P.cellsOf t=s.size/\vK (rd P n) P s 0 (zJ P m e)=true:=by
 simp only[rd]at h;split at h
 .rename_i fs hu;simp only[As,Tx]at h;exact .inl ⟨fs,hu,h.1,h.2⟩
 .rename_i m e hu;simp only[As,Tx]at h;exact .inr ⟨m,e,hu,h.1,h.2⟩
 cases h
theorem zK {w:World} {base:Nat} {a:Addr} {n:Nat} {cs:List Value} (h:w.cells? base a n=some cs):cs.length=n/\∀(j:Nat) (v:Value),cs[j]?=some v->w.cell? (a.add j)=some v:=by
 unfold World.cells? at h;split at h
 .have h1:=mapM_some_length h;simp only[ACF]at h1;refine⟨h1,λj v b=>?_⟩;have c:j<n:=by
   obtain⟨c,_⟩:=R8.1 b;omega
  rw[mapM_some_get h j j (by simp[c]),b]
 cases h
section
variable {H:Type} {enc:TypeId×Value->H} {P:Program} {w:World} {spare:Nat->Bool} {held:Bool}
theorem kK {e:TypeId}:∀ {l:List (DataW H)} {d:DataW H},d∈l->∀n∈d.weights P e,n∈DataW.weightsAll P e l
 | a :: l,d,b,n,hn=>by
  simp only[DataW.weightsAll,ON];rcases Do.1 b with rfl|b
  .exact .inl hn
  exact .inr (kK b n hn)
 | [],_,b,_,_=>by cases b
theorem aH {b:List TypeId} {a:List (DataW H)}:∀ {ts:List TypeId} {ds:List (DataW H)},∀n∈DataW.weightsEach P ts ds,n∈DataW.weightsEach P (ts++b) (ds++a)
 | t :: ts,d :: ds,n,hn=>by
  simp only[DataW.weightsEach,ACf,ON]at hn ⊢;rcases hn with hn|hn
  .exact .inl hn
  exact .inr (aH n hn)
 | [],_,n,hn=>by simp[DataW.weightsEach]at hn
 | _ :: _,[],n,hn=>by simp[DataW.weightsEach]at hn
theorem aI {e:TypeId}:∀ {m:Nat} {k:Nat} {ds:List (DataW H)},∀n∈DataW.weightsEach P (((List.range' k m).map λi=>({ (default:Field) with offset:=i*P.cellsOf e,type:=e }:Field)).map (·.type)) ds,n∈DataW.weightsAll P e ds
 | 0,_,ds,n,hn=>by simp[DataW.weightsEach]at hn
 | m+1,k,[],n,hn=>by
  rw[ADX]at hn;simp[DataW.weightsEach]at hn
 | m+1,k,d :: ds,n,hn=>by
  rw[ADX]at hn;simp only[SK,DataW.weightsEach,ON]at hn;simp only[DataW.weightsAll,ON];rcases hn with hn|hn
  .exact .inl hn
  exact .inr (aI n hn)
theorem Ug {n:Nat} {r:Ty->TypeId->Bool}
  (A:∀ty t,r ty t=true->∀(cs:List Value) (x:DataW H×List MemPlace),DataW.trod enc P w 0 spare held n t cs=some x->(∀b∈x.1.weights P t,b<=reachBytes)->∃d:ty.den,B5 w (λ_=>False) ty cs d) (cs:List Value) :
  ∀(s:Ty) (o:Nat) (fs:List Field),vK r P s o fs=true->∀xs:List (DataW H×List MemPlace),xs.length=fs.length ->
   (∀(i:Nat) (f:Field),fs[i]?=some f->DataW.trod enc P w 0 spare held n f.type ((cs.drop f.offset).take (P.cellsOf f.type))=xs[i]?) ->
   (∀b∈DataW.weightsEach P (fs.map (·.type)) (xs.map (·.1)),b<=reachBytes)->∃d:s.den,B5 w (λ_=>False) s ((cs.drop o).take s.size) d:=by
 have one:∀(s:Ty) (o:Nat) (f:Field),(f.offset==o&&P.cellsOf f.type==s.size&&r s f.type)=true->∀x:DataW H×List MemPlace,
   DataW.trod enc P w 0 spare held n f.type ((cs.drop f.offset).take (P.cellsOf f.type))=some x ->
   (∀b∈x.1.weights P f.type,b<=reachBytes)->∃d:s.den,B5 w (λ_=>False) s ((cs.drop o).take s.size) d:=by
  intro s o f h x j c;simp only[As,Tx]at h;obtain⟨⟨rfl,p⟩,q⟩:=h;rw[<-p];exact A s f.type q _ x j c
 have lone:∀(s:Ty) (o:Nat) (f:Field),(f.offset==o&&P.cellsOf f.type==s.size&&r s f.type)=true->∀xs:List (DataW H×List MemPlace),xs.length=[f].length ->
   (∀(i:Nat) (g:Field),[f][i]?=some g->DataW.trod enc P w 0 spare held n g.type ((cs.drop g.offset).take (P.cellsOf g.type))=xs[i]?) ->
   (∀b∈DataW.weightsEach P ([f].map (·.type)) (xs.map (·.1)),b<=reachBytes)->∃d:s.den,B5 w (λ_=>False) s ((cs.drop o).take s.size) d:=by
  intro s o f h xs m j c;obtain⟨x,rfl⟩:∃x,xs=[x]:=ACi.1 (by simpa using m);exact one s o f h x (j 0 f rfl) (λb l=>c b (by simp[DataW.weightsEach,l]))
 intro s;induction s with
 | prod a b E B =>
  intro o fs h xs m j c;cases fs with
  | nil=>simp[vK]at h
  | cons f fs =>
   simp only[vK,As]at h;obtain⟨⟨⟨h1,p⟩,q⟩,y⟩:=h;obtain⟨x,ys,rfl⟩:∃x ys,xs=x :: ys:=List.exists_cons_of_ne_nil (by intro h;subst h;simp at m);obtain⟨u,C⟩:=one a o f (by simp only[h1,p,q,Bool.and_self]) x (j 0 f rfl) (λb l=>c b (by
     simp only[SK,DataW.weightsEach,ON];exact .inl l))
   obtain⟨v,D⟩:=B (o+a.size) fs y ys (by simpa using m) (λi g z=>j (i+1) g z) (λb l=>c b (by
     simp only[SK,DataW.weightsEach,ON];exact .inr l))
   refine⟨(u,v),(cs.drop o).take a.size,(cs.drop (o+a.size)).take b.size,?_,C,D⟩;show (cs.drop o).take (a.size+b.size)=_;rw[List.take_add,ADa]
 | int k=>intro o fs h;match fs,h with|[f],h=>exact lone _ o f (by simpa only[vK] using h)
 | bool=>intro o fs h;match fs,h with|[f],h=>exact lone _ o f (by simpa only[vK] using h)
 | str=>intro o fs h;match fs,h with|[f],h=>exact lone _ o f (by simpa only[vK] using h)
 | slice e _=>intro o fs h;match fs,h with|[f],h=>exact lone _ o f (by simpa only[vK] using h)
 | agg t _=>intro o fs h;match fs,h with|[f],h=>exact lone _ o f (by simpa only[vK] using h)
 | ref k=>intro o fs h;match fs,h with|[f],h=>exact lone _ o f (by simpa only[vK] using h)
theorem A36:∀(k:Nat) (ty:Ty) (t:TypeId),rd P k ty t=true->∀(n:Nat) (cs:List Value) (x:DataW H×List MemPlace),
  DataW.trod enc P w 0 spare held n t cs=some x->(∀b∈x.1.weights P t,b<=reachBytes)->∃d:ty.den,B5 w (λ_=>False) ty cs d:=by
 intro k;induction k with
 | zero=>intro ty t h;simp[rd]at h
 | succ k B =>
  intro ty t h n cs x c l;cases ty with
  | int q =>
   have hu:=Wi (by simpa only[rd] using h);obtain⟨m,rfl,rfl,F⟩:=DataW.trod_int hu c;simp only[Lit.wf,As,NO]at F;exact⟨m,rfl,F⟩
  | bool =>
   obtain⟨b,rfl,rfl⟩:=DataW.trod_bool (vL h) c;exact⟨b,rfl⟩
  | str =>
   obtain⟨b,rfl,rfl,_⟩:=DataW.trod_string (A34 h) c;refine⟨b,rfl,?_⟩;have:=l b.data.toList.length (by simp only[DataW.weights];exact AAw);have p:b.data.toList.length=b.size:=ADd;simp only[reachBytes]at this;simp only[AN];omega
  | slice e =>
   obtain⟨et,hu,L,C,u⟩:=kJ h;rcases DataW.trod_slice hu c with ⟨rfl,rfl⟩|⟨a,len,cap,elems,rest,m,rfl,rfl,rfl,-,U,-,V,Q,-,-⟩
   .exact⟨[],none,0,rfl,OR _,If _,.inl rfl⟩
   have X:len<=AN:=by
    have h1:=l ((elems.length+rest.length)*P.bytesOf et) (by simp only[DataW.weights,hu,Of];exact AAw);have p:elems.length+rest.length<=(elems.length+rest.length)*P.bytesOf et:=Nat.le_mul_of_pos_right _ L;simp only[reachBytes]at h1;simp only[AN];omega
   have D:∀i,i<len->∃d:e.den,∃g:List Value,g.length=e.size/\(∀(j:Nat) (v:Value),g[j]?=some v->w.cell? (a.add (i*e.size+j))=some v)/\B5 w (λ_=>False) e g d:=by
    intro i hi;have h1:=Q i hi;obtain⟨x,c⟩:∃x,elems[i]?=some x:=⟨_,AT O1⟩;rw[c]at h1;obtain⟨g,p,G⟩:=Option.bind_eq_some_iff.1 h1;obtain⟨I,J⟩:=zK p;obtain⟨d,o⟩:=B e et u m g x G (λb r=>l b (by
     simp only[DataW.weights,hu];exact IN _ (SP _ (kK (DO.2 ⟨x,tO c,rfl⟩) b r))))
    refine⟨d,g,by rw[I,C],λj v S=>?_,o⟩;have:=J j v S
    rwa [Db,C]at this
   have K:∃ds:List e.den,ds.length=len/\∀(i:Nat) (d:e.den),ds[i]?=some d->∃g:List Value,g.length=e.size/\(∀(j:Nat) (v:Value),g[j]?=some v->w.cell? (a.add (i*e.size+j))=some v)/\B5 w (λ_=>False) e g d:=by
    refine⟨(List.range len).pmap (λi hi=>Classical.choose (D i hi)) (λi hi=>SH.1 hi),by simp,λi d o=>?_⟩;rw[List.getElem?_pmap]at o;simp only[Option.pmap_eq_some_iff]at o;obtain⟨j,h1,p,rfl⟩:=o;have R:j=i:=by
     obtain⟨W,u⟩:=R8.1 p;simpa using u.symm
    subst R;exact Classical.choose_spec (D j h1)
   obtain⟨ds,N,O⟩:=K;exact⟨ds,some a,cap,by rw[N],by omega,by omega,.inr ⟨a,rfl,λh=>h,O⟩⟩
  | agg s =>
   rcases A35 h with ⟨fs,hu,M,hf⟩|⟨q,e,hu,M,hf⟩
   .obtain⟨xs,m,rfl,rfl,T,z,A⟩:=DataW.trod_struct hu c;obtain⟨d,o⟩:=Ug (λty t y cs x c l=>B ty t y m cs x c l) cs s 0 fs.toList hf xs (by simpa using z) (λi f hi=>A i f (by simpa using hi)) (by
     simpa[DataW.weights,hu] using l)
    refine⟨d,?_⟩;show B5 w _ s cs d
    rwa [f4,An O1]at o
   obtain⟨xs,m,rfl,rfl,T,z,A⟩:=DataW.trod_array hu c;obtain⟨d,o⟩:=Ug (λty t y cs x c l=>B ty t y m cs x c l) cs s 0 (zJ P q e) hf xs (by simp[zJ,z]) (λi f hi=>by
    unfold zJ at hi;rw[SR]at hi;by_cases E:i<q
    .rw[ABr E]at hi;have hi:({ (default:Field) with offset:=i*P.cellsOf e,type:=e }:Field)=f:=by simpa using hi
     rw[<-hi];exact A i E
    .rw[SA (by simp;omega)]at hi;cases hi) (λb r=>l b (by
    simp only[DataW.weights,hu];unfold zJ at r;rw[List.range_eq_range']at r;exact aI b r))
   refine⟨d,?_⟩;show B5 w _ s cs d
   rwa [f4,An O1]at o
  | prod a b=>simp[rd]at h
  | ref j=>simp[rd]at h
theorem A6C {k:Nat} {ty:Ty} {t:TypeId} {v:Value} {r:Reach} {base:Nat} (h:rd P k ty t=true) (d:Value.okWide P w r base t v):v=ty.wrap v.cells.toList:=by
 cases k with
 | zero=>simp[rd]at h
 | succ k =>
  cases ty with
  | int q =>
   obtain⟨n,rfl⟩:=okWide_int (Wi (by simpa only[rd] using h)) d;rfl
  | bool =>
   obtain⟨n,rfl⟩:=okWide_bool (vL h) d;rfl
  | str =>
   obtain⟨n,rfl⟩:=okWide_string (A34 h) d;rfl
  | slice e =>
   obtain⟨et,hu,_⟩:=kJ h;obtain⟨a,l,c,rfl⟩:=okWide_slice hu d;rfl
  | agg s =>
   rcases A35 h with ⟨fs,hu,_⟩|⟨q,e,hu,_⟩
   .obtain⟨cs,rfl,_⟩:=okWide_struct hu d;simp[Ty.wrap,Value.cells]
   simp only[Value.okWide,hu]at d;obtain⟨cs,rfl,_⟩:=d;simp[Ty.wrap,Value.cells]
  | prod a b=>simp[rd]at h
  | ref j=>simp[rd]at h
def O3 (P:Program):List Ty->List TypeId->Bool
 | [],[]=>true
 | ty :: a,t :: ts=>rd P 50 ty t&&P.readableRec t&&decide (t<P.types.size)&&O3 P a ts
 | _,_=>false
theorem kL {r:Reach} {base:Nat}:∀(a:List Ty) (ts:List TypeId) (c:List Value) (ds:List (DataW H)) (p:List MemPlace),O3 P a ts=true->DataW.TrodAll enc P w 0 spare held ts c ds p ->
  (∀(j:Nat) (t:TypeId) (v:Value),ts[j]?=some t->c[j]?=some v->Value.okWide P w r base t v)->(∀b∈DataW.weightsEach P ts ds,b<=reachBytes)->∃xs:Ku a,UQ w (λ_=>False) a c xs
 | [],[],c,ds,p,_,h,_,_=>by
  obtain⟨rfl,_,_⟩:=trodAll_nil h;exact⟨(),rfl⟩
 | ty :: a,t :: ts,c,ds,p,g,h,i,e=>by
  simp only[O3,As]at g;obtain⟨⟨⟨h1,_⟩,_⟩,m⟩:=g;obtain⟨v,k,d,l,D,A,rfl,rfl,rfl,⟨n,o⟩,q⟩:=trodAll_cons h;simp only[DataW.weightsEach,ON]at e;obtain⟨x,y⟩:=A36 50 ty t h1 n _ _ o (λb f=>e b (.inl f));obtain⟨xs,z⟩:=kL a ts k l A m q (λj B C s u=>i (j+1) B C s u) (λb f=>e b (.inr f));exact⟨(x,xs),v,k,rfl,⟨_,y,A6C h1 (i 0 t v rfl rfl)⟩,z⟩
 | [],_ :: _,_,_,_,h,_,_,_=>by simp[O3]at h
 | _ :: _,[],_,_,_,h,_,_,_=>by simp[O3]at h
theorem aJ (i:laidOutB P=true) {W f:World} (g:Below W.heap.size W f):∀(e:List Ty) (ts:List TypeId) (a:List Value) (ds:List (DataW H)) (p:List MemPlace),O3 P e ts=true ->
  DataW.TrodAll enc P W 0 (λ_=>true) true ts a ds p->(∀x∈p,x.block<W.heap.size)->DataW.TrodAll enc P f 0 (λb=>decide (b<W.heap.size)) true ts a ds p
 | [],[],a,ds,p,_,h,_=>by
  obtain⟨rfl,rfl,rfl⟩:=trodAll_nil h;rfl
 | ty :: e,t :: ts,a,ds,p,k,h,j=>by
  simp only[O3,As,NO]at k;obtain⟨⟨⟨_,h1⟩,n⟩,o⟩:=k;obtain⟨v,u,d,m,s,l,rfl,rfl,rfl,q,r⟩:=trodAll_cons h;exact⟨s,l,Below.trod i h1 n q g (λx c=>j x (SP _ c)),aJ i g e ts u m l o r (λx c=>j x (AAx _ c)),rfl⟩
 | [],_ :: _,_,_,_,h,_,_=>by simp[O3]at h
 | _ :: _,[],_,_,_,h,_,_=>by simp[O3]at h
end
theorem A37 {w:World} {O:Nat->Prop} {u:Value} {w':World} (h:A1B w O [.p .bool true] u w'):u=.bool true/\Below w.heap.size w w':=by
 obtain⟨ρ',a⟩:=h 0;refine⟨?_,a.below⟩;obtain⟨cs,h1,b⟩:Bp _ _ .bool u true:=a.av;have h1:cs=[.bool true]:=h1;rw[b,h1];rfl
theorem A38 {P:Program} {f:FuncId} {fn:Func} {sp:AZ} {s:ChangeSpec} {tb:TypeId} (J:Aa P f sp) (L:∀ds,sp.pre ds) (K:∀ds,sp.out ds=[.p .bool true])
  (F:laidOutB P=true) (r:O3 P sp.ins fn.params.toList=true) (N:fn.resultTypes=#[tb]) (D:P.underlying tb=some .bool) (w:s.vars=[])
  (hs:∀(H:Type) (ds:List (DataW H)),ds.length=fn.params.size->(s.fn H ds).results=[.lit (.bool true)]/\(s.fn H ds).args=ds/\(s.fn H ds).vars=[])
  {H:Type} {enc:TypeId×Value->H} {W:World} {base:Nat} {args:Array Value} {ds l:List (DataW H)} {y:List MemPlace} {X:List TypeId}
  (S:∀(j:Nat) t v,fn.params[j]?=some t->args[j]?=some v->Value.okWide P W .any base t v)
  (n:DataW.Whole enc P fn.params.toList s.vars false W args.toList ds l y)
  (O:(DataW.weightsEach P (fn.params.toList++X) (ds++l)).all (·<=reachBytes)=true) :
  Calls P f args W λe k=>∃v,e=.returned v/\s.post enc P fn false true false false W args v k:=by
 have o:=n;obtain⟨p,q,c,m,rfl,Z,aa⟩:=n;rw[w]at m;obtain⟨rfl,rfl⟩:=trodVars_none m;obtain⟨xs,U⟩:=kL sp.ins fn.params.toList args.toList ds p r c (λj t v Q R=>S j t v (by simpa using Q) (by simpa using R))
  (λb a=>by simpa using No.1 O b (aH b a))
 have I:∀x∈p,x.block<W.heap.size:=λx T=>by simpa using o.lt x (SP _ T)
 have G:ds.length=fn.params.size:=by
  have:∀(ts:List TypeId) (i:List Value) (ds:List (DataW H)) (p:List MemPlace),DataW.TrodAll enc P W 0 (λ_=>true) true ts i ds p->ds.length=ts.length:=by
   intro ts;induction ts with
   | nil=>intro i ds p h;obtain⟨_,rfl,_⟩:=trodAll_nil h;rfl
   | cons t ts V=>intro i ds p h;obtain⟨v,ae,d,Y,ab,ad,rfl,rfl,rfl,_,M⟩:=trodAll_cons h;simp[V _ _ _ M]
  simpa using this _ _ _ _ c
 have g:=J.2 W (λ_=>False) args.toList xs (λ_ h=>h.elim) U (L xs);rw[K]at g;have C:args.toList.toArray=args:=by simp
 rw[C]at g;refine g.mono λe k ⟨u,E,hu⟩=>?_;obtain⟨rfl,a⟩:=A37 hu;obtain⟨z,A,B⟩:=hs H (ds++[]) (by simpa using G);refine⟨_,E,_,_,_,[],p,[],o,?_,?_,?_,a.frame _,λh=>by cases h⟩
 .rw[z,N];exact trodAll_mk1 (shut_bool D _)
 .rw[A,SJ];exact aJ F a sp.ins _ _ _ _ r c I
 rw[B,w];rfl
end
end Go.Proofs.YtapkhdkbkodbjaaGreat.Fw
