/- This program's types; a slice compared with nil; from a contract to the given statement. -/
import Derived.Test.YtapkhdkbkodbjaaGreatFZI
import Derived.Test.YtapkhdkbkodbjaaGreatChecked
import Derived.Laws.Cover3
import Derived.Carry
import Derived.SizedLaws
import Derived.OpenShut
set_option linter.unusedVariables false
set_option linter.unusedSimpArgs false
namespace Go.Proofs.YtapkhdkbkodbjaaGreat.Fw
section
open Go
abbrev T1:Ty:=.ref 1
abbrev T2:Ty:=.int .i64
abbrev T3:Ty:=.int .i64
abbrev T4:Ty:=.bool
abbrev T5:Ty:=.int .u8
abbrev T9:Ty:=.str
abbrev HD:Ty:=.int .i64
abbrev G0:Ty:=.slice T3
abbrev GC:Ty:=.slice T9
abbrev A2:Ty:=.agg (.prod T3 (T3))
abbrev A8D:Ty:=.ref 0
abbrev A8E:Ty:=.ref 1
abbrev A8F:Ty:=.ref 2
abbrev A8G:Ty:=.ref 1
abbrev A8H:Ty:=.ref 1
abbrev mZ:Ty:=.agg (.prod T9 (T9))
abbrev A0F:Ty:=.agg (.prod T9 (T3))
abbrev A0G:Ty:=.agg (.prod T3 (T3))
abbrev Ra:Ty:=.agg (.prod T3 (T3))
abbrev A8I:Ty:=.slice Ra
abbrev A8J:Ty:=.ref 1
abbrev A8K:Ty:=.ref 1
abbrev A8L:Ty:=.ref 2
abbrev A8M:Ty:=.ref 1
abbrev A8N:Ty:=.ref 0
abbrev Rb:Ty:=.int .u64
abbrev A8O:Ty:=.ref 0
abbrev A8P:Ty:=.ref 1
abbrev A8Q:Ty:=.ref 1
abbrev A8R:Ty:=.ref 1
abbrev A8S:Ty:=.ref 1
abbrev A8T:Ty:=.ref 1
abbrev A8U:Ty:=.ref 1
abbrev A8V:Ty:=.int .u64
abbrev A8W:Ty:=.int .i64
abbrev A8X:Ty:=.int .u32
abbrev A8Y:Ty:=.int .u64
abbrev A8Z:Ty:=.ref 0
abbrev A90:Ty:=.ref 0
abbrev A76:Ty:=.agg (.prod T9 (T9))
abbrev T29:Ty:=.slice A0F
abbrev T51:Ty:=.slice A76
abbrev T53:Ty:=.agg (.prod T3 (T51))
abbrev DK:Ty:=.slice A2
abbrev He:Ty:=.agg (.prod T3 (DK))
abbrev A77:Ty:=.slice DK
abbrev BR:Ty:=.slice Rb
abbrev gE:Ty:=.slice A0G
abbrev m8:Ty:=.agg (.prod T9 (.prod BR (.prod G0 (gE))))
abbrev A4G:Ty:=.slice gE
abbrev bN:Ty:=.agg (.prod T9 (BR))
abbrev m9:Ty:=.slice mZ
abbrev wW:Ty:=.agg (.prod T9 (.prod GC (m9)))
abbrev UB:Ty:=.slice BR
abbrev FC:Ty:=.slice wW
abbrev G2:Ty:=.slice He
abbrev D7:Ty:=.agg (G2)
abbrev T27:Ty:=.agg (.prod T9 (.prod T3 (D7)))
abbrev wX:Ty:=.slice m8
abbrev Ey:Ty:=.agg (.prod wX (T29))
abbrev Um:Ty:=.slice D7
abbrev T40:Ty:=.agg (.prod FC (.prod T27 (.prod Um (Um))))
abbrev T55:Ty:=.agg (.prod T9 (.prod T53 (D7)))
abbrev A91:Ty:=.agg (.prod Ey (.prod G0 (.prod G0 (A77))))
abbrev YO:Ty:=.agg (.prod Ey (.prod T3 (.prod T3 (.prod T3 (.prod T3 (.prod T3 (.prod T3 (.prod T3 (T3)))))))))
abbrev Js:Ty:=.slice bN
abbrev A92:Ty:=.agg (.prod D7 (.prod G0 (G0)))
abbrev A93:Ty:=.agg (.prod Ey (.prod G0 (G0)))
set_option maxRecDepth 100000
def Ar:List (Nat×TI):=[(1,⟨T1,[],0,8⟩),
 (2,⟨T2,[],0,8⟩),
 (3,⟨T3,[],0,8⟩),
 (4,⟨T4,[],0,1⟩),
 (5,⟨T5,[],0,1⟩),
 (9,⟨T9,[],0,16⟩),
 (22,⟨FC,[],158,24⟩),
 (23,⟨G2,[],93,24⟩),
 (25,⟨D7,[(0,1)],0,24⟩),
 (27,⟨T27,[(0,1),(1,1),(2,1)],0,48⟩),
 (28,⟨wX,[],144,24⟩),
 (29,⟨T29,[],163,24⟩),
 (31,⟨Ey,[(0,1),(1,1)],0,48⟩),
 (35,⟨HD,[],0,8⟩),
 (38,⟨Um,[],25,24⟩),
 (40,⟨T40,[(0,1),(1,3),(4,1),(5,1)],0,120⟩),
 (51,⟨T51,[],288,24⟩),
 (53,⟨T53,[(0,1),(1,1)],0,32⟩),
 (55,⟨T55,[(0,1),(1,2),(3,1)],0,72⟩),
 (61,⟨G0,[],3,24⟩),
 (91,⟨DK,[],106,24⟩),
 (93,⟨He,[(0,1),(1,1)],0,32⟩),
 (95,⟨GC,[],9,24⟩),
 (106,⟨A2,[(0,1),(1,1)],0,16⟩),
 (108,⟨A8D,[],0,8⟩),
 (109,⟨A77,[],91,24⟩),
 (111,⟨A91,[(0,2),(2,1),(3,1),(4,1)],0,120⟩),
 (113,⟨A8E,[],0,8⟩),
 (115,⟨YO,[(0,2),(2,1),(3,1),(4,1),(5,1),(6,1),(7,1),(8,1),(9,1)],0,112⟩),
 (119,⟨A8F,[(3,4)],0,8⟩),
 (120,⟨A8G,[],0,8⟩),
 (134,⟨A8H,[],0,8⟩),
 (140,⟨BR,[],186,24⟩),
 (142,⟨gE,[],170,24⟩),
 (144,⟨m8,[(0,1),(1,1),(2,1),(3,1)],0,88⟩),
 (145,⟨A4G,[],142,24⟩),
 (148,⟨Js,[],152,24⟩),
 (152,⟨bN,[(0,1),(1,1)],0,40⟩),
 (156,⟨m9,[],161,24⟩),
 (158,⟨wW,[(0,1),(1,1),(2,1)],0,64⟩),
 (161,⟨mZ,[(0,1),(1,1)],0,32⟩),
 (163,⟨A0F,[(0,1),(1,1)],0,24⟩),
 (170,⟨A0G,[(0,1),(1,1)],0,16⟩),
 (172,⟨Ra,[(0,1),(1,1)],3,16⟩),
 (173,⟨A8I,[],172,24⟩),
 (174,⟨A8J,[],0,8⟩),
 (175,⟨A8K,[],0,8⟩),
 (177,⟨A8L,[(3,3)],0,8⟩),
 (178,⟨A8M,[],0,8⟩),
 (182,⟨A8N,[],0,8⟩),
 (184,⟨A92,[(0,1),(1,1),(2,1)],0,72⟩),
 (186,⟨Rb,[],0,8⟩),
 (194,⟨UB,[],140,24⟩),
 (203,⟨A8O,[],0,8⟩),
 (205,⟨A93,[(0,2),(2,1),(3,1)],0,96⟩),
 (211,⟨A8P,[],0,8⟩),
 (219,⟨A8Q,[],0,8⟩),
 (220,⟨A8R,[],0,8⟩),
 (222,⟨A8S,[],0,8⟩),
 (235,⟨A8T,[],0,8⟩),
 (239,⟨A8U,[],0,8⟩),
 (243,⟨A8V,[],0,8⟩),
 (252,⟨A8W,[],0,8⟩),
 (259,⟨A8X,[],0,4⟩),
 (263,⟨A8Y,[],0,8⟩),
 (267,⟨A8Z,[],0,8⟩),
 (269,⟨A90,[],0,8⟩),
 (288,⟨A76,[(0,1),(1,1)],0,32⟩)]
theorem tyTab_ok (f) (a:List Nat) (b:List Nat:=[]) (ne:List (Nat×TypeId):=[]):DC Tryz.prog ⟨Ar,f,b,ne,a⟩:=A3Z (by kernel_rfl)
theorem drawsAny:Tryz.prog.follows .mixedOrders=true:=by kernel_rfl
theorem ty1:lk 1 Ar=some ⟨T1,[],0,8⟩:=rfl
theorem ty2:lk 2 Ar=some ⟨T2,[],0,8⟩:=rfl
theorem ty3:lk 3 Ar=some ⟨T3,[],0,8⟩:=rfl
theorem ty4:lk 4 Ar=some ⟨T4,[],0,1⟩:=rfl
theorem ty5:lk 5 Ar=some ⟨T5,[],0,1⟩:=rfl
theorem ty9:lk 9 Ar=some ⟨T9,[],0,16⟩:=rfl
theorem A79:lk 22 Ar=some ⟨FC,[],158,24⟩:=rfl
theorem A7a:lk 23 Ar=some ⟨G2,[],93,24⟩:=rfl
theorem A7b:lk 25 Ar=some ⟨D7,[(0,1)],0,24⟩:=rfl
theorem A7c:lk 27 Ar=some ⟨T27,[(0,1),(1,1),(2,1)],0,48⟩:=rfl
theorem A7d:lk 28 Ar=some ⟨wX,[],144,24⟩:=rfl
theorem A7e:lk 29 Ar=some ⟨T29,[],163,24⟩:=rfl
theorem A7f:lk 31 Ar=some ⟨Ey,[(0,1),(1,1)],0,48⟩:=rfl
theorem A7g:lk 35 Ar=some ⟨HD,[],0,8⟩:=rfl
theorem A7h:lk 38 Ar=some ⟨Um,[],25,24⟩:=rfl
theorem A7i:lk 40 Ar=some ⟨T40,[(0,1),(1,3),(4,1),(5,1)],0,120⟩:=rfl
theorem A7j:lk 51 Ar=some ⟨T51,[],288,24⟩:=rfl
theorem A7k:lk 53 Ar=some ⟨T53,[(0,1),(1,1)],0,32⟩:=rfl
theorem A7l:lk 55 Ar=some ⟨T55,[(0,1),(1,2),(3,1)],0,72⟩:=rfl
theorem A7m:lk 61 Ar=some ⟨G0,[],3,24⟩:=rfl
theorem A7n:lk 91 Ar=some ⟨DK,[],106,24⟩:=rfl
theorem A7o:lk 93 Ar=some ⟨He,[(0,1),(1,1)],0,32⟩:=rfl
theorem A7p:lk 95 Ar=some ⟨GC,[],9,24⟩:=rfl
theorem A0I:lk 106 Ar=some ⟨A2,[(0,1),(1,1)],0,16⟩:=rfl
theorem A0J:lk 108 Ar=some ⟨A8D,[],0,8⟩:=rfl
theorem A0K:lk 109 Ar=some ⟨A77,[],91,24⟩:=rfl
theorem A0L:lk 111 Ar=some ⟨A91,[(0,2),(2,1),(3,1),(4,1)],0,120⟩:=rfl
theorem A0M:lk 113 Ar=some ⟨A8E,[],0,8⟩:=rfl
theorem A0N:lk 115 Ar=some ⟨YO,[(0,2),(2,1),(3,1),(4,1),(5,1),(6,1),(7,1),(8,1),(9,1)],0,112⟩:=rfl
theorem A0O:lk 119 Ar=some ⟨A8F,[(3,4)],0,8⟩:=rfl
theorem A0P:lk 120 Ar=some ⟨A8G,[],0,8⟩:=rfl
theorem A0Q:lk 134 Ar=some ⟨A8H,[],0,8⟩:=rfl
theorem A0R:lk 140 Ar=some ⟨BR,[],186,24⟩:=rfl
theorem A0S:lk 142 Ar=some ⟨gE,[],170,24⟩:=rfl
theorem A0T:lk 144 Ar=some ⟨m8,[(0,1),(1,1),(2,1),(3,1)],0,88⟩:=rfl
theorem A0U:lk 145 Ar=some ⟨A4G,[],142,24⟩:=rfl
theorem A0V:lk 148 Ar=some ⟨Js,[],152,24⟩:=rfl
theorem A0W:lk 152 Ar=some ⟨bN,[(0,1),(1,1)],0,40⟩:=rfl
theorem A0X:lk 156 Ar=some ⟨m9,[],161,24⟩:=rfl
theorem A0Y:lk 158 Ar=some ⟨wW,[(0,1),(1,1),(2,1)],0,64⟩:=rfl
theorem A0Z:lk 161 Ar=some ⟨mZ,[(0,1),(1,1)],0,32⟩:=rfl
theorem A10:lk 163 Ar=some ⟨A0F,[(0,1),(1,1)],0,24⟩:=rfl
theorem A11:lk 170 Ar=some ⟨A0G,[(0,1),(1,1)],0,16⟩:=rfl
theorem A12:lk 172 Ar=some ⟨Ra,[(0,1),(1,1)],3,16⟩:=rfl
theorem A13:lk 173 Ar=some ⟨A8I,[],172,24⟩:=rfl
theorem A14:lk 174 Ar=some ⟨A8J,[],0,8⟩:=rfl
theorem A15:lk 175 Ar=some ⟨A8K,[],0,8⟩:=rfl
theorem A16:lk 177 Ar=some ⟨A8L,[(3,3)],0,8⟩:=rfl
theorem A17:lk 178 Ar=some ⟨A8M,[],0,8⟩:=rfl
theorem A18:lk 182 Ar=some ⟨A8N,[],0,8⟩:=rfl
theorem A19:lk 184 Ar=some ⟨A92,[(0,1),(1,1),(2,1)],0,72⟩:=rfl
theorem A1a:lk 186 Ar=some ⟨Rb,[],0,8⟩:=rfl
theorem A1b:lk 194 Ar=some ⟨UB,[],140,24⟩:=rfl
theorem A1c:lk 203 Ar=some ⟨A8O,[],0,8⟩:=rfl
theorem A1d:lk 205 Ar=some ⟨A93,[(0,2),(2,1),(3,1)],0,96⟩:=rfl
theorem A1e:lk 211 Ar=some ⟨A8P,[],0,8⟩:=rfl
theorem A1f:lk 219 Ar=some ⟨A8Q,[],0,8⟩:=rfl
theorem A1g:lk 220 Ar=some ⟨A8R,[],0,8⟩:=rfl
theorem A1h:lk 222 Ar=some ⟨A8S,[],0,8⟩:=rfl
theorem A1i:lk 235 Ar=some ⟨A8T,[],0,8⟩:=rfl
theorem A1j:lk 239 Ar=some ⟨A8U,[],0,8⟩:=rfl
theorem A1k:lk 243 Ar=some ⟨A8V,[],0,8⟩:=rfl
theorem A1l:lk 252 Ar=some ⟨A8W,[],0,8⟩:=rfl
theorem A1m:lk 259 Ar=some ⟨A8X,[],0,4⟩:=rfl
theorem A1n:lk 263 Ar=some ⟨A8Y,[],0,8⟩:=rfl
theorem A1o:lk 267 Ar=some ⟨A8Z,[],0,8⟩:=rfl
theorem A1p:lk 269 Ar=some ⟨A90,[],0,8⟩:=rfl
theorem A1q:lk 288 Ar=some ⟨A76,[(0,1),(1,1)],0,32⟩:=rfl
end
section
open Go Go.RowKit
section
variable {c:Cx} {R:Exit->Act->World->Prop} {k:List DD} {σ σ':St}
end
end
section
open Go Go.RowKit Go.ChangeShapes Go.WideShapes
set_option maxRecDepth 100000
def sJ (r:Ty->TypeId->Bool) (P:Program):Ty->Nat->List Field->Bool
 | .prod a b,o,fs=>match fs with
  | f :: fs=>f.offset==o&&P.cellsOf f.type==a.size&&r a f.type&&sJ r P b (o+a.size) fs
  | []=>false
 | s,o,[f]=>f.offset==o&&P.cellsOf f.type==s.size&&r s f.type
 | _,_,_=>false
def wY (P:Program) (m:Nat) (e:TypeId):List Field:=(List.range m).map λi=>{ (default:Field) with offset:=i*P.cellsOf e,type:=e }
def rd (P:Program):Nat->Ty->TypeId->Bool
 | 0,_,_=>false
 | _+1,.int k,t=>isI k (P.underlying t)
 | _+1,.bool,t=>match P.underlying t with|some .bool=>true|_=>false
 | _+1,.str,t=>match P.underlying t with|some .string=>true|_=>false
 | n+1,.slice e,t=>match P.underlying t with|some (.slice et)=>decide (0<P.bytesOf et)&&P.cellsOf et==e.size&&rd P n e et|_=>false
 | n+1,.agg s,t=>match P.underlying t with|some (.struct fs)=>P.cellsOf t==s.size&&sJ (rd P n) P s 0 fs.toList|some (.array m e)=>P.cellsOf t==s.size&&sJ (rd P n) P s 0 (wY P m e)|_=>false
 | _+1,_,_=>false
theorem sK {P:Program} {n:Nat} {t:TypeId} (h:rd P (n+1) .bool t=true):P.underlying t=some .bool:=by
 simp only[rd]at h;split at h
 .assumption
 cases h
theorem A1r {P:Program} {n:Nat} {t:TypeId} (h:rd P (n+1) .str t=true):P.underlying t=some .string:=by
 simp only[rd]at h;split at h
 .assumption
 cases h
theorem gF {P:Program} {n:Nat} {e:Ty} {t:TypeId} (h:rd P (n+1) (.slice e) t=true):∃et,P.underlying t=some (.slice et)/\0<P.bytesOf et/\P.cellsOf et=e.size/\rd P n e et=true:=by
 simp only[rd]at h;split at h
 .rename_i et hu;simp only[An,Is,UQ]at h;exact⟨et,hu,h.1.1,h.1.2,h.2⟩
 cases h
theorem A1s {P:Program} {n:Nat} {s:Ty} {t:TypeId} (h:rd P (n+1) (.agg s) t=true):(∃fs,P.underlying t=some (.struct fs)/\P.cellsOf t=s.size/\sJ (rd P n) P s 0 fs.toList=true)\/∃m e,P.underlying t=some (.array m e)/\P.cellsOf t=s.size/\sJ (rd P n) P s 0 (wY P m e)=true:=by
 simp only[rd]at h;split at h
 .rename_i fs hu;simp only[An,UQ]at h;exact .inl ⟨fs,hu,h.1,h.2⟩
 .rename_i m e hu;simp only[An,UQ]at h;exact .inr ⟨m,e,hu,h.1,h.2⟩
 cases h
theorem wZ {w:World} {base:Nat} {a:Addr} {n:Nat} {cs:List Value} (h:w.cells? base a n=some cs):cs.length=n/\∀(j:Nat) (v:Value),cs[j]?=some v->w.cell? (a.add j)=some v:=by
 unfold World.cells? at h;split at h
 .have h1:=mapM_some_length h;simp only[ABm]at h1;refine⟨h1,λj v b=>?_⟩;have c:j<n:=by
   obtain⟨c,_⟩:=On.1 b;omega
  rw[mapM_some_get h j j (by simp[c]),b]
 cases h
section
variable {H:Type} {enc:TypeId×Value->H} {P:Program} {w:World} {spare:Nat->Bool} {held:Bool}
theorem gG {e:TypeId}:∀ {l:List (DataW H)} {d:DataW H},d∈l->∀n∈d.weights P e,n∈DataW.weightsAll P e l
 | a :: l,d,hd,n,hn=>by
  simp only[DataW.weightsAll,Do];rcases At.1 hd with rfl|hd
  .exact .inl hn
  exact .inr (gG hd n hn)
 | [],_,hd,_,_=>by cases hd
theorem Y7 {b:List TypeId} {a:List (DataW H)}:∀ {ts:List TypeId} {ds:List (DataW H)},∀n∈DataW.weightsEach P ts ds,n∈DataW.weightsEach P (ts++b) (ds++a)
 | t :: ts,d :: ds,n,hn=>by
  simp only[DataW.weightsEach,AAo,Do]at hn ⊢;rcases hn with hn|hn
  .exact .inl hn
  exact .inr (Y7 n hn)
 | [],_,n,hn=>by simp[DataW.weightsEach]at hn
 | _ :: _,[],n,hn=>by simp[DataW.weightsEach]at hn
theorem Y8 {e:TypeId}:∀ {m:Nat} {k:Nat} {ds:List (DataW H)},∀n∈DataW.weightsEach P (((List.range' k m).map λi=>({ (default:Field) with offset:=i*P.cellsOf e,type:=e }:Field)).map (·.type)) ds,n∈DataW.weightsAll P e ds
 | 0,_,ds,n,hn=>by simp[DataW.weightsEach]at hn
 | m+1,k,[],n,hn=>by
  rw[List.range'_succ]at hn;simp[DataW.weightsEach]at hn
 | m+1,k,d :: ds,n,hn=>by
  rw[List.range'_succ]at hn;simp only[Sj,DataW.weightsEach,Do]at hn;simp only[DataW.weightsAll,Do];rcases hn with hn|hn
  .exact .inl hn
  exact .inr (Y8 n hn)
theorem TK {n:Nat} {r:Ty->TypeId->Bool}
  (v:∀ty t,r ty t=true->∀(cs:List Value) (x:DataW H×List MemPlace),DataW.trod enc P w 0 spare held n t cs=some x->(∀b∈x.1.weights P t,b<=reachBytes)->∃d:ty.den,Bx w (λ_=>False) ty cs d) (cs:List Value) :
  ∀(s:Ty) (o:Nat) (fs:List Field),sJ r P s o fs=true->∀xs:List (DataW H×List MemPlace),xs.length=fs.length ->
   (∀(i:Nat) (f:Field),fs[i]?=some f->DataW.trod enc P w 0 spare held n f.type ((cs.drop f.offset).take (P.cellsOf f.type))=xs[i]?) ->
   (∀b∈DataW.weightsEach P (fs.map (·.type)) (xs.map (·.1)),b<=reachBytes)->∃d:s.den,Bx w (λ_=>False) s ((cs.drop o).take s.size) d:=by
 have one:∀(s:Ty) (o:Nat) (f:Field),(f.offset==o&&P.cellsOf f.type==s.size&&r s f.type)=true->∀x:DataW H×List MemPlace,
   DataW.trod enc P w 0 spare held n f.type ((cs.drop f.offset).take (P.cellsOf f.type))=some x ->
   (∀b∈x.1.weights P f.type,b<=reachBytes)->∃d:s.den,Bx w (λ_=>False) s ((cs.drop o).take s.size) d:=by
  intro s o f h x hx hb;simp only[An,UQ]at h;obtain⟨⟨rfl,j⟩,l⟩:=h;rw[<-j];exact v s f.type l _ x hx hb
 have lone:∀(s:Ty) (o:Nat) (f:Field),(f.offset==o&&P.cellsOf f.type==s.size&&r s f.type)=true->∀xs:List (DataW H×List MemPlace),xs.length=[f].length ->
   (∀(i:Nat) (g:Field),[f][i]?=some g->DataW.trod enc P w 0 spare held n g.type ((cs.drop g.offset).take (P.cellsOf g.type))=xs[i]?) ->
   (∀b∈DataW.weightsEach P ([f].map (·.type)) (xs.map (·.1)),b<=reachBytes)->∃d:s.den,Bx w (λ_=>False) s ((cs.drop o).take s.size) d:=by
  intro s o f h xs hl hx hb;obtain⟨x,rfl⟩:∃x,xs=[x]:=AAS.1 (by simpa using hl);exact one s o f h x (hx 0 f rfl) (λb c=>hb b (by simp[DataW.weightsEach,c]))
 intro s;induction s with
 | prod a b B y =>
  intro o fs h xs hl hx hb;cases fs with
  | nil=>simp[sJ]at h
  | cons f fs =>
   simp only[sJ,An]at h;obtain⟨⟨⟨h1,j⟩,l⟩,q⟩:=h;obtain⟨x,ys,rfl⟩:∃x ys,xs=x :: ys:=List.exists_cons_of_ne_nil (by intro h;subst h;simp at hl);obtain⟨m,z⟩:=one a o f (by simp only[h1,j,l,Bool.and_self]) x (hx 0 f rfl) (λb c=>hb b (by
     simp only[Sj,DataW.weightsEach,Do];exact .inl c))
   obtain⟨p,A⟩:=y (o+a.size) fs q ys (by simpa using hl) (λi g u=>hx (i+1) g u) (λb c=>hb b (by
     simp only[Sj,DataW.weightsEach,Do];exact .inr c))
   refine⟨(m,p),(cs.drop o).take a.size,(cs.drop (o+a.size)).take b.size,?_,z,A⟩;show (cs.drop o).take (a.size+b.size)=_;rw[List.take_add,ABp]
 | int k=>intro o fs h;match fs,h with|[f],h=>exact lone _ o f (by simpa only[sJ] using h)
 | bool=>intro o fs h;match fs,h with|[f],h=>exact lone _ o f (by simpa only[sJ] using h)
 | str=>intro o fs h;match fs,h with|[f],h=>exact lone _ o f (by simpa only[sJ] using h)
 | slice e _=>intro o fs h;match fs,h with|[f],h=>exact lone _ o f (by simpa only[sJ] using h)
 | agg t _=>intro o fs h;match fs,h with|[f],h=>exact lone _ o f (by simpa only[sJ] using h)
 | ref k=>intro o fs h;match fs,h with|[f],h=>exact lone _ o f (by simpa only[sJ] using h)
theorem A1t:∀(k:Nat) (ty:Ty) (t:TypeId),rd P k ty t=true->∀(n:Nat) (cs:List Value) (x:DataW H×List MemPlace),
  DataW.trod enc P w 0 spare held n t cs=some x->(∀b∈x.1.weights P t,b<=reachBytes)->∃d:ty.den,Bx w (λ_=>False) ty cs d:=by
 intro k;induction k with
 | zero=>intro ty t h;simp[rd]at h
 | succ k y =>
  intro ty t h n cs x hx hb;cases ty with
  | int q =>
   have hu:=VU (by simpa only[rd] using h);obtain⟨m,rfl,rfl,C⟩:=DataW.trod_int hu hx;simp only[Lit.wf,An,Is]at C;exact⟨m,rfl,C⟩
  | bool =>
   obtain⟨b,rfl,rfl⟩:=DataW.trod_bool (sK h) hx;exact⟨b,rfl⟩
  | str =>
   obtain⟨b,rfl,rfl,_⟩:=DataW.trod_string (A1r h) hx;refine⟨b,rfl,?_⟩;have:=hb b.data.toList.length (by simp only[DataW.weights];exact gO);have g:b.data.toList.length=b.size:=ABs;simp only[reachBytes]at this;simp only[AP];omega
  | slice e =>
   obtain⟨et,hu,I,z,o⟩:=gF h;rcases DataW.trod_slice hu hx with ⟨rfl,rfl⟩|⟨a,len,cap,elems,rest,m,rfl,rfl,rfl,-,Q,-,R,M,-,-⟩
   .exact⟨[],none,0,rfl,No _,ON _,.inl rfl⟩
   have T:len<=AP:=by
    have h1:=hb ((elems.length+rest.length)*P.bytesOf et) (by simp only[DataW.weights,hu,OF];exact gO);have g:elems.length+rest.length<=(elems.length+rest.length)*P.bytesOf et:=Nat.le_mul_of_pos_right _ I;simp only[reachBytes]at h1;simp only[AP];omega
   have A:∀i,i<len->∃d:e.den,∃c:List Value,c.length=e.size/\(∀(j:Nat) (v:Value),c[j]?=some v->w.cell? (a.add (i*e.size+j))=some v)/\Bx w (λ_=>False) e c d:=by
    intro i hi;have h1:=M i hi;obtain⟨x,hx⟩:∃x,elems[i]?=some x:=⟨_,AT oa⟩;rw[hx]at h1;obtain⟨c,g,D⟩:=Option.bind_eq_some_iff.1 h1;obtain⟨E,F⟩:=wZ g;obtain⟨d,hd⟩:=y e et o m c x D (λb l=>hb b (by
     simp only[DataW.weights,hu];exact GO _ (UM _ (gG (Y1.2 ⟨x,UR hx,rfl⟩) b l))))
    refine⟨d,c,by rw[E,z],λj v O=>?_,hd⟩;have:=F j v O
    rwa [DL,z]at this
   have G:∃ds:List e.den,ds.length=len/\∀(i:Nat) (d:e.den),ds[i]?=some d->∃c:List Value,c.length=e.size/\(∀(j:Nat) (v:Value),c[j]?=some v->w.cell? (a.add (i*e.size+j))=some v)/\Bx w (λ_=>False) e c d:=by
    refine⟨(List.range len).pmap (λi hi=>Classical.choose (A i hi)) (λi hi=>UJ.1 hi),by simp,λi d hd=>?_⟩;rw[List.getElem?_pmap]at hd;simp only[Option.pmap_eq_some_iff]at hd;obtain⟨j,h1,g,rfl⟩:=hd;have N:j=i:=by
     obtain⟨S,o⟩:=On.1 g;simpa using o.symm
    subst N;exact Classical.choose_spec (A j h1)
   obtain⟨ds,K,L⟩:=G;exact⟨ds,some a,cap,by rw[K],by omega,by omega,.inr ⟨a,rfl,λh=>h,L⟩⟩
  | agg s =>
   rcases A1s h with ⟨fs,hu,J,hf⟩|⟨q,e,hu,J,hf⟩
   .obtain⟨xs,m,rfl,rfl,hl,r,u⟩:=DataW.trod_struct hu hx;obtain⟨d,hd⟩:=TK (λty t p cs x hx hb=>y ty t p m cs x hx hb) cs s 0 fs.toList hf xs (by simpa using r) (λi f hi=>u i f (by simpa using hi)) (by
     simpa[DataW.weights,hu] using hb)
    refine⟨d,?_⟩;show Bx w _ s cs d
    rwa [oR,By oa]at hd
   obtain⟨xs,m,rfl,rfl,hl,r,u⟩:=DataW.trod_array hu hx;obtain⟨d,hd⟩:=TK (λty t p cs x hx hb=>y ty t p m cs x hx hb) cs s 0 (wY P q e) hf xs (by simp[wY,r]) (λi f hi=>by
    unfold wY at hi;rw[nO]at hi;by_cases B:i<q
    .rw[AAE B]at hi;have hi:({ (default:Field) with offset:=i*P.cellsOf e,type:=e }:Field)=f:=by simpa using hi
     rw[<-hi];exact u i B
    .rw[Si (by simp;omega)]at hi;cases hi) (λb l=>hb b (by
    simp only[DataW.weights,hu];unfold wY at l;rw[List.range_eq_range']at l;exact Y8 b l))
   refine⟨d,?_⟩;show Bx w _ s cs d
   rwa [oR,By oa]at hd
  | prod a b=>simp[rd]at h
  | ref j=>simp[rd]at h
theorem A4H {k:Nat} {ty:Ty} {t:TypeId} {v:Value} {r:Reach} {base:Nat} (h:rd P k ty t=true) (d:Value.okWide P w r base t v):v=ty.wrap v.cells.toList:=by
 cases k with
 | zero=>simp[rd]at h
 | succ k =>
  cases ty with
  | int q =>
   obtain⟨n,rfl⟩:=okWide_int (VU (by simpa only[rd] using h)) d;rfl
  | bool =>
   obtain⟨n,rfl⟩:=okWide_bool (sK h) d;rfl
  | str =>
   obtain⟨n,rfl⟩:=okWide_string (A1r h) d;rfl
  | slice e =>
   obtain⟨et,hu,_⟩:=gF h;obtain⟨a,l,c,rfl⟩:=okWide_slice hu d;rfl
  | agg s =>
   rcases A1s h with ⟨fs,hu,_⟩|⟨q,e,hu,_⟩
   .obtain⟨cs,rfl,_⟩:=okWide_struct hu d;simp[Ty.wrap,Value.cells]
   simp only[Value.okWide,hu]at d;obtain⟨cs,rfl,_⟩:=d;simp[Ty.wrap,Value.cells]
  | prod a b=>simp[rd]at h
  | ref j=>simp[rd]at h
def Nm (P:Program):List Ty->List TypeId->Bool
 | [],[]=>true
 | ty :: a,t :: ts=>rd P 50 ty t&&P.readableRec t&&decide (t<P.types.size)&&Nm P a ts
 | _,_=>false
theorem gH {r:Reach} {base:Nat}:∀(a:List Ty) (ts:List TypeId) (c:List Value) (ds:List (DataW H)) (p:List MemPlace),Nm P a ts=true->DataW.TrodAll enc P w 0 spare held ts c ds p ->
  (∀(j:Nat) (t:TypeId) (v:Value),ts[j]?=some t->c[j]?=some v->Value.okWide P w r base t v)->(∀b∈DataW.weightsEach P ts ds,b<=reachBytes)->∃xs:KI a,Pc w (λ_=>False) a c xs
 | [],[],c,ds,p,_,h,_,_=>by
  obtain⟨rfl,_,_⟩:=trodAll_nil h;exact⟨(),rfl⟩
 | ty :: a,t :: ts,c,ds,p,f,h,g,hb=>by
  simp only[Nm,An]at f;obtain⟨⟨⟨h1,_⟩,_⟩,l⟩:=f;obtain⟨v,i,d,k,z,s,rfl,rfl,rfl,⟨n,hd⟩,m⟩:=trodAll_cons h;simp only[DataW.weightsEach,Do]at hb;obtain⟨x,hx⟩:=A1t 50 ty t h1 n _ _ hd (λb e=>hb b (.inl e));obtain⟨xs,q⟩:=gH a ts i k s l m (λj u y ht o=>g (j+1) u y ht o) (λb e=>hb b (.inr e));exact⟨(x,xs),v,i,rfl,⟨_,hx,A4H h1 (g 0 t v rfl rfl)⟩,q⟩
 | [],_ :: _,_,_,_,h,_,_,_=>by simp[Nm]at h
 | _ :: _,[],_,_,_,h,_,_,_=>by simp[Nm]at h
theorem Y9 (hl:laidOutB P=true) {W e:World} (hb:Below W.heap.size W e):∀(c:List Ty) (ts:List TypeId) (a:List Value) (ds:List (DataW H)) (p:List MemPlace),Nm P c ts=true ->
  DataW.TrodAll enc P W 0 (λ_=>true) true ts a ds p->(∀x∈p,x.block<W.heap.size)->DataW.TrodAll enc P e 0 (λb=>decide (b<W.heap.size)) true ts a ds p
 | [],[],a,ds,p,_,h,_=>by
  obtain⟨rfl,rfl,rfl⟩:=trodAll_nil h;rfl
 | ty :: c,t :: ts,a,ds,p,g,h,f=>by
  simp only[Nm,An,Is]at g;obtain⟨⟨⟨_,h1⟩,k⟩,l⟩:=g;obtain⟨v,o,d,j,n,i,rfl,rfl,rfl,hd,m⟩:=trodAll_cons h;exact⟨n,i,Below.trod hl h1 k hd hb (λx hx=>f x (UM _ hx)),Y9 hl hb c ts o j i l m (λx hx=>f x (AAu _ hx)),rfl⟩
 | [],_ :: _,_,_,_,h,_,_=>by simp[Nm]at h
 | _ :: _,[],_,_,_,h,_,_=>by simp[Nm]at h
end
theorem A1u {w:World} {O:Nat->Prop} {u:Value} {w':World} (h:A03 w O [.p .bool true] u w'):u=.bool true/\Below w.heap.size w w':=by
 obtain⟨ρ',a⟩:=h 0;refine⟨?_,a.below⟩;obtain⟨cs,h1,b⟩:BV _ _ .bool u true:=a.av;have h1:cs=[.bool true]:=h1;rw[b,h1];rfl
theorem A1v {P:Program} {f:FuncId} {fn:Func} {sp:Ab} {s:ChangeSpec} {tb:TypeId} (E:Ag P f sp) (G:∀ds,sp.pre ds) (F:∀ds,sp.out ds=[.p .bool true])
  (hl:laidOutB P=true) (o:Nm P sp.ins fn.params.toList=true) (J:fn.resultTypes=#[tb]) (A:P.underlying tb=some .bool) (r:s.vars=[])
  (hs:∀(H:Type) (ds:List (DataW H)),ds.length=fn.params.size->(s.fn H ds).results=[.lit (.bool true)]/\(s.fn H ds).args=ds/\(s.fn H ds).vars=[])
  {H:Type} {enc:TypeId×Value->H} {W:World} {base:Nat} {args:Array Value} {ds k:List (DataW H)} {w:List MemPlace} {Q:List TypeId}
  (M:∀(j:Nat) t v,fn.params[j]?=some t->args[j]?=some v->Value.okWide P W .any base t v)
  (m:DataW.Whole enc P fn.params.toList s.vars false W args.toList ds k w)
  (K:(DataW.weightsEach P (fn.params.toList++Q) (ds++k)).all (·<=reachBytes)=true) :
  Calls P f args W λe i=>∃v,e=.returned v/\s.post enc P fn false true false false W args v i:=by
 have n:=m;obtain⟨p,q,a,l,rfl,S,T⟩:=m;rw[r]at l;obtain⟨rfl,rfl⟩:=trodVars_none l;obtain⟨xs,N⟩:=gH sp.ins fn.params.toList args.toList ds p o a (λj t v ht L=>M j t v (by simpa using ht) (by simpa using L))
  (λb hb=>by simpa using NO.1 K b (Y7 b hb))
 have D:∀x∈p,x.block<W.heap.size:=λx hx=>by simpa using n.lt x (UM _ hx)
 have C:ds.length=fn.params.size:=by
  have:∀(ts:List TypeId) (g:List Value) (ds:List (DataW H)) (p:List MemPlace),DataW.TrodAll enc P W 0 (λ_=>true) true ts g ds p->ds.length=ts.length:=by
   intro ts;induction ts with
   | nil=>intro g ds p h;obtain⟨_,rfl,_⟩:=trodAll_nil h;rfl
   | cons t ts O=>intro g ds p h;obtain⟨v,X,d,R,U,V,rfl,rfl,rfl,_,I⟩:=trodAll_cons h;simp[O _ _ _ I]
  simpa using this _ _ _ _ a
 have c:=E.2 W (λ_=>False) args.toList xs (λ_ h=>h.elim) N (G xs);rw[F]at c;have z:args.toList.toArray=args:=by simp
 rw[z]at c;refine c.mono λe i ⟨u,B,hu⟩=>?_;obtain⟨rfl,hb⟩:=A1u hu;obtain⟨e1,e2,y⟩:=hs H (ds++[]) (by simpa using C);refine⟨_,B,_,_,_,[],p,[],n,?_,?_,?_,hb.frame _,λh=>by cases h⟩
 .rw[e1,J];exact trodAll_mk1 (shut_bool A _)
 .rw[e2,UL];exact Y9 hl hb sp.ins _ _ _ _ o a D
 rw[y,r];rfl
end
end Go.Proofs.YtapkhdkbkodbjaaGreat.Fw
