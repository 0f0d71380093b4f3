/- This program's types; a slice compared with nil; from a contract to the given statement. -/
import Derived.Test.YtaoonfcjbmcmpaaGreatDoorFZI
import Derived.Test.YtaoonfcjbmcmpaaGreatDoorChecked
import Derived.Laws.Cover3
import Derived.Carry
import Derived.SizedLaws
import Derived.OpenShut
set_option linter.unusedVariables false
set_option linter.unusedSimpArgs false
namespace Go.Proofs.YtaoonfcjbmcmpaaGreatDoor.Fw
section
abbrev T1:Ty:=.ref 1
abbrev T2:Ty:=.int .i64
abbrev T3:Ty:=.int .i64
abbrev T4:Ty:=.bool
abbrev T5:Ty:=.int .u8
abbrev T9:Ty:=.str
abbrev T21:Ty:=.int .i32
abbrev Es:Ty:=.int .i64
abbrev Ad:Ty:=.slice T9
abbrev Dj:Ty:=.slice T3
abbrev T64:Ty:=.ref 1
abbrev Se:Ty:=.int .u64
abbrev T67:Ty:=.ref 2
abbrev T72:Ty:=.ref 0
abbrev T75:Ty:=.ref 2
abbrev yI:Ty:=.agg (.prod T9 (T3))
abbrev T87:Ty:=.ref 1
abbrev T95:Ty:=.ref 1
abbrev T97:Ty:=.ref 1
abbrev T99:Ty:=.int .u64
abbrev A0q:Ty:=.ref 2
abbrev ZH:Ty:=.agg (.prod T3 (T3))
abbrev A0r:Ty:=.ref 1
abbrev A0s:Ty:=.ref 1
abbrev yJ:Ty:=.ref 0
abbrev yK:Ty:=.slice T5
abbrev A0t:Ty:=.agg (.prod yJ (yK))
abbrev A0u:Ty:=.ref 3
abbrev A0v:Ty:=.ref 1
abbrev fW:Ty:=.agg (.prod T9 (T9))
abbrev A0w:Ty:=.ref 1
abbrev A0x:Ty:=.ref 2
abbrev A0y:Ty:=.ref 1
abbrev A0z:Ty:=.agg (.prod T5 (.prod T5 (.prod T5 (.prod T5 (.prod T5 (.prod T5 (.prod T5 (.prod T5 (.prod T5 (.prod T5 (.prod T5 (.prod T5 (.prod T5 (.prod T5 (.prod T5 (.prod T5 (.prod T5 (.prod T5 (.prod T5 (.prod T5 (.prod T5 (.prod T5 (.prod T5 (.prod T5 (.prod T5 (.prod T5 (.prod T5 (.prod T5 (.prod T5 (.prod T5 (.prod T5 (.prod T5 (.prod T5 (.prod T5 (.prod T5 (.prod T5 (.prod T5 (.prod T5 (.prod T5 (.prod T5 (.prod T5 (.prod T5 (.prod T5 (.prod T5 (.prod T5 (.prod T5 (.prod T5 (.prod T5 (.prod T5 (.prod T5 (.prod T5 (.prod T5 (.prod T5 (.prod T5 (.prod T5 (.prod T5 (.prod T5 (.prod T5 (.prod T5 (.prod T5 (.prod T5 (.prod T5 (.prod T5 (T5))))))))))))))))))))))))))))))))))))))))))))))))))))))))))))))))
abbrev A0A:Ty:=.ref 0
abbrev A0B:Ty:=.int .i64
abbrev A0C:Ty:=.int .u32
abbrev A0D:Ty:=.ref 1
abbrev A0E:Ty:=.ref 1
abbrev A0F:Ty:=.int .u64
abbrev A0G:Ty:=.ref 0
abbrev A0H:Ty:=.ref 0
abbrev qE:Ty:=.slice yI
abbrev Lx:Ty:=.slice fW
abbrev zX:Ty:=.agg (.prod T9 (.prod Ad (Lx)))
abbrev BZ:Ty:=.slice Se
abbrev IP:Ty:=.slice ZH
abbrev sE:Ty:=.agg (.prod T9 (.prod BZ (.prod Dj (IP))))
abbrev VB:Ty:=.slice IP
abbrev Bv:Ty:=.agg (.prod T9 (BZ))
abbrev Pz:Ty:=.slice BZ
abbrev Aw:Ty:=.slice zX
abbrev jN:Ty:=.slice sE
abbrev l3:Ty:=.agg (.prod jN (qE))
abbrev Bi:Ty:=.slice Bv
abbrev T77:Ty:=.agg (.prod Aw (.prod Bi (.prod T75 (.prod Ad (.prod Dj (VB))))))
set_option maxRecDepth 100000
def BE:List (Nat×TI):=[(1,⟨T1,[],0,8⟩),
 (2,⟨T2,[],0,8⟩),
 (3,⟨T3,[],0,8⟩),
 (4,⟨T4,[],0,1⟩),
 (5,⟨T5,[],0,1⟩),
 (9,⟨T9,[],0,16⟩),
 (21,⟨T21,[],0,4⟩),
 (22,⟨Aw,[],35,24⟩),
 (24,⟨jN,[],42,24⟩),
 (25,⟨qE,[],79,24⟩),
 (27,⟨l3,[(0,1),(1,1)],0,48⟩),
 (28,⟨Es,[],0,8⟩),
 (32,⟨Ad,[],9,24⟩),
 (33,⟨Lx,[],143,24⟩),
 (35,⟨zX,[(0,1),(1,1),(2,1)],0,64⟩),
 (38,⟨BZ,[],65,24⟩),
 (39,⟨Dj,[],3,24⟩),
 (40,⟨IP,[],107,24⟩),
 (42,⟨sE,[(0,1),(1,1),(2,1),(3,1)],0,88⟩),
 (54,⟨VB,[],40,24⟩),
 (57,⟨Bi,[],61,24⟩),
 (61,⟨Bv,[(0,1),(1,1)],0,40⟩),
 (64,⟨T64,[],0,8⟩),
 (65,⟨Se,[],0,8⟩),
 (67,⟨T67,[(9,32)],0,8⟩),
 (72,⟨T72,[],0,8⟩),
 (75,⟨T75,[(9,3)],0,8⟩),
 (77,⟨T77,[(0,1),(1,1),(2,1),(3,1),(4,1),(5,1)],0,128⟩),
 (79,⟨yI,[(0,1),(1,1)],0,24⟩),
 (81,⟨Pz,[],38,24⟩),
 (87,⟨T87,[],0,8⟩),
 (95,⟨T95,[],0,8⟩),
 (97,⟨T97,[],0,8⟩),
 (99,⟨T99,[],0,8⟩),
 (100,⟨A0q,[(9,4)],0,8⟩),
 (107,⟨ZH,[(0,1),(1,1)],0,16⟩),
 (116,⟨A0r,[],0,8⟩),
 (122,⟨A0s,[],0,8⟩),
 (123,⟨yJ,[],0,8⟩),
 (124,⟨yK,[],5,24⟩),
 (126,⟨A0t,[(0,1),(1,1)],0,32⟩),
 (129,⟨A0u,[],0,16⟩),
 (135,⟨A0v,[],0,8⟩),
 (143,⟨fW,[(0,1),(1,1)],0,32⟩),
 (149,⟨A0w,[],0,8⟩),
 (151,⟨A0x,[(9,38)],0,8⟩),
 (154,⟨A0y,[],0,8⟩),
 (158,⟨A0z,[(0,1),(1,1),(2,1),(3,1),(4,1),(5,1),(6,1),(7,1),(8,1),(9,1),(10,1),(11,1),(12,1),(13,1),(14,1),(15,1),(16,1),(17,1),(18,1),(19,1),(20,1),(21,1),(22,1),(23,1),(24,1),(25,1),(26,1),(27,1),(28,1),(29,1),(30,1),(31,1),(32,1),(33,1),(34,1),(35,1),(36,1),(37,1),(38,1),(39,1),(40,1),(41,1),(42,1),(43,1),(44,1),(45,1),(46,1),(47,1),(48,1),(49,1),(50,1),(51,1),(52,1),(53,1),(54,1),(55,1),(56,1),(57,1),(58,1),(59,1),(60,1),(61,1),(62,1),(63,1)],5,64⟩),
 (159,⟨A0A,[],0,8⟩),
 (164,⟨A0B,[],0,8⟩),
 (171,⟨A0C,[],0,4⟩),
 (180,⟨A0D,[],0,8⟩),
 (183,⟨A0E,[],0,8⟩),
 (188,⟨A0F,[],0,8⟩),
 (192,⟨A0G,[],0,8⟩),
 (197,⟨A0H,[],0,8⟩)]
theorem tyTab_ok (f) (a:List Nat) (b:List Nat:=[]) (ne:List (Nat×TypeId):=[]):DG Tryz.prog ⟨BE,f,b,ne,a⟩:=qQ (by kernel_rfl)
theorem drawsAny:Tryz.prog.follows .mixedOrders=true:=by kernel_rfl
theorem ty1:lk 1 BE=some ⟨T1,[],0,8⟩:=rfl
theorem ty2:lk 2 BE=some ⟨T2,[],0,8⟩:=rfl
theorem ty3:lk 3 BE=some ⟨T3,[],0,8⟩:=rfl
theorem ty4:lk 4 BE=some ⟨T4,[],0,1⟩:=rfl
theorem ty5:lk 5 BE=some ⟨T5,[],0,1⟩:=rfl
theorem ty9:lk 9 BE=some ⟨T9,[],0,16⟩:=rfl
theorem sF:lk 21 BE=some ⟨T21,[],0,4⟩:=rfl
theorem sG:lk 22 BE=some ⟨Aw,[],35,24⟩:=rfl
theorem sH:lk 24 BE=some ⟨jN,[],42,24⟩:=rfl
theorem sI:lk 25 BE=some ⟨qE,[],79,24⟩:=rfl
theorem sJ:lk 27 BE=some ⟨l3,[(0,1),(1,1)],0,48⟩:=rfl
theorem sK:lk 28 BE=some ⟨Es,[],0,8⟩:=rfl
theorem sL:lk 32 BE=some ⟨Ad,[],9,24⟩:=rfl
theorem sM:lk 33 BE=some ⟨Lx,[],143,24⟩:=rfl
theorem sN:lk 35 BE=some ⟨zX,[(0,1),(1,1),(2,1)],0,64⟩:=rfl
theorem sO:lk 38 BE=some ⟨BZ,[],65,24⟩:=rfl
theorem sP:lk 39 BE=some ⟨Dj,[],3,24⟩:=rfl
theorem sQ:lk 40 BE=some ⟨IP,[],107,24⟩:=rfl
theorem sR:lk 42 BE=some ⟨sE,[(0,1),(1,1),(2,1),(3,1)],0,88⟩:=rfl
theorem sS:lk 54 BE=some ⟨VB,[],40,24⟩:=rfl
theorem sT:lk 57 BE=some ⟨Bi,[],61,24⟩:=rfl
theorem sU:lk 61 BE=some ⟨Bv,[(0,1),(1,1)],0,40⟩:=rfl
theorem sV:lk 64 BE=some ⟨T64,[],0,8⟩:=rfl
theorem sW:lk 65 BE=some ⟨Se,[],0,8⟩:=rfl
theorem sX:lk 67 BE=some ⟨T67,[(9,32)],0,8⟩:=rfl
theorem sY:lk 72 BE=some ⟨T72,[],0,8⟩:=rfl
theorem sZ:lk 75 BE=some ⟨T75,[(9,3)],0,8⟩:=rfl
theorem s0:lk 77 BE=some ⟨T77,[(0,1),(1,1),(2,1),(3,1),(4,1),(5,1)],0,128⟩:=rfl
theorem s7:lk 79 BE=some ⟨yI,[(0,1),(1,1)],0,24⟩:=rfl
theorem s8:lk 81 BE=some ⟨Pz,[],38,24⟩:=rfl
theorem s9:lk 87 BE=some ⟨T87,[],0,8⟩:=rfl
theorem tA:lk 95 BE=some ⟨T95,[],0,8⟩:=rfl
theorem tB:lk 97 BE=some ⟨T97,[],0,8⟩:=rfl
theorem tC:lk 99 BE=some ⟨T99,[],0,8⟩:=rfl
theorem bQ:lk 100 BE=some ⟨A0q,[(9,4)],0,8⟩:=rfl
theorem bR:lk 107 BE=some ⟨ZH,[(0,1),(1,1)],0,16⟩:=rfl
theorem bS:lk 116 BE=some ⟨A0r,[],0,8⟩:=rfl
theorem bT:lk 122 BE=some ⟨A0s,[],0,8⟩:=rfl
theorem bU:lk 123 BE=some ⟨yJ,[],0,8⟩:=rfl
theorem bV:lk 124 BE=some ⟨yK,[],5,24⟩:=rfl
theorem bW:lk 126 BE=some ⟨A0t,[(0,1),(1,1)],0,32⟩:=rfl
theorem bX:lk 129 BE=some ⟨A0u,[],0,16⟩:=rfl
theorem bZ:lk 135 BE=some ⟨A0v,[],0,8⟩:=rfl
theorem b4:lk 143 BE=some ⟨fW,[(0,1),(1,1)],0,32⟩:=rfl
theorem b5:lk 149 BE=some ⟨A0w,[],0,8⟩:=rfl
theorem b6:lk 151 BE=some ⟨A0x,[(9,38)],0,8⟩:=rfl
theorem b7:lk 154 BE=some ⟨A0y,[],0,8⟩:=rfl
theorem b8:lk 158 BE=some ⟨A0z,[(0,1),(1,1),(2,1),(3,1),(4,1),(5,1),(6,1),(7,1),(8,1),(9,1),(10,1),(11,1),(12,1),(13,1),(14,1),(15,1),(16,1),(17,1),(18,1),(19,1),(20,1),(21,1),(22,1),(23,1),(24,1),(25,1),(26,1),(27,1),(28,1),(29,1),(30,1),(31,1),(32,1),(33,1),(34,1),(35,1),(36,1),(37,1),(38,1),(39,1),(40,1),(41,1),(42,1),(43,1),(44,1),(45,1),(46,1),(47,1),(48,1),(49,1),(50,1),(51,1),(52,1),(53,1),(54,1),(55,1),(56,1),(57,1),(58,1),(59,1),(60,1),(61,1),(62,1),(63,1)],5,64⟩:=rfl
theorem b9:lk 159 BE=some ⟨A0A,[],0,8⟩:=rfl
theorem cA:lk 164 BE=some ⟨A0B,[],0,8⟩:=rfl
theorem cB:lk 171 BE=some ⟨A0C,[],0,4⟩:=rfl
theorem cC:lk 180 BE=some ⟨A0D,[],0,8⟩:=rfl
theorem cE:lk 183 BE=some ⟨A0E,[],0,8⟩:=rfl
theorem cF:lk 188 BE=some ⟨A0F,[],0,8⟩:=rfl
theorem cG:lk 192 BE=some ⟨A0G,[],0,8⟩:=rfl
theorem cH:lk 197 BE=some ⟨A0H,[],0,8⟩:=rfl
end
section
open Go Go.RowKit Go.ChangeShapes Go.WideShapes
set_option maxRecDepth 100000
def Ty.bts:Ty->Nat
 | .int .i64=>8
 | .prod a b=>a.bts+b.bts
 | .agg t=>t.bts
 | _=>1
def fX:(t:Ty)->t.den->Prop
 | .slice e,d=>List.length d*e.bts<=reachBytes/\∀x∈(d:List e.den),fX e x
 | .prod a b,d=>fX a d.1/\fX b d.2
 | .agg t,d=>fX t d
 | _,_=>True
def SzA:(a:List Ty)->H4 a->Prop
 | [],_=>True
 | ty :: a,xs=>fX ty xs.1/\SzA a xs.2
def cI (r:Ty->TypeId->Bool) (P:Program):Ty->Nat->List Field->Bool
 | .prod a b,o,fs=>match fs with
  | f :: fs=>f.offset==o&&P.cellsOf f.type==a.size&&r a f.type&&cI r P b (o+a.size) fs
  | []=>false
 | s,o,[f]=>f.offset==o&&P.cellsOf f.type==s.size&&r s f.type
 | _,_,_=>false
def fY (P:Program) (m:Nat) (e:TypeId):List Field:=(List.range m).map λi=>{ (default:Field) with offset:=i*P.cellsOf e,type:=e }
def rd (P:Program):Nat->Ty->TypeId->Bool
 | 0,_,_=>false
 | _+1,.int k,t=>isI k (P.underlying t)
 | _+1,.bool,t=>match P.underlying t with|some .bool=>true|_=>false
 | _+1,.str,t=>match P.underlying t with|some .string=>true|_=>false
 | n+1,.slice e,t=>match P.underlying t with|some (.slice et)=>decide (0<P.bytesOf et)&&decide (e.bts<=P.bytesOf et)&&P.cellsOf et==e.size&&rd P n e et|_=>false
 | n+1,.agg s,t=>match P.underlying t with|some (.struct fs)=>P.cellsOf t==s.size&&cI (rd P n) P s 0 fs.toList|some (.array m e)=>P.cellsOf t==s.size&&cI (rd P n) P s 0 (fY P m e)|_=>false
 | _+1,_,_=>false
theorem cJ {P:Program} {n:Nat} {t:TypeId} (h:rd P (n+1) .bool t=true):P.underlying t=some .bool:=by
 simp only[rd]at h;split at h
 .assumption
 cases h
theorem l4 {P:Program} {n:Nat} {t:TypeId} (h:rd P (n+1) .str t=true):P.underlying t=some .string:=by
 simp only[rd]at h;split at h
 .assumption
 cases h
theorem W4 {P:Program} {n:Nat} {e:Ty} {t:TypeId} (h:rd P (n+1) (.slice e) t=true):∃et,P.underlying t=some (.slice et)/\(0<P.bytesOf et/\e.bts<=P.bytesOf et)/\P.cellsOf et=e.size/\rd P n e et=true:=by
 simp only[rd]at h;split at h
 .rename_i et a;simp only[AT,Do,AA9]at h;exact⟨et,a,h.1.1,h.1.2,h.2⟩
 cases h
theorem l5 {P:Program} {n:Nat} {s:Ty} {t:TypeId} (h:rd P (n+1) (.agg s) t=true):(∃fs,P.underlying t=some (.struct fs)/\P.cellsOf t=s.size/\cI (rd P n) P s 0 fs.toList=true)\/∃m e,P.underlying t=some (.array m e)/\P.cellsOf t=s.size/\cI (rd P n) P s 0 (fY P m e)=true:=by
 simp only[rd]at h;split at h
 .rename_i fs a;simp only[AT,AA9]at h;exact .inl ⟨fs,a,h.1,h.2⟩
 .rename_i m e a;simp only[AT,AA9]at h;exact .inr ⟨m,e,a,h.1,h.2⟩
 cases h
theorem fZ {w:World} {base:Nat} {a:Addr} {n:Nat} {cs:List Value} (h:w.cells? base a n=some cs):cs.length=n/\∀(j:Nat) (v:Value),cs[j]?=some v->w.cell? (a.add j)=some v:=by
 unfold World.cells? at h;split at h
 .have b:=mapM_some_length h;simp only[List.length_range]at b;refine⟨b,λj v c=>?_⟩;have d:j<n:=by
   obtain⟨d,_⟩:=ON.1 c;omega
  rw[mapM_some_get h j j (by simp[d]),c]
 cases h
section
variable {H:Type} {enc:TypeId×Value->H} {P:Program} {w:World} {spare:Nat->Bool} {held:Bool}
theorem W5 {e:TypeId}:∀ {l:List (DataW H)} {d:DataW H},d∈l->∀n∈d.weights P e,n∈DataW.weightsAll P e l
 | a :: l,d,b,n,c=>by
  simp only[DataW.weightsAll,aT];rcases Is.1 b with rfl|b
  .exact .inl c
  exact .inr (W5 b n c)
 | [],_,b,_,_=>by cases b
theorem TP {c:List TypeId} {b:List (DataW H)}:∀ {ts:List TypeId} {ds:List (DataW H)},∀n∈DataW.weightsEach P ts ds,n∈DataW.weightsEach P (ts++c) (ds++b)
 | t :: ts,d :: ds,n,a=>by
  simp only[DataW.weightsEach,ABe,aT]at a ⊢;rcases a with a|a
  .exact .inl a
  exact .inr (TP n a)
 | [],_,n,a=>by simp[DataW.weightsEach]at a
 | _ :: _,[],n,a=>by simp[DataW.weightsEach]at a
theorem TQ {e:TypeId}:∀ {m:Nat} {k:Nat} {ds:List (DataW H)},∀n∈DataW.weightsEach P (((List.range' k m).map λi=>({ (default:Field) with offset:=i*P.cellsOf e,type:=e }:Field)).map (·.type)) ds,n∈DataW.weightsAll P e ds
 | 0,_,ds,n,a=>by simp[DataW.weightsEach]at a
 | m+1,k,[],n,a=>by
  rw[ACa]at a;simp[DataW.weightsEach]at a
 | m+1,k,d :: ds,n,a=>by
  rw[ACa]at a;simp only[oR,DataW.weightsEach,aT]at a;simp only[DataW.weightsAll,aT];rcases a with a|a
  .exact .inl a
  exact .inr (TQ n a)
theorem PF {n:Nat} {r:Ty->TypeId->Bool}
  (B:∀ty t,r ty t=true->∀(cs:List Value) (x:DataW H×List MemPlace),DataW.trod enc P w 0 spare held n t cs=some x->(∀b∈x.1.weights P t,b<=reachBytes)->∃d:ty.den,Bl w (λ_=>False) ty cs d/\fX ty d) (cs:List Value) :
  ∀(s:Ty) (o:Nat) (fs:List Field),cI r P s o fs=true->∀xs:List (DataW H×List MemPlace),xs.length=fs.length ->
   (∀(i:Nat) (f:Field),fs[i]?=some f->DataW.trod enc P w 0 spare held n f.type ((cs.drop f.offset).take (P.cellsOf f.type))=xs[i]?) ->
   (∀b∈DataW.weightsEach P (fs.map (·.type)) (xs.map (·.1)),b<=reachBytes)->∃d:s.den,Bl w (λ_=>False) s ((cs.drop o).take s.size) d/\fX s d:=by
 have one:∀(s:Ty) (o:Nat) (f:Field),(f.offset==o&&P.cellsOf f.type==s.size&&r s f.type)=true->∀x:DataW H×List MemPlace,
   DataW.trod enc P w 0 spare held n f.type ((cs.drop f.offset).take (P.cellsOf f.type))=some x ->
   (∀b∈x.1.weights P f.type,b<=reachBytes)->∃d:s.den,Bl w (λ_=>False) s ((cs.drop o).take s.size) d/\fX s d:=by
  intro s o f h x j c;simp only[AT,AA9]at h;obtain⟨⟨rfl,p⟩,q⟩:=h;rw[<-p];exact B s f.type q _ x j c
 have lone:∀(s:Ty) (o:Nat) (f:Field),(f.offset==o&&P.cellsOf f.type==s.size&&r s f.type)=true->∀xs:List (DataW H×List MemPlace),xs.length=[f].length ->
   (∀(i:Nat) (g:Field),[f][i]?=some g->DataW.trod enc P w 0 spare held n g.type ((cs.drop g.offset).take (P.cellsOf g.type))=xs[i]?) ->
   (∀b∈DataW.weightsEach P ([f].map (·.type)) (xs.map (·.1)),b<=reachBytes)->∃d:s.den,Bl w (λ_=>False) s ((cs.drop o).take s.size) d/\fX s d:=by
  intro s o f h xs m j c;obtain⟨x,rfl⟩:∃x,xs=[x]:=AAR.1 (by simpa using m);exact one s o f h x (j 0 f rfl) (λb l=>c b (by simp[DataW.weightsEach,l]))
 intro s;induction s with
 | prod a b I C =>
  intro o fs h xs m j c;cases fs with
  | nil=>simp[cI]at h
  | cons f fs =>
   simp only[cI,AT]at h;obtain⟨⟨⟨y,p⟩,q⟩,z⟩:=h;obtain⟨x,ys,rfl⟩:∃x ys,xs=x :: ys:=ABD (by intro h;subst h;simp at m);obtain⟨u,D,F⟩:=one a o f (by simp only[y,p,q,Bool.and_self]) x (j 0 f rfl) (λb l=>c b (by
     simp only[oR,DataW.weightsEach,aT];exact .inl l))
   obtain⟨v,E,G⟩:=C (o+a.size) fs z ys (by simpa using m) (λi g A=>j (i+1) g A) (λb l=>c b (by
     simp only[oR,DataW.weightsEach,aT];exact .inr l))
   refine⟨(u,v),⟨(cs.drop o).take a.size,(cs.drop (o+a.size)).take b.size,?_,D,E⟩,F,G⟩;show (cs.drop o).take (a.size+b.size)=_;rw[List.take_add,ABZ]
 | int k=>intro o fs h;match fs,h with|[f],h=>exact lone _ o f (by simpa only[cI] using h)
 | bool=>intro o fs h;match fs,h with|[f],h=>exact lone _ o f (by simpa only[cI] using h)
 | str=>intro o fs h;match fs,h with|[f],h=>exact lone _ o f (by simpa only[cI] using h)
 | slice e _=>intro o fs h;match fs,h with|[f],h=>exact lone _ o f (by simpa only[cI] using h)
 | agg t _=>intro o fs h;match fs,h with|[f],h=>exact lone _ o f (by simpa only[cI] using h)
 | ref k=>intro o fs h;match fs,h with|[f],h=>exact lone _ o f (by simpa only[cI] using h)
theorem l6:∀(k:Nat) (ty:Ty) (t:TypeId),rd P k ty t=true->∀(n:Nat) (cs:List Value) (x:DataW H×List MemPlace),
  DataW.trod enc P w 0 spare held n t cs=some x->(∀b∈x.1.weights P t,b<=reachBytes)->∃d:ty.den,Bl w (λ_=>False) ty cs d/\fX ty d:=by
 intro k;induction k with
 | zero=>intro ty t h;simp[rd]at h
 | succ k E =>
  intro ty t h n cs x c o;cases ty with
  | int q =>
   have g:=Uj (by simpa only[rd] using h);obtain⟨m,rfl,rfl,L⟩:=DataW.trod_int g c;simp only[Lit.wf,AT,Do]at L;exact⟨m,⟨rfl,L⟩,trivial⟩
  | bool =>
   obtain⟨b,rfl,rfl⟩:=DataW.trod_bool (cJ h) c;exact⟨b,rfl,trivial⟩
  | str =>
   obtain⟨b,rfl,rfl,_⟩:=DataW.trod_string (l4 h) c;refine⟨b,⟨rfl,?_⟩,trivial⟩;have:=o b.data.toList.length (by simp only[DataW.weights];exact AAc);have r:b.data.toList.length=b.size:=AAL;simp only[reachBytes]at this;simp only[AN];omega
  | slice e =>
   obtain⟨et,g,⟨R,S⟩,F,z⟩:=W4 h;rcases DataW.trod_slice g c with ⟨rfl,rfl⟩|⟨a,len,cap,elems,rest,m,rfl,rfl,rfl,-,Z,-,aa,U,-,-⟩
   .exact⟨[],⟨none,0,rfl,If _,BY _,.inl rfl⟩,by simp[fX,reachBytes]⟩
   have ad:len<=AN:=by
    have p:=o ((elems.length+rest.length)*P.bytesOf et) (by simp only[DataW.weights,g,Of];exact AAc);have r:elems.length+rest.length<=(elems.length+rest.length)*P.bytesOf et:=Nat.le_mul_of_pos_right _ R;simp only[reachBytes]at p;simp only[AN];omega
   have Y:len*e.bts<=reachBytes:=by
    have p:=o ((elems.length+rest.length)*P.bytesOf et) (by simp only[DataW.weights,g,Of];exact AAc);exact f3 (Nat.mul_le_mul oa S) p
   have J:∀i,i<len->∃d:e.den,(∃es:List Value,es.length=e.size/\(∀(j:Nat) (v:Value),es[j]?=some v->w.cell? (a.add (i*e.size+j))=some v)/\Bl w (λ_=>False) e es d)/\fX e d:=by
    intro i hi;have p:=U i hi;obtain⟨x,c⟩:∃x,elems[i]?=some x:=⟨_,DO oa⟩;rw[c]at p;obtain⟨es,r,M⟩:=Option.bind_eq_some_iff.1 p;obtain⟨N,O⟩:=fZ r;obtain⟨d,l,y⟩:=E e et z m es x M (λb u=>o b (by
     simp only[DataW.weights,g];exact AAp _ (ACh _ (W5 (To.2 ⟨x,AAj c,rfl⟩) b u))))
    refine⟨d,⟨es,by rw[N,F],λj v W=>?_,l⟩,y⟩;have:=O j v W
    rwa [C8,F]at this
   have Q:∃ds:List e.den,ds.length=len/\∀(i:Nat) (d:e.den),ds[i]?=some d->(∃es:List Value,es.length=e.size/\(∀(j:Nat) (v:Value),es[j]?=some v->w.cell? (a.add (i*e.size+j))=some v)/\Bl w (λ_=>False) e es d)/\fX e d:=by
    refine⟨(List.range len).pmap (λi hi=>Classical.choose (J i hi)) (λi hi=>gO.1 hi),by simp,λi d l=>?_⟩;rw[List.getElem?_pmap]at l;simp only[Option.pmap_eq_some_iff]at l;obtain⟨j,p,r,rfl⟩:=l;have V:j=i:=by
     obtain⟨ab,z⟩:=ON.1 r;simpa using z.symm
    subst V;exact Classical.choose_spec (J j p)
   obtain⟨ds,G,I⟩:=Q;refine⟨ds,⟨some a,cap,by rw[G],by omega,by omega,.inr ⟨a,rfl,λh=>h,λi d l=>(I i d l).1⟩⟩,by rw[G];exact Y,λx c=>?_⟩;obtain⟨i,hi⟩:=AB0 c;exact(I i x hi).2
  | agg s =>
   rcases l5 h with ⟨fs,g,T,A⟩|⟨q,e,g,T,A⟩
   .obtain⟨xs,m,rfl,rfl,X,C,D⟩:=DataW.trod_struct g c;obtain⟨d,l,y⟩:=PF (λty t B cs x c o=>E ty t B m cs x c o) cs s 0 fs.toList A xs (by simpa using C) (λi f hi=>D i f (by simpa using hi)) (by
     simpa[DataW.weights,g] using o)
    refine⟨d,?_,y⟩;show Bl w _ s cs d
    rwa [AAz,By oa]at l
   obtain⟨xs,m,rfl,rfl,X,C,D⟩:=DataW.trod_array g c;obtain⟨d,l,y⟩:=PF (λty t B cs x c o=>E ty t B m cs x c o) cs s 0 (fY P q e) A xs (by simp[fY,C]) (λi f hi=>by
    unfold fY at hi;rw[AAr]at hi;by_cases K:i<q
    .rw[ABN K]at hi;have hi:({ (default:Field) with offset:=i*P.cellsOf e,type:=e }:Field)=f:=by simpa using hi
     rw[<-hi];exact D i K
    .rw[AAA (by simp;omega)]at hi;cases hi) (λb u=>o b (by
    simp only[DataW.weights,g];unfold fY at u;rw[List.range_eq_range']at u;exact TQ b u))
   refine⟨d,?_,y⟩;show Bl w _ s cs d
   rwa [AAz,By oa]at l
  | prod a b=>simp[rd]at h
  | ref j=>simp[rd]at h
theorem tD {k:Nat} {ty:Ty} {t:TypeId} {v:Value} {r:Reach} {base:Nat} (h:rd P k ty t=true) (d:Value.okWide P w r base t v):v=ty.wrap v.cells.toList:=by
 cases k with
 | zero=>simp[rd]at h
 | succ k =>
  cases ty with
  | int q =>
   obtain⟨n,rfl⟩:=okWide_int (Uj (by simpa only[rd] using h)) d;rfl
  | bool =>
   obtain⟨n,rfl⟩:=okWide_bool (cJ h) d;rfl
  | str =>
   obtain⟨n,rfl⟩:=okWide_string (l4 h) d;rfl
  | slice e =>
   obtain⟨et,f,_⟩:=W4 h;obtain⟨a,l,c,rfl⟩:=okWide_slice f d;rfl
  | agg s =>
   rcases l5 h with ⟨fs,f,_⟩|⟨q,e,f,_⟩
   .obtain⟨cs,rfl,_⟩:=okWide_struct f d;simp[Ty.wrap,Value.cells]
   simp only[Value.okWide,f]at d;obtain⟨cs,rfl,_⟩:=d;simp[Ty.wrap,Value.cells]
  | prod a b=>simp[rd]at h
  | ref j=>simp[rd]at h
def Ly (P:Program):List Ty->List TypeId->Bool
 | [],[]=>true
 | ty :: a,t :: ts=>rd P 50 ty t&&P.readableRec t&&decide (t<P.types.size)&&Ly P a ts
 | _,_=>false
theorem W6 {r:Reach} {base:Nat}:∀(a:List Ty) (ts:List TypeId) (c:List Value) (ds:List (DataW H)) (p:List MemPlace),Ly P a ts=true->DataW.TrodAll enc P w 0 spare held ts c ds p ->
  (∀(j:Nat) (t:TypeId) (v:Value),ts[j]?=some t->c[j]?=some v->Value.okWide P w r base t v)->(∀b∈DataW.weightsEach P ts ds,b<=reachBytes)->∃xs:H4 a,Lr w (λ_=>False) a c xs/\SzA a xs
 | [],[],c,ds,p,_,h,_,_=>by
  obtain⟨rfl,_,_⟩:=trodAll_nil h;exact⟨(),rfl,trivial⟩
 | ty :: a,t :: ts,c,ds,p,i,h,k,e=>by
  simp only[Ly,AT]at i;obtain⟨⟨⟨g,_⟩,_⟩,o⟩:=i;obtain⟨v,l,d,m,G,D,rfl,rfl,rfl,⟨n,q⟩,s⟩:=trodAll_cons h;simp only[DataW.weightsEach,aT]at e;obtain⟨x,z,B⟩:=l6 50 ty t g n _ _ q (λb f=>e b (.inl f));obtain⟨xs,A,C⟩:=W6 a ts l m D o s (λj E F u y=>k (j+1) E F u y) (λb f=>e b (.inr f));exact⟨(x,xs),⟨v,l,rfl,⟨_,z,tD g (k 0 t v rfl rfl)⟩,A⟩,B,C⟩
 | [],_ :: _,_,_,_,h,_,_,_=>by simp[Ly]at h
 | _ :: _,[],_,_,_,h,_,_,_=>by simp[Ly]at h
theorem TR (i:laidOutB P=true) {W f:World} (g:Below W.heap.size W f):∀(e:List Ty) (ts:List TypeId) (a:List Value) (ds:List (DataW H)) (p:List MemPlace),Ly P e ts=true ->
  DataW.TrodAll enc P W 0 (λ_=>true) true ts a ds p->(∀x∈p,x.block<W.heap.size)->DataW.TrodAll enc P f 0 (λb=>decide (b<W.heap.size)) true ts a ds p
 | [],[],a,ds,p,_,h,_=>by
  obtain⟨rfl,rfl,rfl⟩:=trodAll_nil h;rfl
 | ty :: e,t :: ts,a,ds,p,k,h,j=>by
  simp only[Ly,AT,Do]at k;obtain⟨⟨⟨_,n⟩,o⟩,q⟩:=k;obtain⟨v,w,d,m,u,l,rfl,rfl,rfl,r,s⟩:=trodAll_cons h;exact⟨u,l,Below.trod i n o r g (λx c=>j x (ACh _ c)),TR i g e ts w m l q s (λx c=>j x (List.mem_append_right _ c)),rfl⟩
 | [],_ :: _,_,_,_,h,_,_=>by simp[Ly]at h
 | _ :: _,[],_,_,_,h,_,_=>by simp[Ly]at h
end
theorem l7 {w:World} {O:Nat->Prop} {u:Value} {w':World} (h:q7 w O [.p .bool true] u w'):u=.bool true/\Below w.heap.size w w':=by
 obtain⟨ρ',b⟩:=h 0;refine⟨?_,b.below⟩;obtain⟨cs,a,c⟩:BG _ _ .bool u true:=b.av;have a:cs=[.bool true]:=a;rw[c,a];rfl
theorem l8 {P:Program} {f:FuncId} {fn:Func} {a:Spec} {s:ChangeSpec} {tb:TypeId} (M:Ap P f a) (O:∀ds,SzA a.ins ds->a.pre ds) (N:∀ds,a.out ds=[.p .bool true])
  (J:laidOutB P=true) (y:Ly P a.ins fn.params.toList=true) (R:fn.resultTypes=#[tb]) (F:P.underlying tb=some .bool) (z:s.vars=[])
  (hs:∀(H:Type) (ds:List (DataW H)),ds.length=fn.params.size->(s.fn H ds).results=[.lit (.bool true)]/\(s.fn H ds).args=ds/\(s.fn H ds).vars=[])
  {H:Type} {enc:TypeId×Value->H} {W:World} {base:Nat} {args:Array Value} {ds n:List (DataW H)} {A:List MemPlace} {ab:List TypeId}
  (X:∀(j:Nat) t v,fn.params[j]?=some t->args[j]?=some v->Value.okWide P W .any base t v)
  (r:DataW.Whole enc P fn.params.toList s.vars false W args.toList ds n A)
  (S:(DataW.weightsEach P (fn.params.toList++ab) (ds++n)).all (·<=reachBytes)=true) (I:GW W (λb=>b<W.heap.size) λ_=>False:=by intro x k;cases k) :
  Calls P f args W λe m=>∃v,e=.returned v/\s.post enc P fn false true false false W args v m:=by
 have w:=r;obtain⟨p,q,g,o,rfl,ae,af⟩:=r;rw[z]at o;obtain⟨rfl,rfl⟩:=trodVars_none o;obtain⟨xs,Y,Z⟩:=W6 a.ins fn.params.toList args.toList ds p y g (λj t v T V=>X j t v (by simpa using T) (by simpa using V))
  (λb c=>by simpa using IS.1 S b (TP b c))
 have L:∀x∈p,x.block<W.heap.size:=λx k=>by simpa using w.lt x (ACh _ k)
 have K:ds.length=fn.params.size:=by
  have:∀(ts:List TypeId) (l:List Value) (ds:List (DataW H)) (p:List MemPlace),DataW.TrodAll enc P W 0 (λ_=>true) true ts l ds p->ds.length=ts.length:=by
   intro ts;induction ts with
   | nil=>intro l ds p h;obtain⟨_,rfl,_⟩:=trodAll_nil h;rfl
   | cons t ts aa=>intro l ds p h;obtain⟨v,ai,d,ad,ag,ah,rfl,rfl,rfl,_,Q⟩:=trodAll_cons h;simp[aa _ _ _ Q]
  simpa using this _ _ _ _ g
 have i:=M.2 W (λ_=>False) args.toList xs (λ_ h=>h.elim) I Y (O xs Z);rw[N]at i;have E:args.toList.toArray=args:=by simp
 rw[E]at i;refine i.mono λe m ⟨u,G,U⟩=>?_;obtain⟨rfl,c⟩:=l7 U;obtain⟨B,C,D⟩:=hs H (ds++[]) (by simpa using K);refine⟨_,G,_,_,_,[],p,[],w,?_,?_,?_,c.frame _,λh=>by cases h⟩
 .rw[B,R];exact trodAll_mk1 (shut_bool F _)
 .rw[C,AAb];exact TR J c a.ins _ _ _ _ y g L
 rw[D,z];rfl
end
end Go.Proofs.YtaoonfcjbmcmpaaGreatDoor.Fw
