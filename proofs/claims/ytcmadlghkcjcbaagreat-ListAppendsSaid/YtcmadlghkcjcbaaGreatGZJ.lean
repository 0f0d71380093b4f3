/- This program's types; a slice compared with nil; from a contract to the given statement. -/
import Derived.Test.YtcmadlghkcjcbaaGreatGZI
import Derived.Test.YtcmadlghkcjcbaaGreatChecked
import Derived.Laws.Cover3
import Derived.Carry
import Derived.SizedLaws
import Derived.OpenShut
set_option linter.unusedVariables false
set_option linter.unusedSimpArgs false
namespace Go.Proofs.YtcmadlghkcjcbaaGreat.Fw
variable {P:Program} {t:TypeId} {n:Nat} {w:World} {e:Ty}
section
abbrev T1:Ty:=.ref 1
abbrev T2:Ty:=.int .i64
abbrev T3:Ty:=.int .i64
abbrev T4:Ty:=.bool
abbrev T5:Ty:=.int .u8
abbrev T9:Ty:=.str
abbrev HB:Ty:=.int .i64
abbrev CK:Ty:=.agg (.prod T3 (T3))
abbrev Cl:Ty:=.slice CK
abbrev Eb:Ty:=.agg (.prod T3 (Cl))
abbrev D6:Ty:=.slice T3
abbrev GY:Ty:=.slice T9
abbrev T99:Ty:=.ref 1
abbrev A9F:Ty:=.ref 2
abbrev A9G:Ty:=.ref 1
abbrev A9H:Ty:=.ref 0
abbrev A7Z:Ty:=.slice Cl
abbrev A9I:Ty:=.ref 1
abbrev A9J:Ty:=.ref 2
abbrev A9K:Ty:=.ref 1
abbrev A1w:Ty:=.agg (.prod T9 (T3))
abbrev A1x:Ty:=.agg (.prod T3 (T3))
abbrev oL:Ty:=.agg (.prod T9 (T9))
abbrev A9L:Ty:=.ref 1
abbrev A9M:Ty:=.ref 1
abbrev Jf:Ty:=.agg (.prod T3 (T3))
abbrev A9N:Ty:=.slice Jf
abbrev A9O:Ty:=.ref 1
abbrev A9P:Ty:=.ref 0
abbrev A9Q:Ty:=.ref 1
abbrev A9R:Ty:=.ref 1
abbrev A9S:Ty:=.ref 1
abbrev R6:Ty:=.int .u64
abbrev A9T:Ty:=.int .u64
abbrev A9U:Ty:=.ref 1
abbrev A9V:Ty:=.int .i64
abbrev A9W:Ty:=.int .u32
abbrev A9X:Ty:=.int .u64
abbrev A9Y:Ty:=.ref 0
abbrev A9Z:Ty:=.ref 0
abbrev Eg:Ty:=.slice Eb
abbrev Cv:Ty:=.agg (Eg)
abbrev tZ:Ty:=.slice A1w
abbrev eZ:Ty:=.slice Cv
abbrev ER:Ty:=.slice R6
abbrev T85:Ty:=.agg (.prod T9 (ER))
abbrev T87:Ty:=.slice A1x
abbrev T89:Ty:=.agg (.prod T9 (.prod ER (.prod D6 (T87))))
abbrev T93:Ty:=.slice oL
abbrev T95:Ty:=.agg (.prod T9 (.prod GY (T93)))
abbrev Ue:Ty:=.slice ER
abbrev AA0:Ty:=.agg (.prod Cv (.prod D6 (D6)))
abbrev FU:Ty:=.slice T95
abbrev mZ:Ty:=.slice T89
abbrev Ec:Ty:=.agg (.prod mZ (tZ))
abbrev T59:Ty:=.agg (.prod Ec (.prod T3 (.prod T3 (.prod T3 (.prod T3 (.prod T3 (.prod T3 (.prod T3 (T3)))))))))
abbrev T76:Ty:=.slice T87
abbrev ZG:Ty:=.slice T85
abbrev AA1:Ty:=.agg (.prod Ec (.prod D6 (.prod D6 (A7Z))))
set_option maxRecDepth 100000
def A4:List (Nat×TI):=[(1,⟨T1,[],0,8⟩),
 (2,⟨T2,[],0,8⟩),
 (3,⟨T3,[],0,8⟩),
 (4,⟨T4,[],0,1⟩),
 (5,⟨T5,[],0,1⟩),
 (9,⟨T9,[],0,16⟩),
 (22,⟨FU,[],95,24⟩),
 (23,⟨Eg,[],48,24⟩),
 (25,⟨Cv,[(0,1)],0,24⟩),
 (26,⟨mZ,[],89,24⟩),
 (27,⟨tZ,[],126,24⟩),
 (29,⟨Ec,[(0,1),(1,1)],0,48⟩),
 (33,⟨HB,[],0,8⟩),
 (45,⟨CK,[(0,1),(1,1)],0,16⟩),
 (46,⟨Cl,[],45,24⟩),
 (48,⟨Eb,[(0,1),(1,1)],0,32⟩),
 (50,⟨eZ,[],25,24⟩),
 (51,⟨D6,[],3,24⟩),
 (59,⟨T59,[(0,2),(2,1),(3,1),(4,1),(5,1),(6,1),(7,1),(8,1),(9,1)],0,112⟩),
 (76,⟨T76,[],87,24⟩),
 (79,⟨ZG,[],85,24⟩),
 (83,⟨ER,[],185,24⟩),
 (85,⟨T85,[(0,1),(1,1)],0,40⟩),
 (87,⟨T87,[],134,24⟩),
 (89,⟨T89,[(0,1),(1,1),(2,1),(3,1)],0,88⟩),
 (92,⟨GY,[],9,24⟩),
 (93,⟨T93,[],145,24⟩),
 (95,⟨T95,[(0,1),(1,1),(2,1)],0,64⟩),
 (99,⟨T99,[],0,8⟩),
 (103,⟨A9F,[(3,4)],0,8⟩),
 (104,⟨A9G,[],0,8⟩),
 (111,⟨A9H,[],0,8⟩),
 (112,⟨A7Z,[],46,24⟩),
 (114,⟨AA1,[(0,2),(2,1),(3,1),(4,1)],0,120⟩),
 (116,⟨A9I,[],0,8⟩),
 (118,⟨A9J,[(3,3)],0,8⟩),
 (119,⟨A9K,[],0,8⟩),
 (126,⟨A1w,[(0,1),(1,1)],0,24⟩),
 (134,⟨A1x,[(0,1),(1,1)],0,16⟩),
 (135,⟨Ue,[],83,24⟩),
 (145,⟨oL,[(0,1),(1,1)],0,32⟩),
 (148,⟨A9L,[],0,8⟩),
 (150,⟨A9M,[],0,8⟩),
 (152,⟨Jf,[(0,1),(1,1)],3,16⟩),
 (153,⟨A9N,[],152,24⟩),
 (155,⟨A9O,[],0,8⟩),
 (162,⟨A9P,[],0,8⟩),
 (164,⟨AA0,[(0,1),(1,1),(2,1)],0,72⟩),
 (181,⟨A9Q,[],0,8⟩),
 (182,⟨A9R,[],0,8⟩),
 (184,⟨A9S,[],0,8⟩),
 (185,⟨R6,[],0,8⟩),
 (191,⟨A9T,[],0,8⟩),
 (195,⟨A9U,[],0,8⟩),
 (205,⟨A9V,[],0,8⟩),
 (212,⟨A9W,[],0,4⟩),
 (214,⟨A9X,[],0,8⟩),
 (218,⟨A9Y,[],0,8⟩),
 (220,⟨A9Z,[],0,8⟩)]
theorem tyTab_ok (f) (a:List Nat) (b:List Nat:=[]) (ne:List (Nat×TypeId):=[]):DC Tryz.prog ⟨A4,f,b,ne,a⟩:=A4R (by kernel_rfl)
theorem drawsAny:Tryz.prog.follows .mixedOrders=true:=by kernel_rfl
theorem ty1:lk 1 A4=some ⟨T1,[],0,8⟩:=rfl
theorem ty2:lk 2 A4=some ⟨T2,[],0,8⟩:=rfl
theorem ty3:lk 3 A4=some ⟨T3,[],0,8⟩:=rfl
theorem ty4:lk 4 A4=some ⟨T4,[],0,1⟩:=rfl
theorem ty5:lk 5 A4=some ⟨T5,[],0,1⟩:=rfl
theorem ty9:lk 9 A4=some ⟨T9,[],0,16⟩:=rfl
theorem A82:lk 22 A4=some ⟨FU,[],95,24⟩:=rfl
theorem A83:lk 23 A4=some ⟨Eg,[],48,24⟩:=rfl
theorem A84:lk 25 A4=some ⟨Cv,[(0,1)],0,24⟩:=rfl
theorem A85:lk 26 A4=some ⟨mZ,[],89,24⟩:=rfl
theorem A86:lk 27 A4=some ⟨tZ,[],126,24⟩:=rfl
theorem A87:lk 29 A4=some ⟨Ec,[(0,1),(1,1)],0,48⟩:=rfl
theorem A88:lk 33 A4=some ⟨HB,[],0,8⟩:=rfl
theorem A89:lk 45 A4=some ⟨CK,[(0,1),(1,1)],0,16⟩:=rfl
theorem A8a:lk 46 A4=some ⟨Cl,[],45,24⟩:=rfl
theorem A8b:lk 48 A4=some ⟨Eb,[(0,1),(1,1)],0,32⟩:=rfl
theorem A8c:lk 50 A4=some ⟨eZ,[],25,24⟩:=rfl
theorem A8d:lk 51 A4=some ⟨D6,[],3,24⟩:=rfl
theorem A8e:lk 59 A4=some ⟨T59,[(0,2),(2,1),(3,1),(4,1),(5,1),(6,1),(7,1),(8,1),(9,1)],0,112⟩:=rfl
theorem A8f:lk 76 A4=some ⟨T76,[],87,24⟩:=rfl
theorem A8g:lk 79 A4=some ⟨ZG,[],85,24⟩:=rfl
theorem A8h:lk 83 A4=some ⟨ER,[],185,24⟩:=rfl
theorem A8i:lk 85 A4=some ⟨T85,[(0,1),(1,1)],0,40⟩:=rfl
theorem A8j:lk 87 A4=some ⟨T87,[],134,24⟩:=rfl
theorem A8k:lk 89 A4=some ⟨T89,[(0,1),(1,1),(2,1),(3,1)],0,88⟩:=rfl
theorem A8l:lk 92 A4=some ⟨GY,[],9,24⟩:=rfl
theorem A8m:lk 93 A4=some ⟨T93,[],145,24⟩:=rfl
theorem A8n:lk 95 A4=some ⟨T95,[(0,1),(1,1),(2,1)],0,64⟩:=rfl
theorem A8o:lk 99 A4=some ⟨T99,[],0,8⟩:=rfl
theorem A1y:lk 103 A4=some ⟨A9F,[(3,4)],0,8⟩:=rfl
theorem A1z:lk 104 A4=some ⟨A9G,[],0,8⟩:=rfl
theorem A1A:lk 111 A4=some ⟨A9H,[],0,8⟩:=rfl
theorem A1B:lk 112 A4=some ⟨A7Z,[],46,24⟩:=rfl
theorem A1C:lk 114 A4=some ⟨AA1,[(0,2),(2,1),(3,1),(4,1)],0,120⟩:=rfl
theorem A1D:lk 116 A4=some ⟨A9I,[],0,8⟩:=rfl
theorem A1E:lk 118 A4=some ⟨A9J,[(3,3)],0,8⟩:=rfl
theorem A1F:lk 119 A4=some ⟨A9K,[],0,8⟩:=rfl
theorem A1G:lk 126 A4=some ⟨A1w,[(0,1),(1,1)],0,24⟩:=rfl
theorem A1H:lk 134 A4=some ⟨A1x,[(0,1),(1,1)],0,16⟩:=rfl
theorem A1I:lk 135 A4=some ⟨Ue,[],83,24⟩:=rfl
theorem A1J:lk 145 A4=some ⟨oL,[(0,1),(1,1)],0,32⟩:=rfl
theorem A1K:lk 148 A4=some ⟨A9L,[],0,8⟩:=rfl
theorem A1L:lk 150 A4=some ⟨A9M,[],0,8⟩:=rfl
theorem A1M:lk 152 A4=some ⟨Jf,[(0,1),(1,1)],3,16⟩:=rfl
theorem A1N:lk 153 A4=some ⟨A9N,[],152,24⟩:=rfl
theorem A1O:lk 155 A4=some ⟨A9O,[],0,8⟩:=rfl
theorem A1P:lk 162 A4=some ⟨A9P,[],0,8⟩:=rfl
theorem A1Q:lk 164 A4=some ⟨AA0,[(0,1),(1,1),(2,1)],0,72⟩:=rfl
theorem A1R:lk 181 A4=some ⟨A9Q,[],0,8⟩:=rfl
theorem A1S:lk 182 A4=some ⟨A9R,[],0,8⟩:=rfl
theorem A1T:lk 184 A4=some ⟨A9S,[],0,8⟩:=rfl
theorem A1U:lk 185 A4=some ⟨R6,[],0,8⟩:=rfl
theorem A1V:lk 191 A4=some ⟨A9T,[],0,8⟩:=rfl
theorem A1W:lk 195 A4=some ⟨A9U,[],0,8⟩:=rfl
theorem A1X:lk 205 A4=some ⟨A9V,[],0,8⟩:=rfl
theorem A1Y:lk 212 A4=some ⟨A9W,[],0,4⟩:=rfl
theorem A1Z:lk 214 A4=some ⟨A9X,[],0,8⟩:=rfl
theorem A20:lk 218 A4=some ⟨A9Y,[],0,8⟩:=rfl
theorem A21:lk 220 A4=some ⟨A9Z,[],0,8⟩:=rfl
end
section
open Go Go.RowKit Go.ChangeShapes Go.WideShapes
set_option maxRecDepth 100000
def t7 (r:Ty->TypeId->Bool) (P:Program):Ty->Nat->List Field->Bool
 | .prod a b,o,fs=>match fs with
  | f :: fs=>f.offset==o&&P.cellsOf f.type==a.size&&r a f.type&&t7 r P b (o+a.size) fs
  | []=>false
 | s,o,[f]=>f.offset==o&&P.cellsOf f.type==s.size&&r s f.type
 | _,_,_=>false
def yE (P:Program) (m:Nat) (e:TypeId):List Field:=(List.range m).map λi=>{ (default:Field) with offset:=i*P.cellsOf e,type:=e }
def rd (P:Program):Nat->Ty->TypeId->Bool
 | 0,_,_=>false
 | _+1,.int k,t=>isI k (P.underlying t)
 | _+1,.bool,t=>match P.underlying t with|some .bool=>true|_=>false
 | _+1,.str,t=>match P.underlying t with|some .string=>true|_=>false
 | n+1,.slice e,t=>match P.underlying t with|some (.slice et)=>decide (0<P.bytesOf et)&&P.cellsOf et==e.size&&rd P n e et|_=>false
 | n+1,.agg s,t=>match P.underlying t with|some (.struct fs)=>P.cellsOf t==s.size&&t7 (rd P n) P s 0 fs.toList|some (.array m e)=>P.cellsOf t==s.size&&t7 (rd P n) P s 0 (yE P m e)|_=>false
 | _+1,_,_=>false
theorem t8 (h:rd P (n+1) .bool t=true):P.underlying t=some .bool:=by
 simp only[rd]at h;split at h
 .assumption
 cases h
theorem A22 (h:rd P (n+1) .str t=true):P.underlying t=some .string:=by
 simp only[rd]at h;split at h
 .assumption
 cases h
theorem hC (h:rd P (n+1) (.slice e) t=true):∃et,P.underlying t=some (.slice et)/\0<P.bytesOf et/\P.cellsOf et=e.size/\rd P n e et=true:=by
 simp only[rd]at h;split at h
 .rename_i et hu;simp only[An,ON,TE]at h;exact⟨et,hu,h.1.1,h.1.2,h.2⟩
 cases h
theorem A23 {s:Ty} (h:rd P (n+1) (.agg s) t=true):(∃fs,P.underlying t=some (.struct fs)/\P.cellsOf t=s.size/\t7 (rd P n) P s 0 fs.toList=true)\/∃m e,P.underlying t=some (.array m e)/\P.cellsOf t=s.size/\t7 (rd P n) P s 0 (yE P m e)=true:=by
 simp only[rd]at h;split at h
 .rename_i fs hu;simp only[An,TE]at h;exact .inl ⟨fs,hu,h.1,h.2⟩
 .rename_i m e hu;simp only[An,TE]at h;exact .inr ⟨m,e,hu,h.1,h.2⟩
 cases h
theorem yF {base:Nat} {a:Addr} {n:Nat} {cs:List Value} (h:w.cells? base a n=some cs):cs.length=n/\∀(j:Nat) (v:Value),cs[j]?=some v->w.cell? (a.add j)=some v:=by
 unfold World.cells? at h;split at h
 .have h1:=mapM_some_length h;simp only[ABt]at h1;refine⟨h1,λj v b=>?_⟩;have c:j<n:=by
   obtain⟨c,_⟩:=RL.1 b;omega
  rw[mapM_some_get h j j (by simp[c]),b]
 cases h
section
variable {H:Type} {enc:TypeId×Value->H} {P:Program} {w:World} {spare:Nat->Bool} {held:Bool}
theorem hZ {e:TypeId}:∀ {l:List (DataW H)} {d:DataW H},d∈l->∀n∈d.weights P e,n∈DataW.weightsAll P e l
 | a :: l,d,hd,n,hn=>by
  simp only[DataW.weightsAll,Fg];rcases DO.1 hd with rfl|hd
  .exact .inl hn
  exact .inr (hZ hd n hn)
 | [],_,hd,_,_=>by cases hd
theorem ZH {b:List TypeId} {a:List (DataW H)}:∀ {ts:List TypeId} {ds:List (DataW H)},∀n∈DataW.weightsEach P ts ds,n∈DataW.weightsEach P (ts++b) (ds++a)
 | t :: ts,d :: ds,n,hn=>by
  simp only[DataW.weightsEach,AB6,Fg]at hn ⊢;rcases hn with hn|hn
  .exact .inl hn
  exact .inr (ZH n hn)
 | [],_,n,hn=>by simp[DataW.weightsEach]at hn
 | _ :: _,[],n,hn=>by simp[DataW.weightsEach]at hn
theorem ZI {e:TypeId}:∀ {m:Nat} {k:Nat} {ds:List (DataW H)},∀n∈DataW.weightsEach P (((List.range' k m).map λi=>({ (default:Field) with offset:=i*P.cellsOf e,type:=e }:Field)).map (·.type)) ds,n∈DataW.weightsAll P e ds
 | 0,_,ds,n,hn=>by simp[DataW.weightsEach]at hn
 | m+1,k,[],n,hn=>by
  rw[List.range'_succ]at hn;simp[DataW.weightsEach]at hn
 | m+1,k,d :: ds,n,hn=>by
  rw[List.range'_succ]at hn;simp only[Rd,DataW.weightsEach,Fg]at hn;simp only[DataW.weightsAll,Fg];rcases hn with hn|hn
  .exact .inl hn
  exact .inr (ZI n hn)
theorem Tr {n:Nat} {r:Ty->TypeId->Bool}
  (v:∀ty t,r ty t=true->∀(cs:List Value) (x:DataW H×List MemPlace),DataW.trod enc P w 0 spare held n t cs=some x->(∀b∈x.1.weights P t,b<=reachBytes)->∃d:ty.den,B1 w (λ_=>False) ty cs d) (cs:List Value) :
  ∀(s:Ty) (o:Nat) (fs:List Field),t7 r P s o fs=true->∀xs:List (DataW H×List MemPlace),xs.length=fs.length ->
   (∀(i:Nat) (f:Field),fs[i]?=some f->DataW.trod enc P w 0 spare held n f.type ((cs.drop f.offset).take (P.cellsOf f.type))=xs[i]?) ->
   (∀b∈DataW.weightsEach P (fs.map (·.type)) (xs.map (·.1)),b<=reachBytes)->∃d:s.den,B1 w (λ_=>False) s ((cs.drop o).take s.size) d:=by
 have one:∀(s:Ty) (o:Nat) (f:Field),(f.offset==o&&P.cellsOf f.type==s.size&&r s f.type)=true->∀x:DataW H×List MemPlace,
   DataW.trod enc P w 0 spare held n f.type ((cs.drop f.offset).take (P.cellsOf f.type))=some x ->
   (∀b∈x.1.weights P f.type,b<=reachBytes)->∃d:s.den,B1 w (λ_=>False) s ((cs.drop o).take s.size) d:=by
  intro s o f h x hx hb;simp only[An,TE]at h;obtain⟨⟨rfl,j⟩,l⟩:=h;rw[<-j];exact v s f.type l _ x hx hb
 have lone:∀(s:Ty) (o:Nat) (f:Field),(f.offset==o&&P.cellsOf f.type==s.size&&r s f.type)=true->∀xs:List (DataW H×List MemPlace),xs.length=[f].length ->
   (∀(i:Nat) (g:Field),[f][i]?=some g->DataW.trod enc P w 0 spare held n g.type ((cs.drop g.offset).take (P.cellsOf g.type))=xs[i]?) ->
   (∀b∈DataW.weightsEach P ([f].map (·.type)) (xs.map (·.1)),b<=reachBytes)->∃d:s.den,B1 w (λ_=>False) s ((cs.drop o).take s.size) d:=by
  intro s o f h xs hl hx hb;obtain⟨x,rfl⟩:∃x,xs=[x]:=ABy.1 (by simpa using hl);exact one s o f h x (hx 0 f rfl) (λb c=>hb b (by simp[DataW.weightsEach,c]))
 intro s;induction s with
 | prod a b B y =>
  intro o fs h xs hl hx hb;cases fs with
  | nil=>simp[t7]at h
  | cons f fs =>
   simp only[t7,An]at h;obtain⟨⟨⟨h1,j⟩,l⟩,q⟩:=h;obtain⟨x,ys,rfl⟩:∃x ys,xs=x :: ys:=List.exists_cons_of_ne_nil (by intro h;subst h;simp at hl);obtain⟨m,z⟩:=one a o f (by simp only[h1,j,l,Bool.and_self]) x (hx 0 f rfl) (λb c=>hb b (by
     simp only[Rd,DataW.weightsEach,Fg];exact .inl c))
   obtain⟨p,A⟩:=y (o+a.size) fs q ys (by simpa using hl) (λi g u=>hx (i+1) g u) (λb c=>hb b (by
     simp only[Rd,DataW.weightsEach,Fg];exact .inr c))
   refine⟨(m,p),(cs.drop o).take a.size,(cs.drop (o+a.size)).take b.size,?_,z,A⟩;show (cs.drop o).take (a.size+b.size)=_;rw[List.take_add,AC2]
 | int k=>intro o fs h;match fs,h with|[f],h=>exact lone _ o f (by simpa only[t7] using h)
 | bool=>intro o fs h;match fs,h with|[f],h=>exact lone _ o f (by simpa only[t7] using h)
 | str=>intro o fs h;match fs,h with|[f],h=>exact lone _ o f (by simpa only[t7] using h)
 | slice e _=>intro o fs h;match fs,h with|[f],h=>exact lone _ o f (by simpa only[t7] using h)
 | agg t _=>intro o fs h;match fs,h with|[f],h=>exact lone _ o f (by simpa only[t7] using h)
 | ref k=>intro o fs h;match fs,h with|[f],h=>exact lone _ o f (by simpa only[t7] using h)
theorem A24:∀(k:Nat) (ty:Ty) (t:TypeId),rd P k ty t=true->∀(n:Nat) (cs:List Value) (x:DataW H×List MemPlace),
  DataW.trod enc P w 0 spare held n t cs=some x->(∀b∈x.1.weights P t,b<=reachBytes)->∃d:ty.den,B1 w (λ_=>False) ty cs d:=by
 intro k;induction k with
 | zero=>intro ty t h;simp[rd]at h
 | succ k y =>
  intro ty t h n cs x hx hb;cases ty with
  | int q =>
   have hu:=Vh (by simpa only[rd] using h);obtain⟨m,rfl,rfl,C⟩:=DataW.trod_int hu hx;simp only[Lit.wf,An,ON]at C;exact⟨m,rfl,C⟩
  | bool =>
   obtain⟨b,rfl,rfl⟩:=DataW.trod_bool (t8 h) hx;exact⟨b,rfl⟩
  | str =>
   obtain⟨b,rfl,rfl,_⟩:=DataW.trod_string (A22 h) hx;refine⟨b,rfl,?_⟩;have:=hb b.data.toList.length (by simp only[DataW.weights];exact ABq);have g:b.data.toList.length=b.size:=ACs;simp only[reachBytes]at this;simp only[AQ];omega
  | slice e =>
   obtain⟨et,hu,I,z,o⟩:=hC h;rcases DataW.trod_slice hu hx with ⟨rfl,rfl⟩|⟨a,len,cap,elems,rest,m,rfl,rfl,rfl,-,Q,-,R,M,-,-⟩
   .exact⟨[],none,0,rfl,IN _,OF _,.inl rfl⟩
   have T:len<=AQ:=by
    have h1:=hb ((elems.length+rest.length)*P.bytesOf et) (by simp only[DataW.weights,hu,No];exact ABq);have g:elems.length+rest.length<=(elems.length+rest.length)*P.bytesOf et:=Nat.le_mul_of_pos_right _ I;simp only[reachBytes]at h1;simp only[AQ];omega
   have A:∀i,i<len->∃d:e.den,∃c:List Value,c.length=e.size/\(∀(j:Nat) (v:Value),c[j]?=some v->w.cell? (a.add (i*e.size+j))=some v)/\B1 w (λ_=>False) e c d:=by
    intro i hi;have h1:=M i hi;obtain⟨x,hx⟩:∃x,elems[i]?=some x:=⟨_,AT O1⟩;rw[hx]at h1;obtain⟨c,g,D⟩:=Option.bind_eq_some_iff.1 h1;obtain⟨E,F⟩:=yF g;obtain⟨d,hd⟩:=y e et o m c x D (λb l=>hb b (by
     simp only[DataW.weights,hu];exact If _ (S7 _ (hZ (Do.2 ⟨x,AAm hx,rfl⟩) b l))))
    refine⟨d,c,by rw[E,z],λj v O=>?_,hd⟩;have:=F j v O
    rwa [DK,z]at this
   have G:∃ds:List e.den,ds.length=len/\∀(i:Nat) (d:e.den),ds[i]?=some d->∃c:List Value,c.length=e.size/\(∀(j:Nat) (v:Value),c[j]?=some v->w.cell? (a.add (i*e.size+j))=some v)/\B1 w (λ_=>False) e c d:=by
    refine⟨(List.range len).pmap (λi hi=>Classical.choose (A i hi)) (λi hi=>Ra.1 hi),by simp,λi d hd=>?_⟩;rw[List.getElem?_pmap]at hd;simp only[Option.pmap_eq_some_iff]at hd;obtain⟨j,h1,g,rfl⟩:=hd;have N:j=i:=by
     obtain⟨S,o⟩:=RL.1 g;simpa using o.symm
    subst N;exact Classical.choose_spec (A j h1)
   obtain⟨ds,K,L⟩:=G;exact⟨ds,some a,cap,by rw[K],by omega,by omega,.inr ⟨a,rfl,λh=>h,L⟩⟩
  | agg s =>
   rcases A23 h with ⟨fs,hu,J,hf⟩|⟨q,e,hu,J,hf⟩
   .obtain⟨xs,m,rfl,rfl,hl,r,u⟩:=DataW.trod_struct hu hx;obtain⟨d,hd⟩:=Tr (λty t p cs x hx hb=>y ty t p m cs x hx hb) cs s 0 fs.toList hf xs (by simpa using r) (λi f hi=>u i f (by simpa using hi)) (by
     simpa[DataW.weights,hu] using hb)
    refine⟨d,?_⟩;show B1 w _ s cs d
    rwa [iN,As O1]at hd
   obtain⟨xs,m,rfl,rfl,hl,r,u⟩:=DataW.trod_array hu hx;obtain⟨d,hd⟩:=Tr (λty t p cs x hx hb=>y ty t p m cs x hx hb) cs s 0 (yE P q e) hf xs (by simp[yE,r]) (λi f hi=>by
    unfold yE at hi;rw[Rb]at hi;by_cases B:i<q
    .rw[AAC B]at hi;have hi:({ (default:Field) with offset:=i*P.cellsOf e,type:=e }:Field)=f:=by simpa using hi
     rw[<-hi];exact u i B
    .rw[RP (by simp;omega)]at hi;cases hi) (λb l=>hb b (by
    simp only[DataW.weights,hu];unfold yE at l;rw[List.range_eq_range']at l;exact ZI b l))
   refine⟨d,?_⟩;show B1 w _ s cs d
   rwa [iN,As O1]at hd
  | prod a b=>simp[rd]at h
  | ref j=>simp[rd]at h
theorem A5w {k:Nat} {ty:Ty} {t:TypeId} {v:Value} {r:Reach} {base:Nat} (h:rd P k ty t=true) (d:Value.okWide P w r base t v):v=ty.wrap v.cells.toList:=by
 cases k with
 | zero=>simp[rd]at h
 | succ k =>
  cases ty with
  | int q =>
   obtain⟨n,rfl⟩:=okWide_int (Vh (by simpa only[rd] using h)) d;rfl
  | bool =>
   obtain⟨n,rfl⟩:=okWide_bool (t8 h) d;rfl
  | str =>
   obtain⟨n,rfl⟩:=okWide_string (A22 h) d;rfl
  | slice e =>
   obtain⟨et,hu,_⟩:=hC h;obtain⟨a,l,c,rfl⟩:=okWide_slice hu d;rfl
  | agg s =>
   rcases A23 h with ⟨fs,hu,_⟩|⟨q,e,hu,_⟩
   .obtain⟨cs,rfl,_⟩:=okWide_struct hu d;simp[Ty.wrap,Value.cells]
   simp only[Value.okWide,hu]at d;obtain⟨cs,rfl,_⟩:=d;simp[Ty.wrap,Value.cells]
  | prod a b=>simp[rd]at h
  | ref j=>simp[rd]at h
def OM (P:Program):List Ty->List TypeId->Bool
 | [],[]=>true
 | ty :: a,t :: ts=>rd P 50 ty t&&P.readableRec t&&decide (t<P.types.size)&&OM P a ts
 | _,_=>false
theorem iA {r:Reach} {base:Nat}:∀(a:List Ty) (ts:List TypeId) (c:List Value) (ds:List (DataW H)) (p:List MemPlace),OM P a ts=true->DataW.TrodAll enc P w 0 spare held ts c ds p ->
  (∀(j:Nat) (t:TypeId) (v:Value),ts[j]?=some t->c[j]?=some v->Value.okWide P w r base t v)->(∀b∈DataW.weightsEach P ts ds,b<=reachBytes)->∃xs:KU a,Pw w (λ_=>False) a c xs
 | [],[],c,ds,p,_,h,_,_=>by
  obtain⟨rfl,_,_⟩:=trodAll_nil h;exact⟨(),rfl⟩
 | ty :: a,t :: ts,c,ds,p,f,h,g,hb=>by
  simp only[OM,An]at f;obtain⟨⟨⟨h1,_⟩,_⟩,l⟩:=f;obtain⟨v,i,d,k,z,s,rfl,rfl,rfl,⟨n,hd⟩,m⟩:=trodAll_cons h;simp only[DataW.weightsEach,Fg]at hb;obtain⟨x,hx⟩:=A24 50 ty t h1 n _ _ hd (λb e=>hb b (.inl e));obtain⟨xs,q⟩:=iA a ts i k s l m (λj u y ht o=>g (j+1) u y ht o) (λb e=>hb b (.inr e));exact⟨(x,xs),v,i,rfl,⟨_,hx,A5w h1 (g 0 t v rfl rfl)⟩,q⟩
 | [],_ :: _,_,_,_,h,_,_,_=>by simp[OM]at h
 | _ :: _,[],_,_,_,h,_,_,_=>by simp[OM]at h
theorem ZJ (hl:laidOutB P=true) {W e:World} (hb:Below W.heap.size W e):∀(c:List Ty) (ts:List TypeId) (a:List Value) (ds:List (DataW H)) (p:List MemPlace),OM P c ts=true ->
  DataW.TrodAll enc P W 0 (λ_=>true) true ts a ds p->(∀x∈p,x.block<W.heap.size)->DataW.TrodAll enc P e 0 (λb=>decide (b<W.heap.size)) true ts a ds p
 | [],[],a,ds,p,_,h,_=>by
  obtain⟨rfl,rfl,rfl⟩:=trodAll_nil h;rfl
 | ty :: c,t :: ts,a,ds,p,g,h,f=>by
  simp only[OM,An,ON]at g;obtain⟨⟨⟨_,h1⟩,k⟩,l⟩:=g;obtain⟨v,o,d,j,n,i,rfl,rfl,rfl,hd,m⟩:=trodAll_cons h;exact⟨n,i,Below.trod hl h1 k hd hb (λx hx=>f x (S7 _ hx)),ZJ hl hb c ts o j i l m (λx hx=>f x (AAH _ hx)),rfl⟩
 | [],_ :: _,_,_,_,h,_,_=>by simp[OM]at h
 | _ :: _,[],_,_,_,h,_,_=>by simp[OM]at h
end
theorem A25 {O:Nat->Prop} {u:Value} {w':World} (h:A0P w O [.p .bool true] u w'):u=.bool true/\Below w.heap.size w w':=by
 obtain⟨ρ',a⟩:=h 0;refine⟨?_,a.below⟩;obtain⟨cs,h1,b⟩:BU _ _ .bool u true:=a.av;have h1:cs=[.bool true]:=h1;rw[b,h1];rfl
theorem A26 {f:FuncId} {fn:Func} {sp:Ab} {s:ChangeSpec} {tb:TypeId} (G:Ac P f sp) (J:∀ds,sp.pre ds) (I:∀ds,sp.out ds=[.p .bool true])
  (hl:laidOutB P=true) (o:OM P sp.ins fn.params.toList=true) (L:fn.resultTypes=#[tb]) (C:P.underlying tb=some .bool) (r:s.vars=[])
  (hs:∀(H:Type) (ds:List (DataW H)),ds.length=fn.params.size->(s.fn H ds).results=[.lit (.bool true)]/\(s.fn H ds).args=ds/\(s.fn H ds).vars=[])
  {H:Type} {enc:TypeId×Value->H} {W:World} {args:Array Value} {ds k:List (DataW H)} {w:List MemPlace} {S:List TypeId}
  (O:∀(j:Nat) t v,fn.params[j]?=some t->args[j]?=some v->Value.okWide P W .any n t v)
  (m:DataW.Whole enc P fn.params.toList s.vars false W args.toList ds k w)
  (M:(DataW.weightsEach P (fn.params.toList++S) (ds++k)).all (·<=reachBytes)=true) :
  Calls P f args W λe i=>∃v,e=.returned v/\s.post enc P fn false true false false W args v i:=by
 have base:=m;obtain⟨p,q,a,l,rfl,U,V⟩:=m;rw[r]at l;obtain⟨rfl,rfl⟩:=trodVars_none l;obtain⟨xs,Q⟩:=iA sp.ins fn.params.toList args.toList ds p o a (λj t v ht N=>O j t v (by simpa using ht) (by simpa using N))
  (λb hb=>by simpa using Of.1 M b (ZH b hb))
 have F:∀x∈p,x.block<W.heap.size:=λx hx=>by simpa using base.lt x (S7 _ hx)
 have E:ds.length=fn.params.size:=by
  have:∀(ts:List TypeId) (g:List Value) (ds:List (DataW H)) (p:List MemPlace),DataW.TrodAll enc P W 0 (λ_=>true) true ts g ds p->ds.length=ts.length:=by
   intro ts;induction ts with
   | nil=>intro g ds p h;obtain⟨_,rfl,_⟩:=trodAll_nil h;rfl
   | cons t ts R=>intro g ds p h;obtain⟨v,Z,d,T,X,Y,rfl,rfl,rfl,_,K⟩:=trodAll_cons h;simp[R _ _ _ K]
  simpa using this _ _ _ _ a
 have c:=G.2 W (λ_=>False) args.toList xs (λ_ h=>h.elim) Q (J xs);rw[I]at c;have B:args.toList.toArray=args:=by simp
 rw[B]at c;refine c.mono λe i ⟨u,D,hu⟩=>?_;obtain⟨rfl,hb⟩:=A25 hu;obtain⟨y,z,A⟩:=hs H (ds++[]) (by simpa using E);refine⟨_,D,_,_,_,[],p,[],base,?_,?_,?_,hb.frame _,λh=>by cases h⟩
 .rw[y,L];exact trodAll_mk1 (shut_bool C _)
 .rw[z,S6];exact ZJ hl hb sp.ins _ _ _ _ o a F
 rw[A,r];rfl
end
end Go.Proofs.YtcmadlghkcjcbaaGreat.Fw
