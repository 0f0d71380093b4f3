/- This program's types; a slice compared with nil; from a contract to the given statement. -/
import Derived.Test.YtglkoagnnnpimaaGreatDoorAZI
import Derived.Test.YtglkoagnnnpimaaGreatDoorChecked
import Derived.Laws.Cover3
import Derived.Carry
import Derived.SizedLaws
import Derived.OpenShut
set_option linter.unusedVariables false
set_option linter.unusedSimpArgs false
namespace Go.Proofs.YtglkoagnnnpimaaGreatDoor.Fw
variable {t:TypeId} {P:Program} {n:Nat} {e:Ty} {w:World}
section
abbrev T1:Ty:=.ref 1
abbrev T2:Ty:=.int .i64
abbrev T3:Ty:=.int .i64
abbrev T4:Ty:=.bool
abbrev T5:Ty:=.int .u8
abbrev T9:Ty:=.str
abbrev T21:Ty:=.int .i32
abbrev DD:Ty:=.int .i64
abbrev CQ:Ty:=.slice T9
abbrev DR:Ty:=.agg (.prod T3 (T3))
abbrev T72:Ty:=.agg (.prod T9 (T9))
abbrev T78:Ty:=.ref 0
abbrev T79:Ty:=.ref 2
abbrev T91:Ty:=.agg (.prod T9 (T3))
abbrev T93:Ty:=.agg (.prod T3 (T3))
abbrev T96:Ty:=.ref 0
abbrev CH:Ty:=.slice T3
abbrev VX:Ty:=.agg (.prod T9 (.prod T3 (.prod DD (.prod CQ (CQ)))))
abbrev A69:Ty:=.ref 1
abbrev tT:Ty:=.agg (.prod T3 (T3))
abbrev A6a:Ty:=.ref 1
abbrev A6b:Ty:=.ref 0
abbrev tU:Ty:=.agg (.prod T9 (T3))
abbrev A6c:Ty:=.ref 0
abbrev A6d:Ty:=.ref 1
abbrev fA:Ty:=.agg (.prod T9 (T9))
abbrev Pf:Ty:=.int .u64
abbrev A6e:Ty:=.ref 2
abbrev A6f:Ty:=.ref 1
abbrev A6g:Ty:=.ref 1
abbrev A6h:Ty:=.ref 1
abbrev A41:Ty:=.ref 3
abbrev A6i:Ty:=.agg (T9)
abbrev A6j:Ty:=.agg (T9)
abbrev A6k:Ty:=.ref 1
abbrev A6l:Ty:=.ref 1
abbrev A6m:Ty:=.int .u64
abbrev A6n:Ty:=.ref 1
abbrev A6o:Ty:=.int .i64
abbrev A6p:Ty:=.int .u32
abbrev A6q:Ty:=.int .u64
abbrev A6r:Ty:=.ref 0
abbrev A6s:Ty:=.ref 0
abbrev fB:Ty:=.slice tU
abbrev NT:Ty:=.slice T93
abbrev T52:Ty:=.slice T91
abbrev T54:Ty:=.agg (.prod T9 (.prod T3 (T52)))
abbrev VY:Ty:=.slice DR
abbrev dC:Ty:=.agg (.prod T3 (VY))
abbrev T63:Ty:=.slice fA
abbrev tV:Ty:=.agg (.prod T9 (.prod CQ (T63)))
abbrev T71:Ty:=.slice T72
abbrev BS:Ty:=.slice Pf
abbrev Xw:Ty:=.slice tT
abbrev fC:Ty:=.agg (.prod T9 (.prod BS (.prod CH (Xw))))
abbrev A0Y:Ty:=.slice Xw
abbrev Xx:Ty:=.agg (.prod T9 (BS))
abbrev RL:Ty:=.slice BS
abbrev Pg:Ty:=.slice A41
abbrev Ee:Ty:=.slice tV
abbrev Zu:Ty:=.slice fC
abbrev GL:Ty:=.agg (.prod Zu (fB))
abbrev VZ:Ty:=.slice dC
abbrev MM:Ty:=.agg (VZ)
abbrev L7:Ty:=.slice T54
abbrev kJ:Ty:=.agg (.prod T3 (.prod T3 (.prod CQ (.prod L7 (NT)))))
abbrev T81:Ty:=.agg (.prod GL (.prod MM (.prod T79 (kJ))))
abbrev T98:Ty:=.agg (.prod GL (MM))
abbrev Ic:Ty:=.slice Xx
abbrev A6t:Ty:=.agg (.prod GL (.prod CH (CH)))
abbrev A6u:Ty:=.agg (.prod MM (.prod CH (CH)))
abbrev Zv:Ty:=.agg (.prod GL (.prod T3 (.prod T3 (.prod T3 (.prod T3 (.prod T3 (.prod T3 (.prod T3 (T3)))))))))
set_option maxRecDepth 100000
def Al:List (Nat×TI):=[(1,⟨T1,[],0,8⟩),
 (2,⟨T2,[],0,8⟩),
 (3,⟨T3,[],0,8⟩),
 (4,⟨T4,[],0,1⟩),
 (5,⟨T5,[],0,1⟩),
 (9,⟨T9,[],0,16⟩),
 (21,⟨T21,[],0,4⟩),
 (22,⟨Ee,[],65,24⟩),
 (23,⟨Zu,[],114,24⟩),
 (24,⟨fB,[],172,24⟩),
 (26,⟨GL,[(0,1),(1,1)],0,48⟩),
 (32,⟨VZ,[],57,24⟩),
 (34,⟨MM,[(0,1)],0,24⟩),
 (35,⟨DD,[],0,8⟩),
 (37,⟨CQ,[],9,24⟩),
 (38,⟨L7,[],54,24⟩),
 (39,⟨NT,[],93,24⟩),
 (41,⟨kJ,[(0,1),(1,1),(2,1),(3,1),(4,1)],0,88⟩),
 (52,⟨T52,[],91,24⟩),
 (54,⟨T54,[(0,1),(1,1),(2,1)],0,48⟩),
 (55,⟨VY,[],59,24⟩),
 (57,⟨dC,[(0,1),(1,1)],0,32⟩),
 (59,⟨DR,[(0,1),(1,1)],0,16⟩),
 (63,⟨T63,[],196,24⟩),
 (65,⟨tV,[(0,1),(1,1),(2,1)],0,64⟩),
 (71,⟨T71,[],72,24⟩),
 (72,⟨T72,[(0,1),(1,1)],9,32⟩),
 (78,⟨T78,[],0,8⟩),
 (79,⟨T79,[(3,3)],0,8⟩),
 (81,⟨T81,[(0,2),(2,1),(3,1),(4,5)],0,168⟩),
 (91,⟨T91,[(0,1),(1,1)],0,24⟩),
 (93,⟨T93,[(0,1),(1,1)],0,16⟩),
 (96,⟨T96,[],0,8⟩),
 (98,⟨T98,[(0,2),(2,1)],0,72⟩),
 (101,⟨CH,[],3,24⟩),
 (111,⟨BS,[],205,24⟩),
 (112,⟨Xw,[],149,24⟩),
 (114,⟨fC,[(0,1),(1,1),(2,1),(3,1)],0,88⟩),
 (120,⟨A0Y,[],112,24⟩),
 (123,⟨Ic,[],127,24⟩),
 (127,⟨Xx,[(0,1),(1,1)],0,40⟩),
 (133,⟨VX,[(0,1),(1,1),(2,1),(3,1),(4,1)],0,80⟩),
 (146,⟨A69,[],0,8⟩),
 (149,⟨tT,[(0,1),(1,1)],0,16⟩),
 (154,⟨A6a,[],0,8⟩),
 (161,⟨A6b,[],0,8⟩),
 (163,⟨A6t,[(0,2),(2,1),(3,1)],0,96⟩),
 (172,⟨tU,[(0,1),(1,1)],0,24⟩),
 (173,⟨A6c,[],0,8⟩),
 (175,⟨A6u,[(0,1),(1,1),(2,1)],0,72⟩),
 (176,⟨A6d,[],0,8⟩),
 (186,⟨RL,[],111,24⟩),
 (196,⟨fA,[(0,1),(1,1)],0,32⟩),
 (205,⟨Pf,[],0,8⟩),
 (215,⟨A6e,[(3,4)],0,8⟩),
 (217,⟨A6f,[],0,8⟩),
 (218,⟨A6g,[],0,8⟩),
 (220,⟨A6h,[],0,8⟩),
 (236,⟨Pg,[],239,24⟩),
 (239,⟨A41,[],0,16⟩),
 (241,⟨A6i,[(0,1)],0,16⟩),
 (244,⟨A6j,[(0,1)],0,16⟩),
 (248,⟨Zv,[(0,2),(2,1),(3,1),(4,1),(5,1),(6,1),(7,1),(8,1),(9,1)],0,112⟩),
 (252,⟨A6k,[],0,8⟩),
 (258,⟨A6l,[],0,8⟩),
 (263,⟨A6m,[],0,8⟩),
 (270,⟨A6n,[],0,8⟩),
 (272,⟨A6o,[],0,8⟩),
 (279,⟨A6p,[],0,4⟩),
 (281,⟨A6q,[],0,8⟩),
 (285,⟨A6r,[],0,8⟩),
 (287,⟨A6s,[],0,8⟩)]
theorem tyTab_ok (f) (a:List Nat) (b:List Nat:=[]) (ne:List (Nat×TypeId):=[]):Cs Tryz.prog ⟨Al,f,b,ne,a⟩:=A0f (by kernel_rfl)
theorem drawsAny:Tryz.prog.follows .mixedOrders=true:=by kernel_rfl
theorem ty1:lk 1 Al=some ⟨T1,[],0,8⟩:=rfl
theorem ty2:lk 2 Al=some ⟨T2,[],0,8⟩:=rfl
theorem ty3:lk 3 Al=some ⟨T3,[],0,8⟩:=rfl
theorem ty4:lk 4 Al=some ⟨T4,[],0,1⟩:=rfl
theorem ty5:lk 5 Al=some ⟨T5,[],0,1⟩:=rfl
theorem ty9:lk 9 Al=some ⟨T9,[],0,16⟩:=rfl
theorem A43:lk 21 Al=some ⟨T21,[],0,4⟩:=rfl
theorem A44:lk 22 Al=some ⟨Ee,[],65,24⟩:=rfl
theorem A45:lk 23 Al=some ⟨Zu,[],114,24⟩:=rfl
theorem A46:lk 24 Al=some ⟨fB,[],172,24⟩:=rfl
theorem A47:lk 26 Al=some ⟨GL,[(0,1),(1,1)],0,48⟩:=rfl
theorem A48:lk 32 Al=some ⟨VZ,[],57,24⟩:=rfl
theorem A49:lk 34 Al=some ⟨MM,[(0,1)],0,24⟩:=rfl
theorem A4a:lk 35 Al=some ⟨DD,[],0,8⟩:=rfl
theorem A4b:lk 37 Al=some ⟨CQ,[],9,24⟩:=rfl
theorem A4c:lk 38 Al=some ⟨L7,[],54,24⟩:=rfl
theorem A4d:lk 39 Al=some ⟨NT,[],93,24⟩:=rfl
theorem A4e:lk 41 Al=some ⟨kJ,[(0,1),(1,1),(2,1),(3,1),(4,1)],0,88⟩:=rfl
theorem A4f:lk 52 Al=some ⟨T52,[],91,24⟩:=rfl
theorem A4g:lk 54 Al=some ⟨T54,[(0,1),(1,1),(2,1)],0,48⟩:=rfl
theorem A4h:lk 55 Al=some ⟨VY,[],59,24⟩:=rfl
theorem A4i:lk 57 Al=some ⟨dC,[(0,1),(1,1)],0,32⟩:=rfl
theorem A4j:lk 59 Al=some ⟨DR,[(0,1),(1,1)],0,16⟩:=rfl
theorem A4k:lk 63 Al=some ⟨T63,[],196,24⟩:=rfl
theorem A4l:lk 65 Al=some ⟨tV,[(0,1),(1,1),(2,1)],0,64⟩:=rfl
theorem A4m:lk 71 Al=some ⟨T71,[],72,24⟩:=rfl
theorem A4n:lk 72 Al=some ⟨T72,[(0,1),(1,1)],9,32⟩:=rfl
theorem A4o:lk 78 Al=some ⟨T78,[],0,8⟩:=rfl
theorem A4p:lk 79 Al=some ⟨T79,[(3,3)],0,8⟩:=rfl
theorem A4q:lk 81 Al=some ⟨T81,[(0,2),(2,1),(3,1),(4,5)],0,168⟩:=rfl
theorem A4r:lk 91 Al=some ⟨T91,[(0,1),(1,1)],0,24⟩:=rfl
theorem A4s:lk 93 Al=some ⟨T93,[(0,1),(1,1)],0,16⟩:=rfl
theorem A4t:lk 96 Al=some ⟨T96,[],0,8⟩:=rfl
theorem A4u:lk 98 Al=some ⟨T98,[(0,2),(2,1)],0,72⟩:=rfl
theorem tW:lk 101 Al=some ⟨CH,[],3,24⟩:=rfl
theorem tX:lk 111 Al=some ⟨BS,[],205,24⟩:=rfl
theorem tY:lk 112 Al=some ⟨Xw,[],149,24⟩:=rfl
theorem tZ:lk 114 Al=some ⟨fC,[(0,1),(1,1),(2,1),(3,1)],0,88⟩:=rfl
theorem t4:lk 120 Al=some ⟨A0Y,[],112,24⟩:=rfl
theorem t5:lk 123 Al=some ⟨Ic,[],127,24⟩:=rfl
theorem t6:lk 127 Al=some ⟨Xx,[(0,1),(1,1)],0,40⟩:=rfl
theorem t7:lk 133 Al=some ⟨VX,[(0,1),(1,1),(2,1),(3,1),(4,1)],0,80⟩:=rfl
theorem t8:lk 146 Al=some ⟨A69,[],0,8⟩:=rfl
theorem t9:lk 149 Al=some ⟨tT,[(0,1),(1,1)],0,16⟩:=rfl
theorem uA:lk 154 Al=some ⟨A6a,[],0,8⟩:=rfl
theorem uB:lk 161 Al=some ⟨A6b,[],0,8⟩:=rfl
theorem uC:lk 163 Al=some ⟨A6t,[(0,2),(2,1),(3,1)],0,96⟩:=rfl
theorem uD:lk 172 Al=some ⟨tU,[(0,1),(1,1)],0,24⟩:=rfl
theorem uE:lk 173 Al=some ⟨A6c,[],0,8⟩:=rfl
theorem uF:lk 175 Al=some ⟨A6u,[(0,1),(1,1),(2,1)],0,72⟩:=rfl
theorem uG:lk 176 Al=some ⟨A6d,[],0,8⟩:=rfl
theorem uH:lk 186 Al=some ⟨RL,[],111,24⟩:=rfl
theorem uI:lk 196 Al=some ⟨fA,[(0,1),(1,1)],0,32⟩:=rfl
theorem uJ:lk 205 Al=some ⟨Pf,[],0,8⟩:=rfl
theorem uK:lk 215 Al=some ⟨A6e,[(3,4)],0,8⟩:=rfl
theorem uL:lk 217 Al=some ⟨A6f,[],0,8⟩:=rfl
theorem uM:lk 218 Al=some ⟨A6g,[],0,8⟩:=rfl
theorem uN:lk 220 Al=some ⟨A6h,[],0,8⟩:=rfl
theorem uO:lk 236 Al=some ⟨Pg,[],239,24⟩:=rfl
theorem uP:lk 239 Al=some ⟨A41,[],0,16⟩:=rfl
theorem uQ:lk 241 Al=some ⟨A6i,[(0,1)],0,16⟩:=rfl
theorem uR:lk 244 Al=some ⟨A6j,[(0,1)],0,16⟩:=rfl
theorem uS:lk 248 Al=some ⟨Zv,[(0,2),(2,1),(3,1),(4,1),(5,1),(6,1),(7,1),(8,1),(9,1)],0,112⟩:=rfl
theorem uT:lk 252 Al=some ⟨A6k,[],0,8⟩:=rfl
theorem uU:lk 258 Al=some ⟨A6l,[],0,8⟩:=rfl
theorem uV:lk 263 Al=some ⟨A6m,[],0,8⟩:=rfl
theorem uW:lk 270 Al=some ⟨A6n,[],0,8⟩:=rfl
theorem uX:lk 272 Al=some ⟨A6o,[],0,8⟩:=rfl
theorem uY:lk 279 Al=some ⟨A6p,[],0,4⟩:=rfl
theorem uZ:lk 281 Al=some ⟨A6q,[],0,8⟩:=rfl
theorem u3:lk 285 Al=some ⟨A6r,[],0,8⟩:=rfl
theorem u4:lk 287 Al=some ⟨A6s,[],0,8⟩:=rfl
end
section
open Go Go.RowKit
section
variable {c:Cx} {R:Exit->Act->World->Prop} {k:List CU} {σ σ':St}
theorem oC {tb:Tb} {ti:TI} (hT:Dh P tb t ti) (c:ti.ty=.slice e) (w:World) (a:Option Addr) (n m:Nat):(Op.equal t (.slice a n m) (.slice none 0 0)).run P w=.ok a.isNone w:=by
 have b:=hT.2;rw[c]at b;exact run_equal_slice_nil w t ti.el a n m b.1
def Zw:Option TI->Bool
 | some ⟨.slice _,_,_,_⟩=>true
 | _=>false
theorem oD (g:c.Ok) {ops:Array Oper} {rest:List Oper} {d:Nat} {x:Operand} {r ty:TypeId} {pos:String} {after:Array Edge} {l:List e.den} (neg:Bool)
  (G:Ab σ x=some (.p (.slice e) l)) (i:Zw (lk t c.tb.ty)=true) (hk:∀b:Bool,(b=true->l=[])->Dq c R k ops rest (σ.add (.p .bool (if neg then !b else b)) [] (some d))) :
  Dq c R k ops (⟨some d,.binOp (if neg then .neq else .eql) t x (.const (.slice none 0 0)) r,ty,pos,after,none⟩ :: rest) σ:=by
 intro n z a w F;obtain⟨ρ,q⟩:=F;have y:D5 (vw w c.O0 σ ρ) σ a.eval:=CN q.env;have H:=y x _ G;obtain⟨cs,⟨ad,m,rfl,h1,N,f⟩,j⟩:=H;have j:a.eval x=.slice ad (List.length l) m:=j;unfold Zw at i;split at i
 .rename_i M offs el bytes A;have s:=g.T _ _ A;have heq:=oC s rfl w ad (List.length l) m;unfold wpListIn;rw[At (by simp[Region.wanted])];have D:(execOp a.eval ⟨some d,.binOp (if neg then .neq else .eql) t x (.const (.slice none 0 0)) r,ty,pos,after,none⟩).run c.P w=.ok (.value (.bool (if neg then !ad.isNone else ad.isNone))) w:=by
   have I:a.eval (.const (.slice none 0 0))=.slice none 0 0:=rfl;cases neg<;>simp[execOp,j,I,eqGuard,binOp,heq]
  refine AZ D ?_ (λcl h=>by cases neg<;>cases h);have u:ad.isNone=true->l=[]:=λhn=>by
   rcases f with f|⟨J,rfl,_⟩
   .exact f
   simp at hn
  have C:QS w c.O0 σ ρ (.p .bool (if neg then !ad.isNone else ad.isNone)) [] (.bool (if neg then !ad.isNone else ad.isNone)) ρ w:=QS.still (Bg _);have E:=q.add g.K g.O (dst:=some d) (λL v=>by cases v;exact Az (n _ iF) d rfl) rfl C;exact hk ad.isNone u (λo B=>n o (by simp[B])) z _ _ ⟨ρ,E⟩
 cases i
end
end
section
open Go Go.RowKit Go.ChangeShapes Go.WideShapes
set_option maxRecDepth 100000
def kK (r:Ty->TypeId->Bool) (P:Program):Ty->Nat->List Field->Bool
 | .prod a b,o,fs=>match fs with
  | f :: fs=>f.offset==o&&P.cellsOf f.type==a.size&&r a f.type&&kK r P b (o+a.size) fs
  | []=>false
 | s,o,[f]=>f.offset==o&&P.cellsOf f.type==s.size&&r s f.type
 | _,_,_=>false
def oE (P:Program) (m:Nat) (e:TypeId):List Field:=(List.range m).map λi=>{ (default:Field) with offset:=i*P.cellsOf e,type:=e }
def rd (P:Program):Nat->Ty->TypeId->Bool
 | 0,_,_=>false
 | _+1,.int k,t=>isI k (P.underlying t)
 | _+1,.bool,t=>match P.underlying t with|some .bool=>true|_=>false
 | _+1,.str,t=>match P.underlying t with|some .string=>true|_=>false
 | n+1,.slice e,t=>match P.underlying t with|some (.slice et)=>decide (0<P.bytesOf et)&&P.cellsOf et==e.size&&rd P n e et|_=>false
 | n+1,.agg s,t=>match P.underlying t with|some (.struct fs)=>P.cellsOf t==s.size&&kK (rd P n) P s 0 fs.toList|some (.array m e)=>P.cellsOf t==s.size&&kK (rd P n) P s 0 (oE P m e)|_=>false
 | _+1,_,_=>false
theorem kL (h:rd P (n+1) .bool t=true):P.underlying t=some .bool:=by
 simp only[rd]at h;split at h
 .assumption
 cases h
theorem u5 (h:rd P (n+1) .str t=true):P.underlying t=some .string:=by
 simp only[rd]at h;split at h
 .assumption
 cases h
theorem Zx (h:rd P (n+1) (.slice e) t=true):∃et,P.underlying t=some (.slice et)/\0<P.bytesOf et/\P.cellsOf et=e.size/\rd P n e et=true:=by
 simp only[rd]at h;split at h
 .rename_i et hu;simp only[AT,IN,AA3]at h;exact⟨et,hu,h.1.1,h.1.2,h.2⟩
 cases h
theorem u6 {s:Ty} (h:rd P (n+1) (.agg s) t=true):(∃fs,P.underlying t=some (.struct fs)/\P.cellsOf t=s.size/\kK (rd P n) P s 0 fs.toList=true)\/∃m e,P.underlying t=some (.array m e)/\P.cellsOf t=s.size/\kK (rd P n) P s 0 (oE P m e)=true:=by
 simp only[rd]at h;split at h
 .rename_i fs hu;simp only[AT,AA3]at h;exact .inl ⟨fs,hu,h.1,h.2⟩
 .rename_i m e hu;simp only[AT,AA3]at h;exact .inr ⟨m,e,hu,h.1,h.2⟩
 cases h
theorem WD {base:Nat} {a:Addr} {n:Nat} {cs:List Value} (h:w.cells? base a n=some cs):cs.length=n/\∀(j:Nat) (v:Value),cs[j]?=some v->w.cell? (a.add j)=some v:=by
 unfold World.cells? at h;split at h
 .have h1:=mapM_some_length h;simp only[ABS]at h1;refine⟨h1,λj v b=>?_⟩;have c:j<n:=by
   obtain⟨c,_⟩:=Of.1 b;omega
  rw[mapM_some_get h j j (by simp[c]),b]
 cases h
section
variable {H:Type} {enc:TypeId×Value->H} {P:Program} {w:World} {spare:Nat->Bool} {held:Bool}
theorem Zy {e:TypeId}:∀ {l:List (DataW H)} {d:DataW H},d∈l->∀n∈d.weights P e,n∈DataW.weightsAll P e l
 | a :: l,d,b,n,hn=>by
  simp only[DataW.weightsAll,IS];rcases BY.1 b with rfl|b
  .exact .inl hn
  exact .inr (Zy b n hn)
 | [],_,b,_,_=>by cases b
theorem WE {b:List TypeId} {a:List (DataW H)}:∀ {ts:List TypeId} {ds:List (DataW H)},∀n∈DataW.weightsEach P ts ds,n∈DataW.weightsEach P (ts++b) (ds++a)
 | t :: ts,d :: ds,n,hn=>by
  simp only[DataW.weightsEach,To,IS]at hn ⊢;rcases hn with hn|hn
  .exact .inl hn
  exact .inr (WE n hn)
 | [],_,n,hn=>by simp[DataW.weightsEach]at hn
 | _ :: _,[],n,hn=>by simp[DataW.weightsEach]at hn
theorem WF {e:TypeId}:∀ {m:Nat} {k:Nat} {ds:List (DataW H)},∀n∈DataW.weightsEach P (((List.range' k m).map λi=>({ (default:Field) with offset:=i*P.cellsOf e,type:=e }:Field)).map (·.type)) ds,n∈DataW.weightsAll P e ds
 | 0,_,ds,n,hn=>by simp[DataW.weightsEach]at hn
 | m+1,k,[],n,hn=>by
  rw[ACr]at hn;simp[DataW.weightsEach]at hn
 | m+1,k,d :: ds,n,hn=>by
  rw[ACr]at hn;simp only[AA2,DataW.weightsEach,IS]at hn;simp only[DataW.weightsAll,IS];rcases hn with hn|hn
  .exact .inl hn
  exact .inr (WF n hn)
theorem Qk {n:Nat} {r:Ty->TypeId->Bool}
  (A:∀ty t,r ty t=true->∀(cs:List Value) (x:DataW H×List MemPlace),DataW.trod enc P w 0 spare held n t cs=some x->(∀b∈x.1.weights P t,b<=reachBytes)->∃d:ty.den,Bn w (λ_=>False) ty cs d) (cs:List Value) :
  ∀(s:Ty) (o:Nat) (fs:List Field),kK r P s o fs=true->∀xs:List (DataW H×List MemPlace),xs.length=fs.length ->
   (∀(i:Nat) (f:Field),fs[i]?=some f->DataW.trod enc P w 0 spare held n f.type ((cs.drop f.offset).take (P.cellsOf f.type))=xs[i]?) ->
   (∀b∈DataW.weightsEach P (fs.map (·.type)) (xs.map (·.1)),b<=reachBytes)->∃d:s.den,Bn w (λ_=>False) s ((cs.drop o).take s.size) d:=by
 have one:∀(s:Ty) (o:Nat) (f:Field),(f.offset==o&&P.cellsOf f.type==s.size&&r s f.type)=true->∀x:DataW H×List MemPlace,
   DataW.trod enc P w 0 spare held n f.type ((cs.drop f.offset).take (P.cellsOf f.type))=some x ->
   (∀b∈x.1.weights P f.type,b<=reachBytes)->∃d:s.den,Bn w (λ_=>False) s ((cs.drop o).take s.size) d:=by
  intro s o f h x j c;simp only[AT,AA3]at h;obtain⟨⟨rfl,p⟩,q⟩:=h;rw[<-p];exact A s f.type q _ x j c
 have lone:∀(s:Ty) (o:Nat) (f:Field),(f.offset==o&&P.cellsOf f.type==s.size&&r s f.type)=true->∀xs:List (DataW H×List MemPlace),xs.length=[f].length ->
   (∀(i:Nat) (g:Field),[f][i]?=some g->DataW.trod enc P w 0 spare held n g.type ((cs.drop g.offset).take (P.cellsOf g.type))=xs[i]?) ->
   (∀b∈DataW.weightsEach P ([f].map (·.type)) (xs.map (·.1)),b<=reachBytes)->∃d:s.den,Bn w (λ_=>False) s ((cs.drop o).take s.size) d:=by
  intro s o f h xs m j c;obtain⟨x,rfl⟩:∃x,xs=[x]:=AAF.1 (by simpa using m);exact one s o f h x (j 0 f rfl) (λb l=>c b (by simp[DataW.weightsEach,l]))
 intro s;induction s with
 | prod a b E B =>
  intro o fs h xs m j c;cases fs with
  | nil=>simp[kK]at h
  | cons f fs =>
   simp only[kK,AT]at h;obtain⟨⟨⟨h1,p⟩,q⟩,y⟩:=h;obtain⟨x,ys,rfl⟩:∃x ys,xs=x :: ys:=List.exists_cons_of_ne_nil (by intro h;subst h;simp at m);obtain⟨u,C⟩:=one a o f (by simp only[h1,p,q,Bool.and_self]) x (j 0 f rfl) (λb l=>c b (by
     simp only[AA2,DataW.weightsEach,IS];exact .inl l))
   obtain⟨v,D⟩:=B (o+a.size) fs y ys (by simpa using m) (λi g z=>j (i+1) g z) (λb l=>c b (by
     simp only[AA2,DataW.weightsEach,IS];exact .inr l))
   refine⟨(u,v),(cs.drop o).take a.size,(cs.drop (o+a.size)).take b.size,?_,C,D⟩;show (cs.drop o).take (a.size+b.size)=_;rw[List.take_add,ABA]
 | int k=>intro o fs h;match fs,h with|[f],h=>exact lone _ o f (by simpa only[kK] using h)
 | bool=>intro o fs h;match fs,h with|[f],h=>exact lone _ o f (by simpa only[kK] using h)
 | str=>intro o fs h;match fs,h with|[f],h=>exact lone _ o f (by simpa only[kK] using h)
 | slice e _=>intro o fs h;match fs,h with|[f],h=>exact lone _ o f (by simpa only[kK] using h)
 | agg t _=>intro o fs h;match fs,h with|[f],h=>exact lone _ o f (by simpa only[kK] using h)
 | ref k=>intro o fs h;match fs,h with|[f],h=>exact lone _ o f (by simpa only[kK] using h)
theorem u7:∀(k:Nat) (ty:Ty) (t:TypeId),rd P k ty t=true->∀(n:Nat) (cs:List Value) (x:DataW H×List MemPlace),
  DataW.trod enc P w 0 spare held n t cs=some x->(∀b∈x.1.weights P t,b<=reachBytes)->∃d:ty.den,Bn w (λ_=>False) ty cs d:=by
 intro k;induction k with
 | zero=>intro ty t h;simp[rd]at h
 | succ k B =>
  intro ty t h n cs x c l;cases ty with
  | int q =>
   have hu:=SY (by simpa only[rd] using h);obtain⟨m,rfl,rfl,F⟩:=DataW.trod_int hu c;simp only[Lit.wf,AT,IN]at F;exact⟨m,rfl,F⟩
  | bool =>
   obtain⟨b,rfl,rfl⟩:=DataW.trod_bool (kL h) c;exact⟨b,rfl⟩
  | str =>
   obtain⟨b,rfl,rfl,_⟩:=DataW.trod_string (u5 h) c;refine⟨b,rfl,?_⟩;have:=l b.data.toList.length (by simp only[DataW.weights];exact iF);have p:b.data.toList.length=b.size:=AC8;simp only[reachBytes]at this;simp only[AO];omega
  | slice e =>
   obtain⟨et,hu,L,C,u⟩:=Zx h;rcases DataW.trod_slice hu c with ⟨rfl,rfl⟩|⟨a,len,cap,elems,rest,m,rfl,rfl,rfl,-,U,-,V,Q,-,-⟩
   .exact⟨[],none,0,rfl,OS _,Do _,.inl rfl⟩
   have X:len<=AO:=by
    have h1:=l ((elems.length+rest.length)*P.bytesOf et) (by simp only[DataW.weights,hu,dB];exact iF);have p:elems.length+rest.length<=(elems.length+rest.length)*P.bytesOf et:=Nat.le_mul_of_pos_right _ L;simp only[reachBytes]at h1;simp only[AO];omega
   have D:∀i,i<len->∃d:e.den,∃g:List Value,g.length=e.size/\(∀(j:Nat) (v:Value),g[j]?=some v->w.cell? (a.add (i*e.size+j))=some v)/\Bn w (λ_=>False) e g d:=by
    intro i hi;have h1:=Q i hi;obtain⟨x,c⟩:∃x,elems[i]?=some x:=⟨_,An O1⟩;rw[c]at h1;obtain⟨g,p,G⟩:=Option.bind_eq_some_iff.1 h1;obtain⟨I,J⟩:=WD p;obtain⟨d,o⟩:=B e et u m g x G (λb r=>l b (by
     simp only[DataW.weights,hu];exact GO _ (tO _ (Zy (IF.2 ⟨x,AAm c,rfl⟩) b r))))
    refine⟨d,g,by rw[I,C],λj v S=>?_,o⟩;have:=J j v S
    rwa [Cf,C]at this
   have K:∃ds:List e.den,ds.length=len/\∀(i:Nat) (d:e.den),ds[i]?=some d->∃g:List Value,g.length=e.size/\(∀(j:Nat) (v:Value),g[j]?=some v->w.cell? (a.add (i*e.size+j))=some v)/\Bn w (λ_=>False) e g d:=by
    refine⟨(List.range len).pmap (λi hi=>Classical.choose (D i hi)) (λi hi=>oN.1 hi),by simp,λi d o=>?_⟩;rw[List.getElem?_pmap]at o;simp only[Option.pmap_eq_some_iff]at o;obtain⟨j,h1,p,rfl⟩:=o;have R:j=i:=by
     obtain⟨W,u⟩:=Of.1 p;simpa using u.symm
    subst R;exact Classical.choose_spec (D j h1)
   obtain⟨ds,N,O⟩:=K;exact⟨ds,some a,cap,by rw[N],by omega,by omega,.inr ⟨a,rfl,λh=>h,O⟩⟩
  | agg s =>
   rcases u6 h with ⟨fs,hu,M,hf⟩|⟨q,e,hu,M,hf⟩
   .obtain⟨xs,m,rfl,rfl,T,z,A⟩:=DataW.trod_struct hu c;obtain⟨d,o⟩:=Qk (λty t y cs x c l=>B ty t y m cs x c l) cs s 0 fs.toList hf xs (by simpa using z) (λi f hi=>A i f (by simpa using hi)) (by
     simpa[DataW.weights,hu] using l)
    refine⟨d,?_⟩;show Bn w _ s cs d
    rwa [AAw,By O1]at o
   obtain⟨xs,m,rfl,rfl,T,z,A⟩:=DataW.trod_array hu c;obtain⟨d,o⟩:=Qk (λty t y cs x c l=>B ty t y m cs x c l) cs s 0 (oE P q e) hf xs (by simp[oE,z]) (λi f hi=>by
    unfold oE at hi;rw[AAt]at hi;by_cases E:i<q
    .rw[AB9 E]at hi;have hi:({ (default:Field) with offset:=i*P.cellsOf e,type:=e }:Field)=f:=by simpa using hi
     rw[<-hi];exact A i E
    .rw[oS (by simp;omega)]at hi;cases hi) (λb r=>l b (by
    simp only[DataW.weights,hu];unfold oE at r;rw[List.range_eq_range']at r;exact WF b r))
   refine⟨d,?_⟩;show Bn w _ s cs d
   rwa [AAw,By O1]at o
  | prod a b=>simp[rd]at h
  | ref j=>simp[rd]at h
theorem A0Z {k:Nat} {ty:Ty} {t:TypeId} {v:Value} {r:Reach} {base:Nat} (h:rd P k ty t=true) (d:Value.okWide P w r base t v):v=ty.wrap v.cells.toList:=by
 cases k with
 | zero=>simp[rd]at h
 | succ k =>
  cases ty with
  | int q =>
   obtain⟨n,rfl⟩:=okWide_int (SY (by simpa only[rd] using h)) d;rfl
  | bool =>
   obtain⟨n,rfl⟩:=okWide_bool (kL h) d;rfl
  | str =>
   obtain⟨n,rfl⟩:=okWide_string (u5 h) d;rfl
  | slice e =>
   obtain⟨et,hu,_⟩:=Zx h;obtain⟨a,l,c,rfl⟩:=okWide_slice hu d;rfl
  | agg s =>
   rcases u6 h with ⟨fs,hu,_⟩|⟨q,e,hu,_⟩
   .obtain⟨cs,rfl,_⟩:=okWide_struct hu d;simp[Ty.wrap,Value.cells]
   simp only[Value.okWide,hu]at d;obtain⟨cs,rfl,_⟩:=d;simp[Ty.wrap,Value.cells]
  | prod a b=>simp[rd]at h
  | ref j=>simp[rd]at h
def MN (P:Program):List Ty->List TypeId->Bool
 | [],[]=>true
 | ty :: a,t :: ts=>rd P 50 ty t&&P.readableRec t&&decide (t<P.types.size)&&MN P a ts
 | _,_=>false
theorem Zz {r:Reach} {base:Nat}:∀(a:List Ty) (ts:List TypeId) (c:List Value) (ds:List (DataW H)) (p:List MemPlace),MN P a ts=true->DataW.TrodAll enc P w 0 spare held ts c ds p ->
  (∀(j:Nat) (t:TypeId) (v:Value),ts[j]?=some t->c[j]?=some v->Value.okWide P w r base t v)->(∀b∈DataW.weightsEach P ts ds,b<=reachBytes)->∃xs:Iy a,Nm w (λ_=>False) a c xs
 | [],[],c,ds,p,_,h,_,_=>by
  obtain⟨rfl,_,_⟩:=trodAll_nil h;exact⟨(),rfl⟩
 | ty :: a,t :: ts,c,ds,p,g,h,i,e=>by
  simp only[MN,AT]at g;obtain⟨⟨⟨h1,_⟩,_⟩,m⟩:=g;obtain⟨v,k,d,l,D,A,rfl,rfl,rfl,⟨n,o⟩,q⟩:=trodAll_cons h;simp only[DataW.weightsEach,IS]at e;obtain⟨x,y⟩:=u7 50 ty t h1 n _ _ o (λb f=>e b (.inl f));obtain⟨xs,z⟩:=Zz a ts k l A m q (λj B C s u=>i (j+1) B C s u) (λb f=>e b (.inr f));exact⟨(x,xs),v,k,rfl,⟨_,y,A0Z h1 (i 0 t v rfl rfl)⟩,z⟩
 | [],_ :: _,_,_,_,h,_,_,_=>by simp[MN]at h
 | _ :: _,[],_,_,_,h,_,_,_=>by simp[MN]at h
theorem WG (i:laidOutB P=true) {W f:World} (g:Below W.heap.size W f):∀(e:List Ty) (ts:List TypeId) (a:List Value) (ds:List (DataW H)) (p:List MemPlace),MN P e ts=true ->
  DataW.TrodAll enc P W 0 (λ_=>true) true ts a ds p->(∀x∈p,x.block<W.heap.size)->DataW.TrodAll enc P f 0 (λb=>decide (b<W.heap.size)) true ts a ds p
 | [],[],a,ds,p,_,h,_=>by
  obtain⟨rfl,rfl,rfl⟩:=trodAll_nil h;rfl
 | ty :: e,t :: ts,a,ds,p,k,h,j=>by
  simp only[MN,AT,IN]at k;obtain⟨⟨⟨_,h1⟩,n⟩,o⟩:=k;obtain⟨v,u,d,m,s,l,rfl,rfl,rfl,q,r⟩:=trodAll_cons h;exact⟨s,l,Below.trod i h1 n q g (λx c=>j x (tO _ c)),WG i g e ts u m l o r (λx c=>j x (AAA _ c)),rfl⟩
 | [],_ :: _,_,_,_,h,_,_=>by simp[MN]at h
 | _ :: _,[],_,_,_,h,_,_=>by simp[MN]at h
end
theorem u9 {O:Nat->Prop} {u:Value} {w':World} (h:r9 w O [.p .bool true] u w'):u=.bool true/\Below w.heap.size w w':=by
 obtain⟨ρ',a⟩:=h 0;refine⟨?_,a.below⟩;obtain⟨cs,h1,b⟩:BQ _ _ .bool u true:=a.av;have h1:cs=[.bool true]:=h1;rw[b,h1];rfl
theorem vA {f:FuncId} {fn:Func} {sp:AX} {s:ChangeSpec} {tb:TypeId} (L:Ac P f sp) (N:∀ds,sp.pre ds) (M:∀ds,sp.out ds=[.p .bool true])
  (I:laidOutB P=true) (w:MN P sp.ins fn.params.toList=true) (Q:fn.resultTypes=#[tb]) (E:P.underlying tb=some .bool) (y:s.vars=[])
  (hs:∀(H:Type) (ds:List (DataW H)),ds.length=fn.params.size->(s.fn H ds).results=[.lit (.bool true)]/\(s.fn H ds).args=ds/\(s.fn H ds).vars=[])
  {H:Type} {enc:TypeId×Value->H} {W:World} {args:Array Value} {ds m:List (DataW H)} {z:List MemPlace} {Y:List TypeId}
  (U:∀(j:Nat) t v,fn.params[j]?=some t->args[j]?=some v->Value.okWide P W .any n t v)
  (o:DataW.Whole enc P fn.params.toList s.vars false W args.toList ds m z)
  (R:(DataW.weightsEach P (fn.params.toList++Y) (ds++m)).all (·<=reachBytes)=true) (G:GW W (λb=>b<W.heap.size) λ_=>False:=by intro x i;cases i) :
  Calls P f args W λe l=>∃v,e=.returned v/\s.post enc P fn false true false false W args v l:=by
 have r:=o;obtain⟨p,q,c,base,rfl,aa,ab⟩:=o;rw[y]at base;obtain⟨rfl,rfl⟩:=trodVars_none base;obtain⟨xs,V⟩:=Zz sp.ins fn.params.toList args.toList ds p w c (λj t v S T=>U j t v (by simpa using S) (by simpa using T))
  (λb a=>by simpa using No.1 R b (WE b a))
 have K:∀x∈p,x.block<W.heap.size:=λx i=>by simpa using r.lt x (tO _ i)
 have J:ds.length=fn.params.size:=by
  have:∀(ts:List TypeId) (k:List Value) (ds:List (DataW H)) (p:List MemPlace),DataW.TrodAll enc P W 0 (λ_=>true) true ts k ds p->ds.length=ts.length:=by
   intro ts;induction ts with
   | nil=>intro k ds p h;obtain⟨_,rfl,_⟩:=trodAll_nil h;rfl
   | cons t ts X=>intro k ds p h;obtain⟨v,af,d,Z,ad,ae,rfl,rfl,rfl,_,O⟩:=trodAll_cons h;simp[X _ _ _ O]
  simpa using this _ _ _ _ c
 have g:=L.2 W (λ_=>False) args.toList xs (λ_ h=>h.elim) G V (N xs);rw[M]at g;have D:args.toList.toArray=args:=by simp
 rw[D]at g;refine g.mono λe l ⟨u,F,hu⟩=>?_;obtain⟨rfl,a⟩:=u9 hu;obtain⟨A,B,C⟩:=hs H (ds++[]) (by simpa using J);refine⟨_,F,_,_,_,[],p,[],r,?_,?_,?_,a.frame _,λh=>by cases h⟩
 .rw[A,Q];exact trodAll_mk1 (shut_bool E _)
 .rw[B,AAk];exact WG I a sp.ins _ _ _ _ w c K
 rw[C,y];rfl
end
end Go.Proofs.YtglkoagnnnpimaaGreatDoor.Fw
