/- This program's types; a slice compared with nil; from a contract to the given statement. -/
import Derived.Test.YtglkoagnnnpimaaGreatDoorBZI
import Derived.Test.YtglkoagnnnpimaaGreatDoorChecked
import Derived.Laws.Cover3
import Derived.Carry
import Derived.SizedLaws
import Derived.OpenShut
set_option linter.unusedVariables false
set_option linter.unusedSimpArgs false
namespace Go.Proofs.YtglkoagnnnpimaaGreatDoor.Fw
variable {t:TypeId} {P:Program} {n:Nat} {e:Ty} {w:World}
section
abbrev T1:Ty:=.ref 1
abbrev T2:Ty:=.int .i64
abbrev T3:Ty:=.int .i64
abbrev T4:Ty:=.bool
abbrev T5:Ty:=.int .u8
abbrev T9:Ty:=.str
abbrev T21:Ty:=.int .i32
abbrev C6:Ty:=.int .i64
abbrev CL:Ty:=.slice T9
abbrev C7:Ty:=.agg (.prod T3 (T3))
abbrev T72:Ty:=.agg (.prod T9 (T9))
abbrev T78:Ty:=.ref 0
abbrev T79:Ty:=.ref 2
abbrev T91:Ty:=.agg (.prod T9 (T3))
abbrev T93:Ty:=.agg (.prod T3 (T3))
abbrev T96:Ty:=.ref 0
abbrev Br:Ty:=.slice T3
abbrev Wm:Ty:=.agg (.prod T9 (.prod T3 (.prod C6 (.prod CL (CL)))))
abbrev A8D:Ty:=.ref 1
abbrev yE:Ty:=.agg (.prod T3 (T3))
abbrev A8E:Ty:=.ref 1
abbrev A8F:Ty:=.ref 0
abbrev yF:Ty:=.agg (.prod T9 (T3))
abbrev A8G:Ty:=.ref 0
abbrev A8H:Ty:=.ref 1
abbrev kD:Ty:=.agg (.prod T9 (T9))
abbrev Qc:Ty:=.int .u64
abbrev A8I:Ty:=.ref 2
abbrev A8J:Ty:=.ref 1
abbrev A8K:Ty:=.ref 1
abbrev A8L:Ty:=.ref 1
abbrev A6y:Ty:=.ref 3
abbrev A8M:Ty:=.agg (T9)
abbrev A8N:Ty:=.agg (T9)
abbrev A8O:Ty:=.ref 1
abbrev A8P:Ty:=.ref 1
abbrev A8Q:Ty:=.int .u64
abbrev A8R:Ty:=.ref 1
abbrev A8S:Ty:=.int .i64
abbrev A8T:Ty:=.int .u32
abbrev A8U:Ty:=.int .u64
abbrev A8V:Ty:=.ref 0
abbrev A8W:Ty:=.ref 0
abbrev QC:Ty:=.slice yF
abbrev Ke:Ty:=.slice T93
abbrev T52:Ty:=.slice T91
abbrev T54:Ty:=.agg (.prod T9 (.prod T3 (T52)))
abbrev Mx:Ty:=.slice C7
abbrev Md:Ty:=.agg (.prod T3 (Mx))
abbrev T63:Ty:=.slice kD
abbrev yG:Ty:=.agg (.prod T9 (.prod CL (T63)))
abbrev T71:Ty:=.slice T72
abbrev BT:Ty:=.slice Qc
abbrev Wn:Ty:=.slice yE
abbrev kE:Ty:=.agg (.prod T9 (.prod BT (.prod Br (Wn))))
abbrev A3r:Ty:=.slice Wn
abbrev ZP:Ty:=.agg (.prod T9 (BT))
abbrev SP:Ty:=.slice BT
abbrev Qd:Ty:=.slice A6y
abbrev Et:Ty:=.slice yG
abbrev OW:Ty:=.slice kE
abbrev FK:Ty:=.agg (.prod OW (QC))
abbrev JD:Ty:=.slice Md
abbrev Fm:Ty:=.agg (JD)
abbrev JE:Ty:=.slice T54
abbrev XZ:Ty:=.agg (.prod T3 (.prod T3 (.prod CL (.prod JE (Ke)))))
abbrev T81:Ty:=.agg (.prod FK (.prod Fm (.prod T79 (XZ))))
abbrev T98:Ty:=.agg (.prod FK (Fm))
abbrev JF:Ty:=.slice ZP
abbrev A8X:Ty:=.agg (.prod FK (.prod Br (Br)))
abbrev A8Y:Ty:=.agg (.prod Fm (.prod Br (Br)))
abbrev dG:Ty:=.agg (.prod FK (.prod T3 (.prod T3 (.prod T3 (.prod T3 (.prod T3 (.prod T3 (.prod T3 (T3)))))))))
set_option maxRecDepth 100000
def Aq:List (Nat×TI):=[(1,⟨T1,[],0,8⟩),
 (2,⟨T2,[],0,8⟩),
 (3,⟨T3,[],0,8⟩),
 (4,⟨T4,[],0,1⟩),
 (5,⟨T5,[],0,1⟩),
 (9,⟨T9,[],0,16⟩),
 (21,⟨T21,[],0,4⟩),
 (22,⟨Et,[],65,24⟩),
 (23,⟨OW,[],114,24⟩),
 (24,⟨QC,[],172,24⟩),
 (26,⟨FK,[(0,1),(1,1)],0,48⟩),
 (32,⟨JD,[],57,24⟩),
 (34,⟨Fm,[(0,1)],0,24⟩),
 (35,⟨C6,[],0,8⟩),
 (37,⟨CL,[],9,24⟩),
 (38,⟨JE,[],54,24⟩),
 (39,⟨Ke,[],93,24⟩),
 (41,⟨XZ,[(0,1),(1,1),(2,1),(3,1),(4,1)],0,88⟩),
 (52,⟨T52,[],91,24⟩),
 (54,⟨T54,[(0,1),(1,1),(2,1)],0,48⟩),
 (55,⟨Mx,[],59,24⟩),
 (57,⟨Md,[(0,1),(1,1)],0,32⟩),
 (59,⟨C7,[(0,1),(1,1)],0,16⟩),
 (63,⟨T63,[],196,24⟩),
 (65,⟨yG,[(0,1),(1,1),(2,1)],0,64⟩),
 (71,⟨T71,[],72,24⟩),
 (72,⟨T72,[(0,1),(1,1)],9,32⟩),
 (78,⟨T78,[],0,8⟩),
 (79,⟨T79,[(3,3)],0,8⟩),
 (81,⟨T81,[(0,2),(2,1),(3,1),(4,5)],0,168⟩),
 (91,⟨T91,[(0,1),(1,1)],0,24⟩),
 (93,⟨T93,[(0,1),(1,1)],0,16⟩),
 (96,⟨T96,[],0,8⟩),
 (98,⟨T98,[(0,2),(2,1)],0,72⟩),
 (101,⟨Br,[],3,24⟩),
 (111,⟨BT,[],205,24⟩),
 (112,⟨Wn,[],149,24⟩),
 (114,⟨kE,[(0,1),(1,1),(2,1),(3,1)],0,88⟩),
 (120,⟨A3r,[],112,24⟩),
 (123,⟨JF,[],127,24⟩),
 (127,⟨ZP,[(0,1),(1,1)],0,40⟩),
 (133,⟨Wm,[(0,1),(1,1),(2,1),(3,1),(4,1)],0,80⟩),
 (146,⟨A8D,[],0,8⟩),
 (149,⟨yE,[(0,1),(1,1)],0,16⟩),
 (154,⟨A8E,[],0,8⟩),
 (161,⟨A8F,[],0,8⟩),
 (163,⟨A8X,[(0,2),(2,1),(3,1)],0,96⟩),
 (172,⟨yF,[(0,1),(1,1)],0,24⟩),
 (173,⟨A8G,[],0,8⟩),
 (175,⟨A8Y,[(0,1),(1,1),(2,1)],0,72⟩),
 (176,⟨A8H,[],0,8⟩),
 (186,⟨SP,[],111,24⟩),
 (196,⟨kD,[(0,1),(1,1)],0,32⟩),
 (205,⟨Qc,[],0,8⟩),
 (215,⟨A8I,[(3,4)],0,8⟩),
 (217,⟨A8J,[],0,8⟩),
 (218,⟨A8K,[],0,8⟩),
 (220,⟨A8L,[],0,8⟩),
 (236,⟨Qd,[],239,24⟩),
 (239,⟨A6y,[],0,16⟩),
 (241,⟨A8M,[(0,1)],0,16⟩),
 (244,⟨A8N,[(0,1)],0,16⟩),
 (248,⟨dG,[(0,2),(2,1),(3,1),(4,1),(5,1),(6,1),(7,1),(8,1),(9,1)],0,112⟩),
 (252,⟨A8O,[],0,8⟩),
 (258,⟨A8P,[],0,8⟩),
 (263,⟨A8Q,[],0,8⟩),
 (270,⟨A8R,[],0,8⟩),
 (272,⟨A8S,[],0,8⟩),
 (279,⟨A8T,[],0,4⟩),
 (281,⟨A8U,[],0,8⟩),
 (285,⟨A8V,[],0,8⟩),
 (287,⟨A8W,[],0,8⟩)]
theorem tyTab_ok (f) (a:List Nat) (b:List Nat:=[]) (ne:List (Nat×TypeId):=[]):C4 Tryz.prog ⟨Aq,f,b,ne,a⟩:=A2F (by kernel_rfl)
theorem drawsAny:Tryz.prog.follows .mixedOrders=true:=by kernel_rfl
theorem ty1:lk 1 Aq=some ⟨T1,[],0,8⟩:=rfl
theorem s9:lk 2 Aq=some ⟨T2,[],0,8⟩:=rfl
theorem ty3:lk 3 Aq=some ⟨T3,[],0,8⟩:=rfl
theorem ty4:lk 4 Aq=some ⟨T4,[],0,1⟩:=rfl
theorem ty5:lk 5 Aq=some ⟨T5,[],0,1⟩:=rfl
theorem ty9:lk 9 Aq=some ⟨T9,[],0,16⟩:=rfl
theorem A6A:lk 21 Aq=some ⟨T21,[],0,4⟩:=rfl
theorem A6B:lk 22 Aq=some ⟨Et,[],65,24⟩:=rfl
theorem A6C:lk 23 Aq=some ⟨OW,[],114,24⟩:=rfl
theorem A6D:lk 24 Aq=some ⟨QC,[],172,24⟩:=rfl
theorem A6E:lk 26 Aq=some ⟨FK,[(0,1),(1,1)],0,48⟩:=rfl
theorem A6F:lk 32 Aq=some ⟨JD,[],57,24⟩:=rfl
theorem A6G:lk 34 Aq=some ⟨Fm,[(0,1)],0,24⟩:=rfl
theorem A6H:lk 35 Aq=some ⟨C6,[],0,8⟩:=rfl
theorem A6I:lk 37 Aq=some ⟨CL,[],9,24⟩:=rfl
theorem A6J:lk 38 Aq=some ⟨JE,[],54,24⟩:=rfl
theorem A6K:lk 39 Aq=some ⟨Ke,[],93,24⟩:=rfl
theorem A6L:lk 41 Aq=some ⟨XZ,[(0,1),(1,1),(2,1),(3,1),(4,1)],0,88⟩:=rfl
theorem A6M:lk 52 Aq=some ⟨T52,[],91,24⟩:=rfl
theorem A6N:lk 54 Aq=some ⟨T54,[(0,1),(1,1),(2,1)],0,48⟩:=rfl
theorem A6O:lk 55 Aq=some ⟨Mx,[],59,24⟩:=rfl
theorem A6P:lk 57 Aq=some ⟨Md,[(0,1),(1,1)],0,32⟩:=rfl
theorem A6Q:lk 59 Aq=some ⟨C7,[(0,1),(1,1)],0,16⟩:=rfl
theorem A6R:lk 63 Aq=some ⟨T63,[],196,24⟩:=rfl
theorem A6S:lk 65 Aq=some ⟨yG,[(0,1),(1,1),(2,1)],0,64⟩:=rfl
theorem A6T:lk 71 Aq=some ⟨T71,[],72,24⟩:=rfl
theorem A6U:lk 72 Aq=some ⟨T72,[(0,1),(1,1)],9,32⟩:=rfl
theorem A6V:lk 78 Aq=some ⟨T78,[],0,8⟩:=rfl
theorem A6W:lk 79 Aq=some ⟨T79,[(3,3)],0,8⟩:=rfl
theorem A6X:lk 81 Aq=some ⟨T81,[(0,2),(2,1),(3,1),(4,5)],0,168⟩:=rfl
theorem A6Y:lk 91 Aq=some ⟨T91,[(0,1),(1,1)],0,24⟩:=rfl
theorem A6Z:lk 93 Aq=some ⟨T93,[(0,1),(1,1)],0,16⟩:=rfl
theorem A70:lk 96 Aq=some ⟨T96,[],0,8⟩:=rfl
theorem A71:lk 98 Aq=some ⟨T98,[(0,2),(2,1)],0,72⟩:=rfl
theorem yH:lk 101 Aq=some ⟨Br,[],3,24⟩:=rfl
theorem yI:lk 111 Aq=some ⟨BT,[],205,24⟩:=rfl
theorem yJ:lk 112 Aq=some ⟨Wn,[],149,24⟩:=rfl
theorem yK:lk 114 Aq=some ⟨kE,[(0,1),(1,1),(2,1),(3,1)],0,88⟩:=rfl
theorem yL:lk 120 Aq=some ⟨A3r,[],112,24⟩:=rfl
theorem yM:lk 123 Aq=some ⟨JF,[],127,24⟩:=rfl
theorem yN:lk 127 Aq=some ⟨ZP,[(0,1),(1,1)],0,40⟩:=rfl
theorem yO:lk 133 Aq=some ⟨Wm,[(0,1),(1,1),(2,1),(3,1),(4,1)],0,80⟩:=rfl
theorem yP:lk 146 Aq=some ⟨A8D,[],0,8⟩:=rfl
theorem yQ:lk 149 Aq=some ⟨yE,[(0,1),(1,1)],0,16⟩:=rfl
theorem yR:lk 154 Aq=some ⟨A8E,[],0,8⟩:=rfl
theorem yS:lk 161 Aq=some ⟨A8F,[],0,8⟩:=rfl
theorem yT:lk 163 Aq=some ⟨A8X,[(0,2),(2,1),(3,1)],0,96⟩:=rfl
theorem yU:lk 172 Aq=some ⟨yF,[(0,1),(1,1)],0,24⟩:=rfl
theorem yV:lk 173 Aq=some ⟨A8G,[],0,8⟩:=rfl
theorem yW:lk 175 Aq=some ⟨A8Y,[(0,1),(1,1),(2,1)],0,72⟩:=rfl
theorem yX:lk 176 Aq=some ⟨A8H,[],0,8⟩:=rfl
theorem yY:lk 186 Aq=some ⟨SP,[],111,24⟩:=rfl
theorem yZ:lk 196 Aq=some ⟨kD,[(0,1),(1,1)],0,32⟩:=rfl
theorem y3:lk 205 Aq=some ⟨Qc,[],0,8⟩:=rfl
theorem y4:lk 215 Aq=some ⟨A8I,[(3,4)],0,8⟩:=rfl
theorem y5:lk 217 Aq=some ⟨A8J,[],0,8⟩:=rfl
theorem y6:lk 218 Aq=some ⟨A8K,[],0,8⟩:=rfl
theorem y7:lk 220 Aq=some ⟨A8L,[],0,8⟩:=rfl
theorem y8:lk 236 Aq=some ⟨Qd,[],239,24⟩:=rfl
theorem y9:lk 239 Aq=some ⟨A6y,[],0,16⟩:=rfl
theorem zA:lk 241 Aq=some ⟨A8M,[(0,1)],0,16⟩:=rfl
theorem zB:lk 244 Aq=some ⟨A8N,[(0,1)],0,16⟩:=rfl
theorem zC:lk 248 Aq=some ⟨dG,[(0,2),(2,1),(3,1),(4,1),(5,1),(6,1),(7,1),(8,1),(9,1)],0,112⟩:=rfl
theorem zD:lk 252 Aq=some ⟨A8O,[],0,8⟩:=rfl
theorem zE:lk 258 Aq=some ⟨A8P,[],0,8⟩:=rfl
theorem zF:lk 263 Aq=some ⟨A8Q,[],0,8⟩:=rfl
theorem zG:lk 270 Aq=some ⟨A8R,[],0,8⟩:=rfl
theorem zH:lk 272 Aq=some ⟨A8S,[],0,8⟩:=rfl
theorem zI:lk 279 Aq=some ⟨A8T,[],0,4⟩:=rfl
theorem zJ:lk 281 Aq=some ⟨A8U,[],0,8⟩:=rfl
theorem zK:lk 285 Aq=some ⟨A8V,[],0,8⟩:=rfl
theorem zL:lk 287 Aq=some ⟨A8W,[],0,8⟩:=rfl
end
section
open Go Go.RowKit
section
variable {c:Cx} {R:Exit->Act->World->Prop} {k:List Ce} {σ σ':St}
theorem tA {tb:Tb} {ti:TI} (hT:Du P tb t ti) (c:ti.ty=.slice e) (w:World) (a:Option Addr) (n m:Nat):(Op.equal t (.slice a n m) (.slice none 0 0)).run P w=.ok a.isNone w:=by
 have b:=hT.2;rw[c]at b;exact run_equal_slice_nil w t ti.el a n m b.1
def dH:Option TI->Bool
 | some ⟨.slice _,_,_,_⟩=>true
 | _=>false
theorem tB (g:c.Ok) {ops:Array Oper} {rest:List Oper} {d:Nat} {x:Operand} {r ty:TypeId} {pos:String} {after:Array Edge} {l:List e.den} (neg:Bool)
  (G:Af σ x=some (.p (.slice e) l)) (i:dH (lk t c.tb.ty)=true) (hk:∀b:Bool,(b=true->l=[])->D3 c R k ops rest (σ.add (.p .bool (if neg then !b else b)) [] (some d))) :
  D3 c R k ops (⟨some d,.binOp (if neg then .neq else .eql) t x (.const (.slice none 0 0)) r,ty,pos,after,none⟩ :: rest) σ:=by
 intro n z a w F;obtain⟨ρ,q⟩:=F;have y:EM (vw w c.O0 σ ρ) σ a.eval:=CW q.env;have H:=y x _ G;obtain⟨cs,⟨ad,m,rfl,h1,N,f⟩,j⟩:=H;have j:a.eval x=.slice ad (List.length l) m:=j;unfold dH at i;split at i
 .rename_i M offs el bytes A;have s:=g.T _ _ A;have heq:=tA s rfl w ad (List.length l) m;unfold wpListIn;rw[BY (by simp[Region.wanted])];have D:(execOp a.eval ⟨some d,.binOp (if neg then .neq else .eql) t x (.const (.slice none 0 0)) r,ty,pos,after,none⟩).run c.P w=.ok (.value (.bool (if neg then !ad.isNone else ad.isNone))) w:=by
   have I:a.eval (.const (.slice none 0 0))=.slice none 0 0:=rfl;cases neg<;>simp[execOp,j,I,eqGuard,binOp,heq]
  refine Ad D ?_ (λcl h=>by cases neg<;>cases h);have u:ad.isNone=true->l=[]:=λhn=>by
   rcases f with f|⟨J,rfl,_⟩
   .exact f
   simp at hn
  have C:QS w c.O0 σ ρ (.p .bool (if neg then !ad.isNone else ad.isNone)) [] (.bool (if neg then !ad.isNone else ad.isNone)) ρ w:=QS.still (Bk _);have E:=q.add g.K g.O (dst:=some d) (λL v=>by cases v;exact A2 (n _ iT) d rfl) rfl C;exact hk ad.isNone u (λo B=>n o (by simp[B])) z _ _ ⟨ρ,E⟩
 cases i
end
end
section
open Go Go.RowKit Go.ChangeShapes Go.WideShapes
set_option maxRecDepth 100000
def oJ (r:Ty->TypeId->Bool) (P:Program):Ty->Nat->List Field->Bool
 | .prod a b,o,fs=>match fs with
  | f :: fs=>f.offset==o&&P.cellsOf f.type==a.size&&r a f.type&&oJ r P b (o+a.size) fs
  | []=>false
 | s,o,[f]=>f.offset==o&&P.cellsOf f.type==s.size&&r s f.type
 | _,_,_=>false
def tC (P:Program) (m:Nat) (e:TypeId):List Field:=(List.range m).map λi=>{ (default:Field) with offset:=i*P.cellsOf e,type:=e }
def rd (P:Program):Nat->Ty->TypeId->Bool
 | 0,_,_=>false
 | _+1,.int k,t=>isI k (P.underlying t)
 | _+1,.bool,t=>match P.underlying t with|some .bool=>true|_=>false
 | _+1,.str,t=>match P.underlying t with|some .string=>true|_=>false
 | n+1,.slice e,t=>match P.underlying t with|some (.slice et)=>decide (0<P.bytesOf et)&&P.cellsOf et==e.size&&rd P n e et|_=>false
 | n+1,.agg s,t=>match P.underlying t with|some (.struct fs)=>P.cellsOf t==s.size&&oJ (rd P n) P s 0 fs.toList|some (.array m e)=>P.cellsOf t==s.size&&oJ (rd P n) P s 0 (tC P m e)|_=>false
 | _+1,_,_=>false
theorem oK (h:rd P (n+1) .bool t=true):P.underlying t=some .bool:=by
 simp only[rd]at h;split at h
 .assumption
 cases h
theorem zN (h:rd P (n+1) .str t=true):P.underlying t=some .string:=by
 simp only[rd]at h;split at h
 .assumption
 cases h
theorem dI (h:rd P (n+1) (.slice e) t=true):∃et,P.underlying t=some (.slice et)/\0<P.bytesOf et/\P.cellsOf et=e.size/\rd P n e et=true:=by
 simp only[rd]at h;split at h
 .rename_i et hu;simp only[An,If,AAc]at h;exact⟨et,hu,h.1.1,h.1.2,h.2⟩
 cases h
theorem zO {s:Ty} (h:rd P (n+1) (.agg s) t=true):(∃fs,P.underlying t=some (.struct fs)/\P.cellsOf t=s.size/\oJ (rd P n) P s 0 fs.toList=true)\/∃m e,P.underlying t=some (.array m e)/\P.cellsOf t=s.size/\oJ (rd P n) P s 0 (tC P m e)=true:=by
 simp only[rd]at h;split at h
 .rename_i fs hu;simp only[An,AAc]at h;exact .inl ⟨fs,hu,h.1,h.2⟩
 .rename_i m e hu;simp only[An,AAc]at h;exact .inr ⟨m,e,hu,h.1,h.2⟩
 cases h
theorem Xa {base:Nat} {a:Addr} {n:Nat} {cs:List Value} (h:w.cells? base a n=some cs):cs.length=n/\∀(j:Nat) (v:Value),cs[j]?=some v->w.cell? (a.add j)=some v:=by
 unfold World.cells? at h;split at h
 .have h1:=mapM_some_length h;simp only[AC6]at h1;refine⟨h1,λj v b=>?_⟩;have c:j<n:=by
   obtain⟨c,_⟩:=On.1 b;omega
  rw[mapM_some_get h j j (by simp[c]),b]
 cases h
section
variable {H:Type} {enc:TypeId×Value->H} {P:Program} {w:World} {spare:Nat->Bool} {held:Bool}
theorem dJ {e:TypeId}:∀ {l:List (DataW H)} {d:DataW H},d∈l->∀n∈d.weights P e,n∈DataW.weightsAll P e l
 | a :: l,d,b,n,hn=>by
  simp only[DataW.weightsAll,Is];rcases DO.1 b with rfl|b
  .exact .inl hn
  exact .inr (dJ b n hn)
 | [],_,b,_,_=>by cases b
theorem Xb {b:List TypeId} {a:List (DataW H)}:∀ {ts:List TypeId} {ds:List (DataW H)},∀n∈DataW.weightsEach P ts ds,n∈DataW.weightsEach P (ts++b) (ds++a)
 | t :: ts,d :: ds,n,hn=>by
  simp only[DataW.weightsEach,WY,Is]at hn ⊢;rcases hn with hn|hn
  .exact .inl hn
  exact .inr (Xb n hn)
 | [],_,n,hn=>by simp[DataW.weightsEach]at hn
 | _ :: _,[],n,hn=>by simp[DataW.weightsEach]at hn
theorem Xc {e:TypeId}:∀ {m:Nat} {k:Nat} {ds:List (DataW H)},∀n∈DataW.weightsEach P (((List.range' k m).map λi=>({ (default:Field) with offset:=i*P.cellsOf e,type:=e }:Field)).map (·.type)) ds,n∈DataW.weightsAll P e ds
 | 0,_,ds,n,hn=>by simp[DataW.weightsEach]at hn
 | m+1,k,[],n,hn=>by
  rw[ACH]at hn;simp[DataW.weightsEach]at hn
 | m+1,k,d :: ds,n,hn=>by
  rw[ACH]at hn;simp only[iS,DataW.weightsEach,Is]at hn;simp only[DataW.weightsAll,Is];rcases hn with hn|hn
  .exact .inl hn
  exact .inr (Xc n hn)
theorem Rs {n:Nat} {r:Ty->TypeId->Bool}
  (A:∀ty t,r ty t=true->∀(cs:List Value) (x:DataW H×List MemPlace),DataW.trod enc P w 0 spare held n t cs=some x->(∀b∈x.1.weights P t,b<=reachBytes)->∃d:ty.den,Bu w (λ_=>False) ty cs d) (cs:List Value) :
  ∀(s:Ty) (o:Nat) (fs:List Field),oJ r P s o fs=true->∀xs:List (DataW H×List MemPlace),xs.length=fs.length ->
   (∀(i:Nat) (f:Field),fs[i]?=some f->DataW.trod enc P w 0 spare held n f.type ((cs.drop f.offset).take (P.cellsOf f.type))=xs[i]?) ->
   (∀b∈DataW.weightsEach P (fs.map (·.type)) (xs.map (·.1)),b<=reachBytes)->∃d:s.den,Bu w (λ_=>False) s ((cs.drop o).take s.size) d:=by
 have one:∀(s:Ty) (o:Nat) (f:Field),(f.offset==o&&P.cellsOf f.type==s.size&&r s f.type)=true->∀x:DataW H×List MemPlace,
   DataW.trod enc P w 0 spare held n f.type ((cs.drop f.offset).take (P.cellsOf f.type))=some x ->
   (∀b∈x.1.weights P f.type,b<=reachBytes)->∃d:s.den,Bu w (λ_=>False) s ((cs.drop o).take s.size) d:=by
  intro s o f h x j c;simp only[An,AAc]at h;obtain⟨⟨rfl,p⟩,q⟩:=h;rw[<-p];exact A s f.type q _ x j c
 have lone:∀(s:Ty) (o:Nat) (f:Field),(f.offset==o&&P.cellsOf f.type==s.size&&r s f.type)=true->∀xs:List (DataW H×List MemPlace),xs.length=[f].length ->
   (∀(i:Nat) (g:Field),[f][i]?=some g->DataW.trod enc P w 0 spare held n g.type ((cs.drop g.offset).take (P.cellsOf g.type))=xs[i]?) ->
   (∀b∈DataW.weightsEach P ([f].map (·.type)) (xs.map (·.1)),b<=reachBytes)->∃d:s.den,Bu w (λ_=>False) s ((cs.drop o).take s.size) d:=by
  intro s o f h xs m j c;obtain⟨x,rfl⟩:∃x,xs=[x]:=AAN.1 (by simpa using m);exact one s o f h x (j 0 f rfl) (λb l=>c b (by simp[DataW.weightsEach,l]))
 intro s;induction s with
 | prod a b E B =>
  intro o fs h xs m j c;cases fs with
  | nil=>simp[oJ]at h
  | cons f fs =>
   simp only[oJ,An]at h;obtain⟨⟨⟨h1,p⟩,q⟩,y⟩:=h;obtain⟨x,ys,rfl⟩:∃x ys,xs=x :: ys:=List.exists_cons_of_ne_nil (by intro h;subst h;simp at m);obtain⟨u,C⟩:=one a o f (by simp only[h1,p,q,Bool.and_self]) x (j 0 f rfl) (λb l=>c b (by
     simp only[iS,DataW.weightsEach,Is];exact .inl l))
   obtain⟨v,D⟩:=B (o+a.size) fs y ys (by simpa using m) (λi g z=>j (i+1) g z) (λb l=>c b (by
     simp only[iS,DataW.weightsEach,Is];exact .inr l))
   refine⟨(u,v),(cs.drop o).take a.size,(cs.drop (o+a.size)).take b.size,?_,C,D⟩;show (cs.drop o).take (a.size+b.size)=_;rw[List.take_add,ABO]
 | int k=>intro o fs h;match fs,h with|[f],h=>exact lone _ o f (by simpa only[oJ] using h)
 | bool=>intro o fs h;match fs,h with|[f],h=>exact lone _ o f (by simpa only[oJ] using h)
 | str=>intro o fs h;match fs,h with|[f],h=>exact lone _ o f (by simpa only[oJ] using h)
 | slice e _=>intro o fs h;match fs,h with|[f],h=>exact lone _ o f (by simpa only[oJ] using h)
 | agg t _=>intro o fs h;match fs,h with|[f],h=>exact lone _ o f (by simpa only[oJ] using h)
 | ref k=>intro o fs h;match fs,h with|[f],h=>exact lone _ o f (by simpa only[oJ] using h)
theorem zP:∀(k:Nat) (ty:Ty) (t:TypeId),rd P k ty t=true->∀(n:Nat) (cs:List Value) (x:DataW H×List MemPlace),
  DataW.trod enc P w 0 spare held n t cs=some x->(∀b∈x.1.weights P t,b<=reachBytes)->∃d:ty.den,Bu w (λ_=>False) ty cs d:=by
 intro k;induction k with
 | zero=>intro ty t h;simp[rd]at h
 | succ k B =>
  intro ty t h n cs x c l;cases ty with
  | int q =>
   have hu:=Te (by simpa only[rd] using h);obtain⟨m,rfl,rfl,F⟩:=DataW.trod_int hu c;simp only[Lit.wf,An,If]at F;exact⟨m,rfl,F⟩
  | bool =>
   obtain⟨b,rfl,rfl⟩:=DataW.trod_bool (oK h) c;exact⟨b,rfl⟩
  | str =>
   obtain⟨b,rfl,rfl,_⟩:=DataW.trod_string (zN h) c;refine⟨b,rfl,?_⟩;have:=l b.data.toList.length (by simp only[DataW.weights];exact iT);have p:b.data.toList.length=b.size:=ACn;simp only[reachBytes]at this;simp only[AO];omega
  | slice e =>
   obtain⟨et,hu,L,C,u⟩:=dI h;rcases DataW.trod_slice hu c with ⟨rfl,rfl⟩|⟨a,len,cap,elems,rest,m,rfl,rfl,rfl,-,U,-,V,Q,-,-⟩
   .exact⟨[],none,0,rfl,Of _,By _,.inl rfl⟩
   have X:len<=AO:=by
    have h1:=l ((elems.length+rest.length)*P.bytesOf et) (by simp only[DataW.weights,hu,aS];exact iT);have p:elems.length+rest.length<=(elems.length+rest.length)*P.bytesOf et:=Nat.le_mul_of_pos_right _ L;simp only[reachBytes]at h1;simp only[AO];omega
   have D:∀i,i<len->∃d:e.den,∃g:List Value,g.length=e.size/\(∀(j:Nat) (v:Value),g[j]?=some v->w.cell? (a.add (i*e.size+j))=some v)/\Bu w (λ_=>False) e g d:=by
    intro i hi;have h1:=Q i hi;obtain⟨x,c⟩:∃x,elems[i]?=some x:=⟨_,AT O1⟩;rw[c]at h1;obtain⟨g,p,G⟩:=Option.bind_eq_some_iff.1 h1;obtain⟨I,J⟩:=Xa p;obtain⟨d,o⟩:=B e et u m g x G (λb r=>l b (by
     simp only[DataW.weights,hu];exact IF _ (AA2 _ (dJ (IN.2 ⟨x,AAy c,rfl⟩) b r))))
    refine⟨d,g,by rw[I,C],λj v S=>?_,o⟩;have:=J j v S
    rwa [Cp,C]at this
   have K:∃ds:List e.den,ds.length=len/\∀(i:Nat) (d:e.den),ds[i]?=some d->∃g:List Value,g.length=e.size/\(∀(j:Nat) (v:Value),g[j]?=some v->w.cell? (a.add (i*e.size+j))=some v)/\Bu w (λ_=>False) e g d:=by
    refine⟨(List.range len).pmap (λi hi=>Classical.choose (D i hi)) (λi hi=>tO.1 hi),by simp,λi d o=>?_⟩;rw[List.getElem?_pmap]at o;simp only[Option.pmap_eq_some_iff]at o;obtain⟨j,h1,p,rfl⟩:=o;have R:j=i:=by
     obtain⟨W,u⟩:=On.1 p;simpa using u.symm
    subst R;exact Classical.choose_spec (D j h1)
   obtain⟨ds,N,O⟩:=K;exact⟨ds,some a,cap,by rw[N],by omega,by omega,.inr ⟨a,rfl,λh=>h,O⟩⟩
  | agg s =>
   rcases zO h with ⟨fs,hu,M,hf⟩|⟨q,e,hu,M,hf⟩
   .obtain⟨xs,m,rfl,rfl,T,z,A⟩:=DataW.trod_struct hu c;obtain⟨d,o⟩:=Rs (λty t y cs x c l=>B ty t y m cs x c l) cs s 0 fs.toList hf xs (by simpa using z) (λi f hi=>A i f (by simpa using hi)) (by
     simpa[DataW.weights,hu] using l)
    refine⟨d,?_⟩;show Bu w _ s cs d
    rwa [AAD,At O1]at o
   obtain⟨xs,m,rfl,rfl,T,z,A⟩:=DataW.trod_array hu c;obtain⟨d,o⟩:=Rs (λty t y cs x c l=>B ty t y m cs x c l) cs s 0 (tC P q e) hf xs (by simp[tC,z]) (λi f hi=>by
    unfold tC at hi;rw[AAw]at hi;by_cases E:i<q
    .rw[ABp E]at hi;have hi:({ (default:Field) with offset:=i*P.cellsOf e,type:=e }:Field)=f:=by simpa using hi
     rw[<-hi];exact A i E
    .rw[oS (by simp;omega)]at hi;cases hi) (λb r=>l b (by
    simp only[DataW.weights,hu];unfold tC at r;rw[List.range_eq_range']at r;exact Xc b r))
   refine⟨d,?_⟩;show Bu w _ s cs d
   rwa [AAD,At O1]at o
  | prod a b=>simp[rd]at h
  | ref j=>simp[rd]at h
theorem A3s {k:Nat} {ty:Ty} {t:TypeId} {v:Value} {r:Reach} {base:Nat} (h:rd P k ty t=true) (d:Value.okWide P w r base t v):v=ty.wrap v.cells.toList:=by
 cases k with
 | zero=>simp[rd]at h
 | succ k =>
  cases ty with
  | int q =>
   obtain⟨n,rfl⟩:=okWide_int (Te (by simpa only[rd] using h)) d;rfl
  | bool =>
   obtain⟨n,rfl⟩:=okWide_bool (oK h) d;rfl
  | str =>
   obtain⟨n,rfl⟩:=okWide_string (zN h) d;rfl
  | slice e =>
   obtain⟨et,hu,_⟩:=dI h;obtain⟨a,l,c,rfl⟩:=okWide_slice hu d;rfl
  | agg s =>
   rcases zO h with ⟨fs,hu,_⟩|⟨q,e,hu,_⟩
   .obtain⟨cs,rfl,_⟩:=okWide_struct hu d;simp[Ty.wrap,Value.cells]
   simp only[Value.okWide,hu]at d;obtain⟨cs,rfl,_⟩:=d;simp[Ty.wrap,Value.cells]
  | prod a b=>simp[rd]at h
  | ref j=>simp[rd]at h
def NE (P:Program):List Ty->List TypeId->Bool
 | [],[]=>true
 | ty :: a,t :: ts=>rd P 50 ty t&&P.readableRec t&&decide (t<P.types.size)&&NE P a ts
 | _,_=>false
theorem dK {r:Reach} {base:Nat}:∀(a:List Ty) (ts:List TypeId) (c:List Value) (ds:List (DataW H)) (p:List MemPlace),NE P a ts=true->DataW.TrodAll enc P w 0 spare held ts c ds p ->
  (∀(j:Nat) (t:TypeId) (v:Value),ts[j]?=some t->c[j]?=some v->Value.okWide P w r base t v)->(∀b∈DataW.weightsEach P ts ds,b<=reachBytes)->∃xs:Je a,Ot w (λ_=>False) a c xs
 | [],[],c,ds,p,_,h,_,_=>by
  obtain⟨rfl,_,_⟩:=trodAll_nil h;exact⟨(),rfl⟩
 | ty :: a,t :: ts,c,ds,p,g,h,i,e=>by
  simp only[NE,An]at g;obtain⟨⟨⟨h1,_⟩,_⟩,m⟩:=g;obtain⟨v,k,d,l,D,A,rfl,rfl,rfl,⟨n,o⟩,q⟩:=trodAll_cons h;simp only[DataW.weightsEach,Is]at e;obtain⟨x,y⟩:=zP 50 ty t h1 n _ _ o (λb f=>e b (.inl f));obtain⟨xs,z⟩:=dK a ts k l A m q (λj B C s u=>i (j+1) B C s u) (λb f=>e b (.inr f));exact⟨(x,xs),v,k,rfl,⟨_,y,A3s h1 (i 0 t v rfl rfl)⟩,z⟩
 | [],_ :: _,_,_,_,h,_,_,_=>by simp[NE]at h
 | _ :: _,[],_,_,_,h,_,_,_=>by simp[NE]at h
theorem Xd (i:laidOutB P=true) {W f:World} (g:Below W.heap.size W f):∀(e:List Ty) (ts:List TypeId) (a:List Value) (ds:List (DataW H)) (p:List MemPlace),NE P e ts=true ->
  DataW.TrodAll enc P W 0 (λ_=>true) true ts a ds p->(∀x∈p,x.block<W.heap.size)->DataW.TrodAll enc P f 0 (λb=>decide (b<W.heap.size)) true ts a ds p
 | [],[],a,ds,p,_,h,_=>by
  obtain⟨rfl,rfl,rfl⟩:=trodAll_nil h;rfl
 | ty :: e,t :: ts,a,ds,p,k,h,j=>by
  simp only[NE,An,If]at k;obtain⟨⟨⟨_,h1⟩,n⟩,o⟩:=k;obtain⟨v,u,d,m,s,l,rfl,rfl,rfl,q,r⟩:=trodAll_cons h;exact⟨s,l,Below.trod i h1 n q g (λx c=>j x (AA2 _ c)),Xd i g e ts u m l o r (λx c=>j x (AAI _ c)),rfl⟩
 | [],_ :: _,_,_,_,h,_,_=>by simp[NE]at h
 | _ :: _,[],_,_,_,h,_,_=>by simp[NE]at h
end
theorem zQ {O:Nat->Prop} {u:Value} {w':World} (h:wR w O [.p .bool true] u w'):u=.bool true/\Below w.heap.size w w':=by
 obtain⟨ρ',a⟩:=h 0;refine⟨?_,a.below⟩;obtain⟨cs,h1,b⟩:BV _ _ .bool u true:=a.av;have h1:cs=[.bool true]:=h1;rw[b,h1];rfl
theorem zR {f:FuncId} {fn:Func} {sp:AW} {s:ChangeSpec} {tb:TypeId} (L:AY P f sp) (N:∀ds,sp.pre ds) (M:∀ds,sp.out ds=[.p .bool true])
  (I:laidOutB P=true) (w:NE P sp.ins fn.params.toList=true) (Q:fn.resultTypes=#[tb]) (E:P.underlying tb=some .bool) (y:s.vars=[])
  (hs:∀(H:Type) (ds:List (DataW H)),ds.length=fn.params.size->(s.fn H ds).results=[.lit (.bool true)]/\(s.fn H ds).args=ds/\(s.fn H ds).vars=[])
  {H:Type} {enc:TypeId×Value->H} {W:World} {args:Array Value} {ds m:List (DataW H)} {z:List MemPlace} {Y:List TypeId}
  (U:∀(j:Nat) t v,fn.params[j]?=some t->args[j]?=some v->Value.okWide P W .any n t v)
  (o:DataW.Whole enc P fn.params.toList s.vars false W args.toList ds m z)
  (R:(DataW.weightsEach P (fn.params.toList++Y) (ds++m)).all (·<=reachBytes)=true) (G:GW W (λb=>b<W.heap.size) λ_=>False:=by intro x i;cases i) :
  Calls P f args W λe l=>∃v,e=.returned v/\s.post enc P fn false true false false W args v l:=by
 have r:=o;obtain⟨p,q,c,base,rfl,aa,ab⟩:=o;rw[y]at base;obtain⟨rfl,rfl⟩:=trodVars_none base;obtain⟨xs,V⟩:=dK sp.ins fn.params.toList args.toList ds p w c (λj t v S T=>U j t v (by simpa using S) (by simpa using T))
  (λb a=>by simpa using ON.1 R b (Xb b a))
 have K:∀x∈p,x.block<W.heap.size:=λx i=>by simpa using r.lt x (AA2 _ i)
 have J:ds.length=fn.params.size:=by
  have:∀(ts:List TypeId) (k:List Value) (ds:List (DataW H)) (p:List MemPlace),DataW.TrodAll enc P W 0 (λ_=>true) true ts k ds p->ds.length=ts.length:=by
   intro ts;induction ts with
   | nil=>intro k ds p h;obtain⟨_,rfl,_⟩:=trodAll_nil h;rfl
   | cons t ts X=>intro k ds p h;obtain⟨v,af,d,Z,ad,ae,rfl,rfl,rfl,_,O⟩:=trodAll_cons h;simp[X _ _ _ O]
  simpa using this _ _ _ _ c
 have g:=L.2 W (λ_=>False) args.toList xs (λ_ h=>h.elim) G V (N xs);rw[M]at g;have D:args.toList.toArray=args:=by simp
 rw[D]at g;refine g.mono λe l ⟨u,F,hu⟩=>?_;obtain⟨rfl,a⟩:=zQ hu;obtain⟨A,B,C⟩:=hs H (ds++[]) (by simpa using J);refine⟨_,F,_,_,_,[],p,[],r,?_,?_,?_,a.frame _,λh=>by cases h⟩
 .rw[A,Q];exact trodAll_mk1 (shut_bool E _)
 .rw[B,AAn];exact Xd I a sp.ins _ _ _ _ w c K
 rw[C,y];rfl
end
end Go.Proofs.YtglkoagnnnpimaaGreatDoor.Fw
