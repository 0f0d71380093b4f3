/- This program's types; a slice compared with nil; from a contract to the given statement. -/
import Derived.Test.YtglkoagnnnpimaaGreatDoorCZI
import Derived.Test.YtglkoagnnnpimaaGreatDoorChecked
import Derived.Laws.Cover3
import Derived.Carry
import Derived.SizedLaws
import Derived.OpenShut
set_option linter.unusedVariables false
set_option linter.unusedSimpArgs false
namespace Go.Proofs.YtglkoagnnnpimaaGreatDoor.Fw
variable {t:TypeId} {P:Program} {n:Nat} {w:World}
section
abbrev T1:Ty:=.ref 1
abbrev T2:Ty:=.int .i64
abbrev T3:Ty:=.int .i64
abbrev T4:Ty:=.bool
abbrev T5:Ty:=.int .u8
abbrev T9:Ty:=.str
abbrev T21:Ty:=.int .i32
abbrev C0:Ty:=.int .i64
abbrev CL:Ty:=.slice T9
abbrev C9:Ty:=.agg (.prod T3 (T3))
abbrev T72:Ty:=.agg (.prod T9 (T9))
abbrev T78:Ty:=.ref 0
abbrev T79:Ty:=.ref 2
abbrev T91:Ty:=.agg (.prod T9 (T3))
abbrev T93:Ty:=.agg (.prod T3 (T3))
abbrev T96:Ty:=.ref 0
abbrev Bz:Ty:=.slice T3
abbrev Wq:Ty:=.agg (.prod T9 (.prod T3 (.prod C0 (.prod CL (CL)))))
abbrev A8S:Ty:=.ref 1
abbrev yT:Ty:=.agg (.prod T3 (T3))
abbrev A8T:Ty:=.ref 1
abbrev A8U:Ty:=.ref 0
abbrev yU:Ty:=.agg (.prod T9 (T3))
abbrev A8V:Ty:=.ref 0
abbrev A8W:Ty:=.ref 1
abbrev kK:Ty:=.agg (.prod T9 (T9))
abbrev Qq:Ty:=.int .u64
abbrev A8X:Ty:=.ref 2
abbrev A8Y:Ty:=.ref 1
abbrev A8Z:Ty:=.ref 1
abbrev A90:Ty:=.ref 1
abbrev A6I:Ty:=.ref 3
abbrev A91:Ty:=.agg (T9)
abbrev A92:Ty:=.agg (T9)
abbrev A93:Ty:=.ref 1
abbrev A94:Ty:=.ref 1
abbrev A95:Ty:=.int .u64
abbrev A96:Ty:=.ref 1
abbrev A97:Ty:=.int .i64
abbrev A98:Ty:=.int .u32
abbrev A99:Ty:=.int .u64
abbrev A9a:Ty:=.ref 0
abbrev A9b:Ty:=.ref 0
abbrev N3:Ty:=.slice yU
abbrev Kh:Ty:=.slice T93
abbrev T52:Ty:=.slice T91
abbrev T54:Ty:=.agg (.prod T9 (.prod T3 (T52)))
abbrev K2:Ty:=.slice C9
abbrev Sf:Ty:=.agg (.prod T3 (K2))
abbrev T63:Ty:=.slice kK
abbrev yV:Ty:=.agg (.prod T9 (.prod CL (T63)))
abbrev T71:Ty:=.slice T72
abbrev BU:Ty:=.slice Qq
abbrev Wr:Ty:=.slice yT
abbrev kL:Ty:=.agg (.prod T9 (.prod BU (.prod Bz (Wr))))
abbrev A3F:Ty:=.slice Wr
abbrev ZX:Ty:=.agg (.prod T9 (BU))
abbrev Sg:Ty:=.slice BU
abbrev Qr:Ty:=.slice A6I
abbrev Et:Ty:=.slice yV
abbrev M4:Ty:=.slice kL
abbrev FY:Ty:=.agg (.prod M4 (N3))
abbrev HJ:Ty:=.slice Sf
abbrev FL:Ty:=.agg (HJ)
abbrev JC:Ty:=.slice T54
abbrev ZY:Ty:=.agg (.prod T3 (.prod T3 (.prod CL (.prod JC (Kh)))))
abbrev T81:Ty:=.agg (.prod FY (.prod FL (.prod T79 (ZY))))
abbrev T98:Ty:=.agg (.prod FY (FL))
abbrev JD:Ty:=.slice ZX
abbrev A9c:Ty:=.agg (.prod FY (.prod Bz (Bz)))
abbrev A9d:Ty:=.agg (.prod FL (.prod Bz (Bz)))
abbrev dR:Ty:=.agg (.prod FY (.prod T3 (.prod T3 (.prod T3 (.prod T3 (.prod T3 (.prod T3 (.prod T3 (T3)))))))))
set_option maxRecDepth 100000
def Ap:List (Nat×TI):=[(1,⟨T1,[],0,8⟩),
 (2,⟨T2,[],0,8⟩),
 (3,⟨T3,[],0,8⟩),
 (4,⟨T4,[],0,1⟩),
 (5,⟨T5,[],0,1⟩),
 (9,⟨T9,[],0,16⟩),
 (21,⟨T21,[],0,4⟩),
 (22,⟨Et,[],65,24⟩),
 (23,⟨M4,[],114,24⟩),
 (24,⟨N3,[],172,24⟩),
 (26,⟨FY,[(0,1),(1,1)],0,48⟩),
 (32,⟨HJ,[],57,24⟩),
 (34,⟨FL,[(0,1)],0,24⟩),
 (35,⟨C0,[],0,8⟩),
 (37,⟨CL,[],9,24⟩),
 (38,⟨JC,[],54,24⟩),
 (39,⟨Kh,[],93,24⟩),
 (41,⟨ZY,[(0,1),(1,1),(2,1),(3,1),(4,1)],0,88⟩),
 (52,⟨T52,[],91,24⟩),
 (54,⟨T54,[(0,1),(1,1),(2,1)],0,48⟩),
 (55,⟨K2,[],59,24⟩),
 (57,⟨Sf,[(0,1),(1,1)],0,32⟩),
 (59,⟨C9,[(0,1),(1,1)],0,16⟩),
 (63,⟨T63,[],196,24⟩),
 (65,⟨yV,[(0,1),(1,1),(2,1)],0,64⟩),
 (71,⟨T71,[],72,24⟩),
 (72,⟨T72,[(0,1),(1,1)],9,32⟩),
 (78,⟨T78,[],0,8⟩),
 (79,⟨T79,[(3,3)],0,8⟩),
 (81,⟨T81,[(0,2),(2,1),(3,1),(4,5)],0,168⟩),
 (91,⟨T91,[(0,1),(1,1)],0,24⟩),
 (93,⟨T93,[(0,1),(1,1)],0,16⟩),
 (96,⟨T96,[],0,8⟩),
 (98,⟨T98,[(0,2),(2,1)],0,72⟩),
 (101,⟨Bz,[],3,24⟩),
 (111,⟨BU,[],205,24⟩),
 (112,⟨Wr,[],149,24⟩),
 (114,⟨kL,[(0,1),(1,1),(2,1),(3,1)],0,88⟩),
 (120,⟨A3F,[],112,24⟩),
 (123,⟨JD,[],127,24⟩),
 (127,⟨ZX,[(0,1),(1,1)],0,40⟩),
 (133,⟨Wq,[(0,1),(1,1),(2,1),(3,1),(4,1)],0,80⟩),
 (146,⟨A8S,[],0,8⟩),
 (149,⟨yT,[(0,1),(1,1)],0,16⟩),
 (154,⟨A8T,[],0,8⟩),
 (161,⟨A8U,[],0,8⟩),
 (163,⟨A9c,[(0,2),(2,1),(3,1)],0,96⟩),
 (172,⟨yU,[(0,1),(1,1)],0,24⟩),
 (173,⟨A8V,[],0,8⟩),
 (175,⟨A9d,[(0,1),(1,1),(2,1)],0,72⟩),
 (176,⟨A8W,[],0,8⟩),
 (186,⟨Sg,[],111,24⟩),
 (196,⟨kK,[(0,1),(1,1)],0,32⟩),
 (205,⟨Qq,[],0,8⟩),
 (215,⟨A8X,[(3,4)],0,8⟩),
 (217,⟨A8Y,[],0,8⟩),
 (218,⟨A8Z,[],0,8⟩),
 (220,⟨A90,[],0,8⟩),
 (236,⟨Qr,[],239,24⟩),
 (239,⟨A6I,[],0,16⟩),
 (241,⟨A91,[(0,1)],0,16⟩),
 (244,⟨A92,[(0,1)],0,16⟩),
 (248,⟨dR,[(0,2),(2,1),(3,1),(4,1),(5,1),(6,1),(7,1),(8,1),(9,1)],0,112⟩),
 (252,⟨A93,[],0,8⟩),
 (258,⟨A94,[],0,8⟩),
 (263,⟨A95,[],0,8⟩),
 (270,⟨A96,[],0,8⟩),
 (272,⟨A97,[],0,8⟩),
 (279,⟨A98,[],0,4⟩),
 (281,⟨A99,[],0,8⟩),
 (285,⟨A9a,[],0,8⟩),
 (287,⟨A9b,[],0,8⟩)]
theorem tyTab_ok (f) (a:List Nat) (b:List Nat:=[]) (ne:List (Nat×TypeId):=[]):C5 Tryz.prog ⟨Ap,f,b,ne,a⟩:=A2T (by kernel_rfl)
theorem drawsAny:Tryz.prog.follows .mixedOrders=true:=by kernel_rfl
theorem ty1:lk 1 Ap=some ⟨T1,[],0,8⟩:=rfl
theorem ty2:lk 2 Ap=some ⟨T2,[],0,8⟩:=rfl
theorem ty3:lk 3 Ap=some ⟨T3,[],0,8⟩:=rfl
theorem ty4:lk 4 Ap=some ⟨T4,[],0,1⟩:=rfl
theorem ty5:lk 5 Ap=some ⟨T5,[],0,1⟩:=rfl
theorem ty9:lk 9 Ap=some ⟨T9,[],0,16⟩:=rfl
theorem A6K:lk 21 Ap=some ⟨T21,[],0,4⟩:=rfl
theorem A6L:lk 22 Ap=some ⟨Et,[],65,24⟩:=rfl
theorem A6M:lk 23 Ap=some ⟨M4,[],114,24⟩:=rfl
theorem A6N:lk 24 Ap=some ⟨N3,[],172,24⟩:=rfl
theorem A6O:lk 26 Ap=some ⟨FY,[(0,1),(1,1)],0,48⟩:=rfl
theorem A6P:lk 32 Ap=some ⟨HJ,[],57,24⟩:=rfl
theorem A6Q:lk 34 Ap=some ⟨FL,[(0,1)],0,24⟩:=rfl
theorem A6R:lk 35 Ap=some ⟨C0,[],0,8⟩:=rfl
theorem A6S:lk 37 Ap=some ⟨CL,[],9,24⟩:=rfl
theorem A6T:lk 38 Ap=some ⟨JC,[],54,24⟩:=rfl
theorem A6U:lk 39 Ap=some ⟨Kh,[],93,24⟩:=rfl
theorem A6V:lk 41 Ap=some ⟨ZY,[(0,1),(1,1),(2,1),(3,1),(4,1)],0,88⟩:=rfl
theorem A6W:lk 52 Ap=some ⟨T52,[],91,24⟩:=rfl
theorem A6X:lk 54 Ap=some ⟨T54,[(0,1),(1,1),(2,1)],0,48⟩:=rfl
theorem A6Y:lk 55 Ap=some ⟨K2,[],59,24⟩:=rfl
theorem A6Z:lk 57 Ap=some ⟨Sf,[(0,1),(1,1)],0,32⟩:=rfl
theorem A70:lk 59 Ap=some ⟨C9,[(0,1),(1,1)],0,16⟩:=rfl
theorem A71:lk 63 Ap=some ⟨T63,[],196,24⟩:=rfl
theorem A72:lk 65 Ap=some ⟨yV,[(0,1),(1,1),(2,1)],0,64⟩:=rfl
theorem A73:lk 71 Ap=some ⟨T71,[],72,24⟩:=rfl
theorem A74:lk 72 Ap=some ⟨T72,[(0,1),(1,1)],9,32⟩:=rfl
theorem A75:lk 78 Ap=some ⟨T78,[],0,8⟩:=rfl
theorem A76:lk 79 Ap=some ⟨T79,[(3,3)],0,8⟩:=rfl
theorem A77:lk 81 Ap=some ⟨T81,[(0,2),(2,1),(3,1),(4,5)],0,168⟩:=rfl
theorem A78:lk 91 Ap=some ⟨T91,[(0,1),(1,1)],0,24⟩:=rfl
theorem A79:lk 93 Ap=some ⟨T93,[(0,1),(1,1)],0,16⟩:=rfl
theorem A7a:lk 96 Ap=some ⟨T96,[],0,8⟩:=rfl
theorem A7b:lk 98 Ap=some ⟨T98,[(0,2),(2,1)],0,72⟩:=rfl
theorem yW:lk 101 Ap=some ⟨Bz,[],3,24⟩:=rfl
theorem yX:lk 111 Ap=some ⟨BU,[],205,24⟩:=rfl
theorem yY:lk 112 Ap=some ⟨Wr,[],149,24⟩:=rfl
theorem yZ:lk 114 Ap=some ⟨kL,[(0,1),(1,1),(2,1),(3,1)],0,88⟩:=rfl
theorem y3:lk 120 Ap=some ⟨A3F,[],112,24⟩:=rfl
theorem y4:lk 123 Ap=some ⟨JD,[],127,24⟩:=rfl
theorem y5:lk 127 Ap=some ⟨ZX,[(0,1),(1,1)],0,40⟩:=rfl
theorem y6:lk 133 Ap=some ⟨Wq,[(0,1),(1,1),(2,1),(3,1),(4,1)],0,80⟩:=rfl
theorem y7:lk 146 Ap=some ⟨A8S,[],0,8⟩:=rfl
theorem y8:lk 149 Ap=some ⟨yT,[(0,1),(1,1)],0,16⟩:=rfl
theorem y9:lk 154 Ap=some ⟨A8T,[],0,8⟩:=rfl
theorem zA:lk 161 Ap=some ⟨A8U,[],0,8⟩:=rfl
theorem zB:lk 163 Ap=some ⟨A9c,[(0,2),(2,1),(3,1)],0,96⟩:=rfl
theorem zC:lk 172 Ap=some ⟨yU,[(0,1),(1,1)],0,24⟩:=rfl
theorem zD:lk 173 Ap=some ⟨A8V,[],0,8⟩:=rfl
theorem zE:lk 175 Ap=some ⟨A9d,[(0,1),(1,1),(2,1)],0,72⟩:=rfl
theorem zF:lk 176 Ap=some ⟨A8W,[],0,8⟩:=rfl
theorem zG:lk 186 Ap=some ⟨Sg,[],111,24⟩:=rfl
theorem zH:lk 196 Ap=some ⟨kK,[(0,1),(1,1)],0,32⟩:=rfl
theorem zI:lk 205 Ap=some ⟨Qq,[],0,8⟩:=rfl
theorem zJ:lk 215 Ap=some ⟨A8X,[(3,4)],0,8⟩:=rfl
theorem zK:lk 217 Ap=some ⟨A8Y,[],0,8⟩:=rfl
theorem zL:lk 218 Ap=some ⟨A8Z,[],0,8⟩:=rfl
theorem zN:lk 220 Ap=some ⟨A90,[],0,8⟩:=rfl
theorem zO:lk 236 Ap=some ⟨Qr,[],239,24⟩:=rfl
theorem zP:lk 239 Ap=some ⟨A6I,[],0,16⟩:=rfl
theorem zQ:lk 241 Ap=some ⟨A91,[(0,1)],0,16⟩:=rfl
theorem zR:lk 244 Ap=some ⟨A92,[(0,1)],0,16⟩:=rfl
theorem zS:lk 248 Ap=some ⟨dR,[(0,2),(2,1),(3,1),(4,1),(5,1),(6,1),(7,1),(8,1),(9,1)],0,112⟩:=rfl
theorem zT:lk 252 Ap=some ⟨A93,[],0,8⟩:=rfl
theorem zU:lk 258 Ap=some ⟨A94,[],0,8⟩:=rfl
theorem zV:lk 263 Ap=some ⟨A95,[],0,8⟩:=rfl
theorem zW:lk 270 Ap=some ⟨A96,[],0,8⟩:=rfl
theorem zX:lk 272 Ap=some ⟨A97,[],0,8⟩:=rfl
theorem zY:lk 279 Ap=some ⟨A98,[],0,4⟩:=rfl
theorem zZ:lk 281 Ap=some ⟨A99,[],0,8⟩:=rfl
theorem z0:lk 285 Ap=some ⟨A9a,[],0,8⟩:=rfl
theorem z4:lk 287 Ap=some ⟨A9b,[],0,8⟩:=rfl
end
section
open Go Go.RowKit
section
variable {c:Cx} {R:Exit->Act->World->Prop} {k:List Ca} {σ σ':St}
theorem tK {tb:Tb} {ti:TI} {e:Ty} (hT:Ds P tb t ti) (c:ti.ty=.slice e) (w:World) (a:Option Addr) (n m:Nat):(Op.equal t (.slice a n m) (.slice none 0 0)).run P w=.ok a.isNone w:=by
 have b:=hT.2;rw[c]at b;exact run_equal_slice_nil w t ti.el a n m b.1
def dS:Option TI->Bool
 | some ⟨.slice _,_,_,_⟩=>true
 | _=>false
theorem tL (g:c.Ok) {ops:Array Oper} {rest:List Oper} {d:Nat} {x:Operand} {r ty:TypeId} {pos:String} {after:Array Edge} {e:Ty} {l:List e.den} (neg:Bool)
  (G:Ag σ x=some (.p (.slice e) l)) (i:dS (lk t c.tb.ty)=true) (hk:∀b:Bool,(b=true->l=[])->D1 c R k ops rest (σ.add (.p .bool (if neg then !b else b)) [] (some d))) :
  D1 c R k ops (⟨some d,.binOp (if neg then .neq else .eql) t x (.const (.slice none 0 0)) r,ty,pos,after,none⟩ :: rest) σ:=by
 intro n z a w F;obtain⟨ρ,q⟩:=F;have y:EM (vw w c.O0 σ ρ) σ a.eval:=CY q.env;have H:=y x _ G;obtain⟨cs,⟨ad,m,rfl,h1,N,f⟩,j⟩:=H;have j:a.eval x=.slice ad (List.length l) m:=j;unfold dS at i;split at i
 .rename_i M offs el bytes A;have s:=g.T _ _ A;have heq:=tK s rfl w ad (List.length l) m;unfold wpListIn;rw[At (by simp[Region.wanted])];have D:(execOp a.eval ⟨some d,.binOp (if neg then .neq else .eql) t x (.const (.slice none 0 0)) r,ty,pos,after,none⟩).run c.P w=.ok (.value (.bool (if neg then !ad.isNone else ad.isNone))) w:=by
   have I:a.eval (.const (.slice none 0 0))=.slice none 0 0:=rfl;cases neg<;>simp[execOp,j,I,eqGuard,binOp,heq]
  refine Ac D ?_ (λcl h=>by cases neg<;>cases h);have u:ad.isNone=true->l=[]:=λhn=>by
   rcases f with f|⟨J,rfl,_⟩
   .exact f
   simp at hn
  have C:QS w c.O0 σ ρ (.p .bool (if neg then !ad.isNone else ad.isNone)) [] (.bool (if neg then !ad.isNone else ad.isNone)) ρ w:=QS.still (Bk _);have E:=q.add g.K g.O (dst:=some d) (λL v=>by cases v;exact A2 (n _ iS) d rfl) rfl C;exact hk ad.isNone u (λo B=>n o (by simp[B])) z _ _ ⟨ρ,E⟩
 cases i
end
end
section
open Go Go.RowKit Go.ChangeShapes Go.WideShapes
set_option maxRecDepth 100000
def Ty.bts:Ty->Nat
 | .int .i64=>8
 | .prod a b=>a.bts+b.bts
 | .agg t=>t.bts
 | _=>1
def tM:(t:Ty)->t.den->Prop
 | .slice e,d=>List.length d*e.bts<=reachBytes/\∀x∈(d:List e.den),tM e x
 | .prod a b,d=>tM a d.1/\tM b d.2
 | .agg t,d=>tM t d
 | _,_=>True
def SzA:(a:List Ty)->IY a->Prop
 | [],_=>True
 | ty :: a,xs=>tM ty xs.1/\SzA a xs.2
def oT (r:Ty->TypeId->Bool) (P:Program):Ty->Nat->List Field->Bool
 | .prod a b,o,fs=>match fs with
  | f :: fs=>f.offset==o&&P.cellsOf f.type==a.size&&r a f.type&&oT r P b (o+a.size) fs
  | []=>false
 | s,o,[f]=>f.offset==o&&P.cellsOf f.type==s.size&&r s f.type
 | _,_,_=>false
def tN (P:Program) (m:Nat) (e:TypeId):List Field:=(List.range m).map λi=>{ (default:Field) with offset:=i*P.cellsOf e,type:=e }
def rd (P:Program):Nat->Ty->TypeId->Bool
 | 0,_,_=>false
 | _+1,.int k,t=>isI k (P.underlying t)
 | _+1,.bool,t=>match P.underlying t with|some .bool=>true|_=>false
 | _+1,.str,t=>match P.underlying t with|some .string=>true|_=>false
 | n+1,.slice e,t=>match P.underlying t with|some (.slice et)=>decide (0<P.bytesOf et)&&decide (e.bts<=P.bytesOf et)&&P.cellsOf et==e.size&&rd P n e et|_=>false
 | n+1,.agg s,t=>match P.underlying t with|some (.struct fs)=>P.cellsOf t==s.size&&oT (rd P n) P s 0 fs.toList|some (.array m e)=>P.cellsOf t==s.size&&oT (rd P n) P s 0 (tN P m e)|_=>false
 | _+1,_,_=>false
theorem oU (h:rd P (n+1) .bool t=true):P.underlying t=some .bool:=by
 simp only[rd]at h;split at h
 .assumption
 cases h
theorem z5 (h:rd P (n+1) .str t=true):P.underlying t=some .string:=by
 simp only[rd]at h;split at h
 .assumption
 cases h
theorem dT {e:Ty} (h:rd P (n+1) (.slice e) t=true):∃et,P.underlying t=some (.slice et)/\(0<P.bytesOf et/\e.bts<=P.bytesOf et)/\P.cellsOf et=e.size/\rd P n e et=true:=by
 simp only[rd]at h;split at h
 .rename_i et hu;simp only[An,IN,AAb]at h;exact⟨et,hu,h.1.1,h.1.2,h.2⟩
 cases h
theorem z6 {s:Ty} (h:rd P (n+1) (.agg s) t=true):(∃fs,P.underlying t=some (.struct fs)/\P.cellsOf t=s.size/\oT (rd P n) P s 0 fs.toList=true)\/∃m e,P.underlying t=some (.array m e)/\P.cellsOf t=s.size/\oT (rd P n) P s 0 (tN P m e)=true:=by
 simp only[rd]at h;split at h
 .rename_i fs hu;simp only[An,AAb]at h;exact .inl ⟨fs,hu,h.1,h.2⟩
 .rename_i m e hu;simp only[An,AAb]at h;exact .inr ⟨m,e,hu,h.1,h.2⟩
 cases h
theorem Xe {base:Nat} {a:Addr} {n:Nat} {cs:List Value} (h:w.cells? base a n=some cs):cs.length=n/\∀(j:Nat) (v:Value),cs[j]?=some v->w.cell? (a.add j)=some v:=by
 unfold World.cells? at h;split at h
 .have h1:=mapM_some_length h;simp only[ACf]at h1;refine⟨h1,λj v b=>?_⟩;have c:j<n:=by
   obtain⟨c,_⟩:=QO.1 b;omega
  rw[mapM_some_get h j j (by simp[c]),b]
 cases h
section
variable {H:Type} {enc:TypeId×Value->H} {P:Program} {w:World} {spare:Nat->Bool} {held:Bool}
theorem dU {e:TypeId}:∀ {l:List (DataW H)} {d:DataW H},d∈l->∀n∈d.weights P e,n∈DataW.weightsAll P e l
 | a :: l,d,b,n,hn=>by
  simp only[DataW.weightsAll,NO];rcases GO.1 b with rfl|b
  .exact .inl hn
  exact .inr (dU b n hn)
 | [],_,b,_,_=>by cases b
theorem Xf {b:List TypeId} {a:List (DataW H)}:∀ {ts:List TypeId} {ds:List (DataW H)},∀n∈DataW.weightsEach P ts ds,n∈DataW.weightsEach P (ts++b) (ds++a)
 | t :: ts,d :: ds,n,hn=>by
  simp only[DataW.weightsEach,bY,NO]at hn ⊢;rcases hn with hn|hn
  .exact .inl hn
  exact .inr (Xf n hn)
 | [],_,n,hn=>by simp[DataW.weightsEach]at hn
 | _ :: _,[],n,hn=>by simp[DataW.weightsEach]at hn
theorem Xg {e:TypeId}:∀ {m:Nat} {k:Nat} {ds:List (DataW H)},∀n∈DataW.weightsEach P (((List.range' k m).map λi=>({ (default:Field) with offset:=i*P.cellsOf e,type:=e }:Field)).map (·.type)) ds,n∈DataW.weightsAll P e ds
 | 0,_,ds,n,hn=>by simp[DataW.weightsEach]at hn
 | m+1,k,[],n,hn=>by
  rw[ACR]at hn;simp[DataW.weightsEach]at hn
 | m+1,k,d :: ds,n,hn=>by
  rw[ACR]at hn;simp only[nO,DataW.weightsEach,NO]at hn;simp only[DataW.weightsAll,NO];rcases hn with hn|hn
  .exact .inl hn
  exact .inr (Xg n hn)
theorem R8 {n:Nat} {r:Ty->TypeId->Bool}
  (A:∀ty t,r ty t=true->∀(cs:List Value) (x:DataW H×List MemPlace),DataW.trod enc P w 0 spare held n t cs=some x->(∀b∈x.1.weights P t,b<=reachBytes)->∃d:ty.den,Bq w (λ_=>False) ty cs d/\tM ty d) (cs:List Value) :
  ∀(s:Ty) (o:Nat) (fs:List Field),oT r P s o fs=true->∀xs:List (DataW H×List MemPlace),xs.length=fs.length ->
   (∀(i:Nat) (f:Field),fs[i]?=some f->DataW.trod enc P w 0 spare held n f.type ((cs.drop f.offset).take (P.cellsOf f.type))=xs[i]?) ->
   (∀b∈DataW.weightsEach P (fs.map (·.type)) (xs.map (·.1)),b<=reachBytes)->∃d:s.den,Bq w (λ_=>False) s ((cs.drop o).take s.size) d/\tM s d:=by
 have one:∀(s:Ty) (o:Nat) (f:Field),(f.offset==o&&P.cellsOf f.type==s.size&&r s f.type)=true->∀x:DataW H×List MemPlace,
   DataW.trod enc P w 0 spare held n f.type ((cs.drop f.offset).take (P.cellsOf f.type))=some x ->
   (∀b∈x.1.weights P f.type,b<=reachBytes)->∃d:s.den,Bq w (λ_=>False) s ((cs.drop o).take s.size) d/\tM s d:=by
  intro s o f h x j c;simp only[An,AAb]at h;obtain⟨⟨rfl,p⟩,q⟩:=h;rw[<-p];exact A s f.type q _ x j c
 have lone:∀(s:Ty) (o:Nat) (f:Field),(f.offset==o&&P.cellsOf f.type==s.size&&r s f.type)=true->∀xs:List (DataW H×List MemPlace),xs.length=[f].length ->
   (∀(i:Nat) (g:Field),[f][i]?=some g->DataW.trod enc P w 0 spare held n g.type ((cs.drop g.offset).take (P.cellsOf g.type))=xs[i]?) ->
   (∀b∈DataW.weightsEach P ([f].map (·.type)) (xs.map (·.1)),b<=reachBytes)->∃d:s.den,Bq w (λ_=>False) s ((cs.drop o).take s.size) d/\tM s d:=by
  intro s o f h xs m j c;obtain⟨x,rfl⟩:∃x,xs=[x]:=AAV.1 (by simpa using m);exact one s o f h x (j 0 f rfl) (λb l=>c b (by simp[DataW.weightsEach,l]))
 intro s;induction s with
 | prod a b G B =>
  intro o fs h xs m j c;cases fs with
  | nil=>simp[oT]at h
  | cons f fs =>
   simp only[oT,An]at h;obtain⟨⟨⟨h1,p⟩,q⟩,y⟩:=h;obtain⟨x,ys,rfl⟩:∃x ys,xs=x :: ys:=List.exists_cons_of_ne_nil (by intro h;subst h;simp at m);obtain⟨u,C,E⟩:=one a o f (by simp only[h1,p,q,Bool.and_self]) x (j 0 f rfl) (λb l=>c b (by
     simp only[nO,DataW.weightsEach,NO];exact .inl l))
   obtain⟨v,D,F⟩:=B (o+a.size) fs y ys (by simpa using m) (λi g z=>j (i+1) g z) (λb l=>c b (by
     simp only[nO,DataW.weightsEach,NO];exact .inr l))
   refine⟨(u,v),⟨(cs.drop o).take a.size,(cs.drop (o+a.size)).take b.size,?_,C,D⟩,E,F⟩;show (cs.drop o).take (a.size+b.size)=_;rw[List.take_add,ABZ]
 | int k=>intro o fs h;match fs,h with|[f],h=>exact lone _ o f (by simpa only[oT] using h)
 | bool=>intro o fs h;match fs,h with|[f],h=>exact lone _ o f (by simpa only[oT] using h)
 | str=>intro o fs h;match fs,h with|[f],h=>exact lone _ o f (by simpa only[oT] using h)
 | slice e _=>intro o fs h;match fs,h with|[f],h=>exact lone _ o f (by simpa only[oT] using h)
 | agg t _=>intro o fs h;match fs,h with|[f],h=>exact lone _ o f (by simpa only[oT] using h)
 | ref k=>intro o fs h;match fs,h with|[f],h=>exact lone _ o f (by simpa only[oT] using h)
theorem z7:∀(k:Nat) (ty:Ty) (t:TypeId),rd P k ty t=true->∀(n:Nat) (cs:List Value) (x:DataW H×List MemPlace),
  DataW.trod enc P w 0 spare held n t cs=some x->(∀b∈x.1.weights P t,b<=reachBytes)->∃d:ty.den,Bq w (λ_=>False) ty cs d/\tM ty d:=by
 intro k;induction k with
 | zero=>intro ty t h;simp[rd]at h
 | succ k C =>
  intro ty t h n cs x c o;cases ty with
  | int q =>
   have hu:=Tu (by simpa only[rd] using h);obtain⟨m,rfl,rfl,J⟩:=DataW.trod_int hu c;simp only[Lit.wf,An,IN]at J;exact⟨m,⟨rfl,J⟩,trivial⟩
  | bool =>
   obtain⟨b,rfl,rfl⟩:=DataW.trod_bool (oU h) c;exact⟨b,rfl,trivial⟩
  | str =>
   obtain⟨b,rfl,rfl,_⟩:=DataW.trod_string (z5 h) c;refine⟨b,⟨rfl,?_⟩,trivial⟩;have:=o b.data.toList.length (by simp only[DataW.weights];exact iS);have p:b.data.toList.length=b.size:=ACt;simp only[reachBytes]at this;simp only[AO];omega
  | slice e =>
   obtain⟨et,hu,⟨O,Q⟩,D,y⟩:=dT h;rcases DataW.trod_slice hu c with ⟨rfl,rfl⟩|⟨a,len,cap,elems,rest,m,rfl,rfl,rfl,-,X,-,Y,S,-,-⟩
   .exact⟨[],⟨none,0,rfl,OS _,DO _,.inl rfl⟩,by simp[tM,reachBytes]⟩
   have aa:len<=AO:=by
    have h1:=o ((elems.length+rest.length)*P.bytesOf et) (by simp only[DataW.weights,hu,aS];exact iS);have p:elems.length+rest.length<=(elems.length+rest.length)*P.bytesOf et:=Nat.le_mul_of_pos_right _ O;simp only[reachBytes]at h1;simp only[AO];omega
   have W:len*e.bts<=reachBytes:=by
    have h1:=o ((elems.length+rest.length)*P.bytesOf et) (by simp only[DataW.weights,hu,aS];exact iS);exact iF (Nat.mul_le_mul O1 Q) h1
   have G:∀i,i<len->∃d:e.den,(∃l:List Value,l.length=e.size/\(∀(j:Nat) (v:Value),l[j]?=some v->w.cell? (a.add (i*e.size+j))=some v)/\Bq w (λ_=>False) e l d)/\tM e d:=by
    intro i hi;have h1:=S i hi;obtain⟨x,c⟩:∃x,elems[i]?=some x:=⟨_,AT O1⟩;rw[c]at h1;obtain⟨l,p,K⟩:=Option.bind_eq_some_iff.1 h1;obtain⟨L,M⟩:=Xe p;obtain⟨d,g,u⟩:=C e et y m l x K (λb r=>o b (by
     simp only[DataW.weights,hu];exact IF _ (AA6 _ (dU (IS.2 ⟨x,AAF c,rfl⟩) b r))))
    refine⟨d,⟨l,by rw[L,D],λj v U=>?_,g⟩,u⟩;have:=M j v U
    rwa [Cp,D]at this
   have N:∃ds:List e.den,ds.length=len/\∀(i:Nat) (d:e.den),ds[i]?=some d->(∃l:List Value,l.length=e.size/\(∀(j:Nat) (v:Value),l[j]?=some v->w.cell? (a.add (i*e.size+j))=some v)/\Bq w (λ_=>False) e l d)/\tM e d:=by
    refine⟨(List.range len).pmap (λi hi=>Classical.choose (G i hi)) (λi hi=>wH.1 hi),by simp,λi d g=>?_⟩;rw[List.getElem?_pmap]at g;simp only[Option.pmap_eq_some_iff]at g;obtain⟨j,h1,p,rfl⟩:=g;have T:j=i:=by
     obtain⟨Z,y⟩:=QO.1 p;simpa using y.symm
    subst T;exact Classical.choose_spec (G j h1)
   obtain⟨ds,E,F⟩:=N;refine⟨ds,⟨some a,cap,by rw[E],by omega,by omega,.inr ⟨a,rfl,λh=>h,λi d g=>(F i d g).1⟩⟩,by rw[E];exact W,λx c=>?_⟩;obtain⟨i,hi⟩:=List.getElem?_of_mem c;exact(F i x hi).2
  | agg s =>
   rcases z6 h with ⟨fs,hu,R,hf⟩|⟨q,e,hu,R,hf⟩
   .obtain⟨xs,m,rfl,rfl,V,A,B⟩:=DataW.trod_struct hu c;obtain⟨d,g,u⟩:=R8 (λty t z cs x c o=>C ty t z m cs x c o) cs s 0 fs.toList hf xs (by simpa using A) (λi f hi=>B i f (by simpa using hi)) (by
     simpa[DataW.weights,hu] using o)
    refine⟨d,?_,u⟩;show Bq w _ s cs d
    rwa [AAL,BY O1]at g
   obtain⟨xs,m,rfl,rfl,V,A,B⟩:=DataW.trod_array hu c;obtain⟨d,g,u⟩:=R8 (λty t z cs x c o=>C ty t z m cs x c o) cs s 0 (tN P q e) hf xs (by simp[tN,A]) (λi f hi=>by
    unfold tN at hi;rw[AAD]at hi;by_cases I:i<q
    .rw[ABx I]at hi;have hi:({ (default:Field) with offset:=i*P.cellsOf e,type:=e }:Field)=f:=by simpa using hi
     rw[<-hi];exact B i I
    .rw[oF (by simp;omega)]at hi;cases hi) (λb r=>o b (by
    simp only[DataW.weights,hu];unfold tN at r;rw[List.range_eq_range']at r;exact Xg b r))
   refine⟨d,?_,u⟩;show Bq w _ s cs d
   rwa [AAL,BY O1]at g
  | prod a b=>simp[rd]at h
  | ref j=>simp[rd]at h
theorem A3G {k:Nat} {ty:Ty} {t:TypeId} {v:Value} {r:Reach} {base:Nat} (h:rd P k ty t=true) (d:Value.okWide P w r base t v):v=ty.wrap v.cells.toList:=by
 cases k with
 | zero=>simp[rd]at h
 | succ k =>
  cases ty with
  | int q =>
   obtain⟨n,rfl⟩:=okWide_int (Tu (by simpa only[rd] using h)) d;rfl
  | bool =>
   obtain⟨n,rfl⟩:=okWide_bool (oU h) d;rfl
  | str =>
   obtain⟨n,rfl⟩:=okWide_string (z5 h) d;rfl
  | slice e =>
   obtain⟨et,hu,_⟩:=dT h;obtain⟨a,l,c,rfl⟩:=okWide_slice hu d;rfl
  | agg s =>
   rcases z6 h with ⟨fs,hu,_⟩|⟨q,e,hu,_⟩
   .obtain⟨cs,rfl,_⟩:=okWide_struct hu d;simp[Ty.wrap,Value.cells]
   simp only[Value.okWide,hu]at d;obtain⟨cs,rfl,_⟩:=d;simp[Ty.wrap,Value.cells]
  | prod a b=>simp[rd]at h
  | ref j=>simp[rd]at h
def NK (P:Program):List Ty->List TypeId->Bool
 | [],[]=>true
 | ty :: a,t :: ts=>rd P 50 ty t&&P.readableRec t&&decide (t<P.types.size)&&NK P a ts
 | _,_=>false
theorem dV {r:Reach} {base:Nat}:∀(a:List Ty) (ts:List TypeId) (c:List Value) (ds:List (DataW H)) (p:List MemPlace),NK P a ts=true->DataW.TrodAll enc P w 0 spare held ts c ds p ->
  (∀(j:Nat) (t:TypeId) (v:Value),ts[j]?=some t->c[j]?=some v->Value.okWide P w r base t v)->(∀b∈DataW.weightsEach P ts ds,b<=reachBytes)->∃xs:IY a,O5 w (λ_=>False) a c xs/\SzA a xs
 | [],[],c,ds,p,_,h,_,_=>by
  obtain⟨rfl,_,_⟩:=trodAll_nil h;exact⟨(),rfl,trivial⟩
 | ty :: a,t :: ts,c,ds,p,g,h,i,e=>by
  simp only[NK,An]at g;obtain⟨⟨⟨h1,_⟩,_⟩,m⟩:=g;obtain⟨v,k,d,l,F,C,rfl,rfl,rfl,⟨n,o⟩,q⟩:=trodAll_cons h;simp only[DataW.weightsEach,NO]at e;obtain⟨x,y,A⟩:=z7 50 ty t h1 n _ _ o (λb f=>e b (.inl f));obtain⟨xs,z,B⟩:=dV a ts k l C m q (λj D E s u=>i (j+1) D E s u) (λb f=>e b (.inr f));exact⟨(x,xs),⟨v,k,rfl,⟨_,y,A3G h1 (i 0 t v rfl rfl)⟩,z⟩,A,B⟩
 | [],_ :: _,_,_,_,h,_,_,_=>by simp[NK]at h
 | _ :: _,[],_,_,_,h,_,_,_=>by simp[NK]at h
theorem Xh (i:laidOutB P=true) {W f:World} (g:Below W.heap.size W f):∀(e:List Ty) (ts:List TypeId) (a:List Value) (ds:List (DataW H)) (p:List MemPlace),NK P e ts=true ->
  DataW.TrodAll enc P W 0 (λ_=>true) true ts a ds p->(∀x∈p,x.block<W.heap.size)->DataW.TrodAll enc P f 0 (λb=>decide (b<W.heap.size)) true ts a ds p
 | [],[],a,ds,p,_,h,_=>by
  obtain⟨rfl,rfl,rfl⟩:=trodAll_nil h;rfl
 | ty :: e,t :: ts,a,ds,p,k,h,j=>by
  simp only[NK,An,IN]at k;obtain⟨⟨⟨_,h1⟩,n⟩,o⟩:=k;obtain⟨v,u,d,m,s,l,rfl,rfl,rfl,q,r⟩:=trodAll_cons h;exact⟨s,l,Below.trod i h1 n q g (λx c=>j x (AA6 _ c)),Xh i g e ts u m l o r (λx c=>j x (AAP _ c)),rfl⟩
 | [],_ :: _,_,_,_,h,_,_=>by simp[NK]at h
 | _ :: _,[],_,_,_,h,_,_=>by simp[NK]at h
end
theorem z8 {O:Nat->Prop} {u:Value} {w':World} (h:w7 w O [.p .bool true] u w'):u=.bool true/\Below w.heap.size w w':=by
 obtain⟨ρ',a⟩:=h 0;refine⟨?_,a.below⟩;obtain⟨cs,h1,b⟩:BS _ _ .bool u true:=a.av;have h1:cs=[.bool true]:=h1;rw[b,h1];rfl
theorem z9 {f:FuncId} {fn:Func} {sp:AW} {s:ChangeSpec} {tb:TypeId} (L:AY P f sp) (N:∀ds,SzA sp.ins ds->sp.pre ds) (M:∀ds,sp.out ds=[.p .bool true])
  (I:laidOutB P=true) (w:NK P sp.ins fn.params.toList=true) (Q:fn.resultTypes=#[tb]) (E:P.underlying tb=some .bool) (y:s.vars=[])
  (hs:∀(H:Type) (ds:List (DataW H)),ds.length=fn.params.size->(s.fn H ds).results=[.lit (.bool true)]/\(s.fn H ds).args=ds/\(s.fn H ds).vars=[])
  {H:Type} {enc:TypeId×Value->H} {W:World} {args:Array Value} {ds m:List (DataW H)} {z:List MemPlace} {Z:List TypeId}
  (U:∀(j:Nat) t v,fn.params[j]?=some t->args[j]?=some v->Value.okWide P W .any n t v)
  (o:DataW.Whole enc P fn.params.toList s.vars false W args.toList ds m z)
  (R:(DataW.weightsEach P (fn.params.toList++Z) (ds++m)).all (·<=reachBytes)=true) (G:GW W (λb=>b<W.heap.size) λ_=>False:=by intro x i;cases i) :
  Calls P f args W λe l=>∃v,e=.returned v/\s.post enc P fn false true false false W args v l:=by
 have r:=o;obtain⟨p,q,c,base,rfl,ab,ad⟩:=o;rw[y]at base;obtain⟨rfl,rfl⟩:=trodVars_none base;obtain⟨xs,V,X⟩:=dV sp.ins fn.params.toList args.toList ds p w c (λj t v S T=>U j t v (by simpa using S) (by simpa using T))
  (λb a=>by simpa using OF.1 R b (Xf b a))
 have K:∀x∈p,x.block<W.heap.size:=λx i=>by simpa using r.lt x (AA6 _ i)
 have J:ds.length=fn.params.size:=by
  have:∀(ts:List TypeId) (k:List Value) (ds:List (DataW H)) (p:List MemPlace),DataW.TrodAll enc P W 0 (λ_=>true) true ts k ds p->ds.length=ts.length:=by
   intro ts;induction ts with
   | nil=>intro k ds p h;obtain⟨_,rfl,_⟩:=trodAll_nil h;rfl
   | cons t ts Y=>intro k ds p h;obtain⟨v,ag,d,aa,ae,af,rfl,rfl,rfl,_,O⟩:=trodAll_cons h;simp[Y _ _ _ O]
  simpa using this _ _ _ _ c
 have g:=L.2 W (λ_=>False) args.toList xs (λ_ h=>h.elim) G V (N xs X);rw[M]at g;have D:args.toList.toArray=args:=by simp
 rw[D]at g;refine g.mono λe l ⟨u,F,hu⟩=>?_;obtain⟨rfl,a⟩:=z8 hu;obtain⟨A,B,C⟩:=hs H (ds++[]) (by simpa using J);refine⟨_,F,_,_,_,[],p,[],r,?_,?_,?_,a.frame _,λh=>by cases h⟩
 .rw[A,Q];exact trodAll_mk1 (shut_bool E _)
 .rw[B,AAv];exact Xh I a sp.ins _ _ _ _ w c K
 rw[C,y];rfl
end
end Go.Proofs.YtglkoagnnnpimaaGreatDoor.Fw
