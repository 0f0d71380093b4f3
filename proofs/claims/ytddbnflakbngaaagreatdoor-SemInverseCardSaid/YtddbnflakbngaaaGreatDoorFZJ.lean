/- This program's types; a slice compared with nil; from a contract to the given statement. -/
import Derived.Test.YtddbnflakbngaaaGreatDoorFZI
import Derived.Test.YtddbnflakbngaaaGreatDoorChecked
import Derived.Laws.Cover3
import Derived.Carry
import Derived.SizedLaws
import Derived.OpenShut
set_option linter.unusedVariables false
set_option linter.unusedSimpArgs false
namespace Go.Proofs.YtddbnflakbngaaaGreatDoor.Fw
variable {t:TypeId} {P:Program} {n:Nat} {w:World}
section
abbrev T1:Ty:=.ref 1
abbrev T2:Ty:=.int .i64
abbrev T3:Ty:=.int .i64
abbrev T4:Ty:=.bool
abbrev T5:Ty:=.int .u8
abbrev T9:Ty:=.str
abbrev T21:Ty:=.int .i32
abbrev CC:Ty:=.slice T9
abbrev DG:Ty:=.int .i64
abbrev DN:Ty:=.agg (.prod T3 (T3))
abbrev DH:Ty:=.slice T3
abbrev T73:Ty:=.agg (.prod T9 (T3))
abbrev T75:Ty:=.agg (.prod T3 (T3))
abbrev T87:Ty:=.ref 0
abbrev T93:Ty:=.agg (.prod T9 (T9))
abbrev T97:Ty:=.ref 0
abbrev T98:Ty:=.ref 2
abbrev Xt:Ty:=.agg (.prod T9 (.prod T3 (.prod DG (.prod CC (CC)))))
abbrev A1t:Ty:=.agg (.prod T3 (T3))
abbrev AB4:Ty:=.ref 0
abbrev AB5:Ty:=.ref 1
abbrev A1u:Ty:=.agg (.prod T9 (T3))
abbrev nF:Ty:=.agg (.prod T9 (T9))
abbrev AB6:Ty:=.ref 1
abbrev AB7:Ty:=.ref 0
abbrev AB8:Ty:=.ref 1
abbrev AB9:Ty:=.ref 2
abbrev ABa:Ty:=.ref 1
abbrev ABb:Ty:=.ref 1
abbrev ABc:Ty:=.ref 1
abbrev SF:Ty:=.int .u64
abbrev ABd:Ty:=.ref 1
abbrev A94:Ty:=.ref 3
abbrev ABe:Ty:=.agg (T9)
abbrev ABf:Ty:=.agg (T9)
abbrev ABg:Ty:=.ref 1
abbrev ABh:Ty:=.int .u64
abbrev ABi:Ty:=.int .i64
abbrev ABj:Ty:=.int .u32
abbrev ABk:Ty:=.ref 1
abbrev ABl:Ty:=.int .u64
abbrev ABm:Ty:=.ref 0
abbrev ABn:Ty:=.ref 0
abbrev Hc:Ty:=.slice T75
abbrev Rl:Ty:=.slice A1u
abbrev T44:Ty:=.slice T73
abbrev T46:Ty:=.agg (.prod T9 (.prod T3 (T44)))
abbrev T52:Ty:=.slice nF
abbrev T54:Ty:=.agg (.prod T9 (.prod CC (T52)))
abbrev Nw:Ty:=.slice DN
abbrev Uj:Ty:=.agg (.prod T3 (Nw))
abbrev Ek:Ty:=.slice SF
abbrev T84:Ty:=.slice A1t
abbrev T86:Ty:=.agg (.prod T9 (.prod Ek (.prod DH (T84))))
abbrev T92:Ty:=.slice T93
abbrev A5u:Ty:=.slice T84
abbrev bA:Ty:=.agg (.prod T9 (Ek))
abbrev UG:Ty:=.slice Ek
abbrev SG:Ty:=.slice A94
abbrev FT:Ty:=.slice T54
abbrev G4:Ty:=.slice T46
abbrev LH:Ty:=.agg (.prod T3 (.prod T3 (.prod CC (.prod G4 (Hc)))))
abbrev Px:Ty:=.slice T86
abbrev GT:Ty:=.agg (.prod Px (Rl))
abbrev KT:Ty:=.slice Uj
abbrev GZ:Ty:=.agg (KT)
abbrev T89:Ty:=.agg (.prod GT (GZ))
abbrev ABo:Ty:=.agg (.prod GT (.prod GZ (.prod T98 (LH))))
abbrev KU:Ty:=.slice bA
abbrev ABp:Ty:=.agg (.prod GT (.prod DH (DH)))
abbrev ABq:Ty:=.agg (.prod GZ (.prod DH (DH)))
abbrev gL:Ty:=.agg (.prod GT (.prod T3 (.prod T3 (.prod T3 (.prod T3 (.prod T3 (.prod T3 (.prod T3 (T3)))))))))
set_option maxRecDepth 100000
def A3:List (Nat×TI):=[(1,⟨T1,[],0,8⟩),
 (2,⟨T2,[],0,8⟩),
 (3,⟨T3,[],0,8⟩),
 (4,⟨T4,[],0,1⟩),
 (5,⟨T5,[],0,1⟩),
 (9,⟨T9,[],0,16⟩),
 (21,⟨T21,[],0,4⟩),
 (22,⟨FT,[],54,24⟩),
 (23,⟨CC,[],9,24⟩),
 (24,⟨G4,[],46,24⟩),
 (25,⟨Hc,[],75,24⟩),
 (27,⟨LH,[(0,1),(1,1),(2,1),(3,1),(4,1)],0,88⟩),
 (28,⟨Px,[],86,24⟩),
 (29,⟨Rl,[],165,24⟩),
 (31,⟨GT,[(0,1),(1,1)],0,48⟩),
 (36,⟨KT,[],66,24⟩),
 (38,⟨GZ,[(0,1)],0,24⟩),
 (39,⟨DG,[],0,8⟩),
 (44,⟨T44,[],73,24⟩),
 (46,⟨T46,[(0,1),(1,1),(2,1)],0,48⟩),
 (52,⟨T52,[],167,24⟩),
 (54,⟨T54,[(0,1),(1,1),(2,1)],0,64⟩),
 (64,⟨Nw,[],68,24⟩),
 (66,⟨Uj,[(0,1),(1,1)],0,32⟩),
 (68,⟨DN,[(0,1),(1,1)],0,16⟩),
 (71,⟨DH,[],3,24⟩),
 (73,⟨T73,[(0,1),(1,1)],0,24⟩),
 (75,⟨T75,[(0,1),(1,1)],0,16⟩),
 (83,⟨Ek,[],214,24⟩),
 (84,⟨T84,[],134,24⟩),
 (86,⟨T86,[(0,1),(1,1),(2,1),(3,1)],0,88⟩),
 (87,⟨T87,[],0,8⟩),
 (89,⟨T89,[(0,2),(2,1)],0,72⟩),
 (92,⟨T92,[],93,24⟩),
 (93,⟨T93,[(0,1),(1,1)],9,32⟩),
 (97,⟨T97,[],0,8⟩),
 (98,⟨T98,[(3,3)],0,8⟩),
 (100,⟨ABo,[(0,2),(2,1),(3,1),(4,5)],0,168⟩),
 (105,⟨A5u,[],84,24⟩),
 (108,⟨KU,[],112,24⟩),
 (112,⟨bA,[(0,1),(1,1)],0,40⟩),
 (119,⟨Xt,[(0,1),(1,1),(2,1),(3,1),(4,1)],0,80⟩),
 (134,⟨A1t,[(0,1),(1,1)],0,16⟩),
 (137,⟨AB4,[],0,8⟩),
 (139,⟨ABp,[(0,2),(2,1),(3,1)],0,96⟩),
 (146,⟨AB5,[],0,8⟩),
 (155,⟨UG,[],83,24⟩),
 (165,⟨A1u,[(0,1),(1,1)],0,24⟩),
 (167,⟨nF,[(0,1),(1,1)],0,32⟩),
 (180,⟨AB6,[],0,8⟩),
 (182,⟨AB7,[],0,8⟩),
 (184,⟨ABq,[(0,1),(1,1),(2,1)],0,72⟩),
 (185,⟨AB8,[],0,8⟩),
 (188,⟨AB9,[(3,4)],0,8⟩),
 (190,⟨ABa,[],0,8⟩),
 (191,⟨ABb,[],0,8⟩),
 (193,⟨ABc,[],0,8⟩),
 (214,⟨SF,[],0,8⟩),
 (218,⟨ABd,[],0,8⟩),
 (220,⟨SG,[],223,24⟩),
 (223,⟨A94,[],0,16⟩),
 (225,⟨ABe,[(0,1)],0,16⟩),
 (228,⟨ABf,[(0,1)],0,16⟩),
 (232,⟨gL,[(0,2),(2,1),(3,1),(4,1),(5,1),(6,1),(7,1),(8,1),(9,1)],0,112⟩),
 (236,⟨ABg,[],0,8⟩),
 (241,⟨ABh,[],0,8⟩),
 (249,⟨ABi,[],0,8⟩),
 (256,⟨ABj,[],0,4⟩),
 (259,⟨ABk,[],0,8⟩),
 (260,⟨ABl,[],0,8⟩),
 (264,⟨ABm,[],0,8⟩),
 (266,⟨ABn,[],0,8⟩)]
theorem tyTab_ok (f) (a:List Nat) (b:List Nat:=[]) (ne:List (Nat×TypeId):=[]):DI Tryz.prog ⟨A3,f,b,ne,a⟩:=A4M a5
theorem drawsAny:Tryz.prog.follows .mixedOrders=true:=by kernel_rfl
theorem ty1:lk 1 A3=some ⟨T1,[],0,8⟩:=rfl
theorem ty2:lk 2 A3=some ⟨T2,[],0,8⟩:=rfl
theorem ty3:lk 3 A3=some ⟨T3,[],0,8⟩:=rfl
theorem ty4:lk 4 A3=some ⟨T4,[],0,1⟩:=rfl
theorem ty5:lk 5 A3=some ⟨T5,[],0,1⟩:=rfl
theorem ty9:lk 9 A3=some ⟨T9,[],0,16⟩:=rfl
theorem A5v:lk 21 A3=some ⟨T21,[],0,4⟩:=rfl
theorem A5w:lk 22 A3=some ⟨FT,[],54,24⟩:=rfl
theorem A5x:lk 23 A3=some ⟨CC,[],9,24⟩:=rfl
theorem A5y:lk 24 A3=some ⟨G4,[],46,24⟩:=rfl
theorem A5z:lk 25 A3=some ⟨Hc,[],75,24⟩:=rfl
theorem A5A:lk 27 A3=some ⟨LH,[(0,1),(1,1),(2,1),(3,1),(4,1)],0,88⟩:=rfl
theorem A5B:lk 28 A3=some ⟨Px,[],86,24⟩:=rfl
theorem A5C:lk 29 A3=some ⟨Rl,[],165,24⟩:=rfl
theorem A5D:lk 31 A3=some ⟨GT,[(0,1),(1,1)],0,48⟩:=rfl
theorem A5E:lk 36 A3=some ⟨KT,[],66,24⟩:=rfl
theorem A5F:lk 38 A3=some ⟨GZ,[(0,1)],0,24⟩:=rfl
theorem A5G:lk 39 A3=some ⟨DG,[],0,8⟩:=rfl
theorem A5H:lk 44 A3=some ⟨T44,[],73,24⟩:=rfl
theorem A5I:lk 46 A3=some ⟨T46,[(0,1),(1,1),(2,1)],0,48⟩:=rfl
theorem A5J:lk 52 A3=some ⟨T52,[],167,24⟩:=rfl
theorem A5K:lk 54 A3=some ⟨T54,[(0,1),(1,1),(2,1)],0,64⟩:=rfl
theorem A5L:lk 64 A3=some ⟨Nw,[],68,24⟩:=rfl
theorem A5M:lk 66 A3=some ⟨Uj,[(0,1),(1,1)],0,32⟩:=rfl
theorem A5N:lk 68 A3=some ⟨DN,[(0,1),(1,1)],0,16⟩:=rfl
theorem A5O:lk 71 A3=some ⟨DH,[],3,24⟩:=rfl
theorem A5P:lk 73 A3=some ⟨T73,[(0,1),(1,1)],0,24⟩:=rfl
theorem A5Q:lk 75 A3=some ⟨T75,[(0,1),(1,1)],0,16⟩:=rfl
theorem A5R:lk 83 A3=some ⟨Ek,[],214,24⟩:=rfl
theorem A5S:lk 84 A3=some ⟨T84,[],134,24⟩:=rfl
theorem A5T:lk 86 A3=some ⟨T86,[(0,1),(1,1),(2,1),(3,1)],0,88⟩:=rfl
theorem A5U:lk 87 A3=some ⟨T87,[],0,8⟩:=rfl
theorem A5V:lk 89 A3=some ⟨T89,[(0,2),(2,1)],0,72⟩:=rfl
theorem A5W:lk 92 A3=some ⟨T92,[],93,24⟩:=rfl
theorem A5X:lk 93 A3=some ⟨T93,[(0,1),(1,1)],9,32⟩:=rfl
theorem A5Y:lk 97 A3=some ⟨T97,[],0,8⟩:=rfl
theorem A5Z:lk 98 A3=some ⟨T98,[(3,3)],0,8⟩:=rfl
theorem sB:lk 100 A3=some ⟨ABo,[(0,2),(2,1),(3,1),(4,5)],0,168⟩:=rfl
theorem sC:lk 105 A3=some ⟨A5u,[],84,24⟩:=rfl
theorem sD:lk 108 A3=some ⟨KU,[],112,24⟩:=rfl
theorem sE:lk 112 A3=some ⟨bA,[(0,1),(1,1)],0,40⟩:=rfl
theorem sF:lk 119 A3=some ⟨Xt,[(0,1),(1,1),(2,1),(3,1),(4,1)],0,80⟩:=rfl
theorem sG:lk 134 A3=some ⟨A1t,[(0,1),(1,1)],0,16⟩:=rfl
theorem sH:lk 137 A3=some ⟨AB4,[],0,8⟩:=rfl
theorem sI:lk 139 A3=some ⟨ABp,[(0,2),(2,1),(3,1)],0,96⟩:=rfl
theorem sJ:lk 146 A3=some ⟨AB5,[],0,8⟩:=rfl
theorem sK:lk 155 A3=some ⟨UG,[],83,24⟩:=rfl
theorem sL:lk 165 A3=some ⟨A1u,[(0,1),(1,1)],0,24⟩:=rfl
theorem sM:lk 167 A3=some ⟨nF,[(0,1),(1,1)],0,32⟩:=rfl
theorem sN:lk 180 A3=some ⟨AB6,[],0,8⟩:=rfl
theorem sO:lk 182 A3=some ⟨AB7,[],0,8⟩:=rfl
theorem sP:lk 184 A3=some ⟨ABq,[(0,1),(1,1),(2,1)],0,72⟩:=rfl
theorem sQ:lk 185 A3=some ⟨AB8,[],0,8⟩:=rfl
theorem sR:lk 188 A3=some ⟨AB9,[(3,4)],0,8⟩:=rfl
theorem sS:lk 190 A3=some ⟨ABa,[],0,8⟩:=rfl
theorem sT:lk 191 A3=some ⟨ABb,[],0,8⟩:=rfl
theorem sU:lk 193 A3=some ⟨ABc,[],0,8⟩:=rfl
theorem sV:lk 214 A3=some ⟨SF,[],0,8⟩:=rfl
theorem sW:lk 218 A3=some ⟨ABd,[],0,8⟩:=rfl
theorem sX:lk 220 A3=some ⟨SG,[],223,24⟩:=rfl
theorem sY:lk 223 A3=some ⟨A94,[],0,16⟩:=rfl
theorem sZ:lk 225 A3=some ⟨ABe,[(0,1)],0,16⟩:=rfl
theorem s4:lk 228 A3=some ⟨ABf,[(0,1)],0,16⟩:=rfl
theorem s5:lk 232 A3=some ⟨gL,[(0,2),(2,1),(3,1),(4,1),(5,1),(6,1),(7,1),(8,1),(9,1)],0,112⟩:=rfl
theorem s6:lk 236 A3=some ⟨ABg,[],0,8⟩:=rfl
theorem s7:lk 241 A3=some ⟨ABh,[],0,8⟩:=rfl
theorem s8:lk 249 A3=some ⟨ABi,[],0,8⟩:=rfl
theorem s9:lk 256 A3=some ⟨ABj,[],0,4⟩:=rfl
theorem tA:lk 259 A3=some ⟨ABk,[],0,8⟩:=rfl
theorem tB:lk 260 A3=some ⟨ABl,[],0,8⟩:=rfl
theorem tC:lk 264 A3=some ⟨ABm,[],0,8⟩:=rfl
theorem tD:lk 266 A3=some ⟨ABn,[],0,8⟩:=rfl
end
section
open Go Go.RowKit
section
variable {c:Cx} {R:Exit->Act->World->Prop} {k:List Cq} {σ σ':St}
theorem xY {tb:Tb} {ti:TI} {e:Ty} (hT:EI P tb t ti) (c:ti.ty=.slice e) (w:World) (a:Option Addr) (n m:Nat):(Op.equal t (.slice a n m) (.slice none 0 0)).run P w=.ok a.isNone w:=by
 have b:=hT.2;rw[c]at b;exact run_equal_slice_nil w t ti.el a n m b.1
def gM:Option TI->Bool
 | some ⟨.slice _,_,_,_⟩=>true
 | _=>false
theorem xZ (g:c.Ok) {ops:Array Oper} {rest:List Oper} {d:Nat} {x:Operand} {r ty:TypeId} {pos:String} {after:Array Edge} {e:Ty} {l:List e.den} (neg:Bool)
  (G:Al σ x=some (.p (.slice e) l)) (i:gM (lk t c.tb.ty)=true) (hk:∀b:Bool,(b=true->l=[])->D7 c R k ops rest (σ.add (.p .bool (if neg then !b else b)) [] (some d))) :
  D7 c R k ops (⟨some d,.binOp (if neg then .neq else .eql) t x (.const (.slice none 0 0)) r,ty,pos,after,none⟩ :: rest) σ:=by
 intro n z a w F;obtain⟨ρ,q⟩:=F;have y:Es (vw w c.O0 σ ρ) σ a.eval:=Cp q.env;have H:=y x _ G;obtain⟨cs,⟨ad,m,rfl,h1,M,f⟩,j⟩:=H;have j:a.eval x=.slice ad (List.length l) m:=j;unfold gM at i;split at i
 .rename_i L offs el bytes A;have s:=g.T _ _ A;have heq:=xY s rfl w ad (List.length l) m;unfold wpListIn;rw[At (by simp[Region.wanted])];have D:(execOp a.eval ⟨some d,.binOp (if neg then .neq else .eql) t x (.const (.slice none 0 0)) r,ty,pos,after,none⟩).run c.P w=.ok (.value (.bool (if neg then !ad.isNone else ad.isNone))) w:=by
   have hz:a.eval (.const (.slice none 0 0))=.slice none 0 0:=rfl;cases neg<;>simp[execOp,j,hz,eqGuard,binOp,heq]
  refine Aj D ?_ (λcl h=>by cases neg<;>cases h);have u:ad.isNone=true->l=[]:=λhn=>by
   rcases f with f|⟨I,rfl,_⟩
   .exact f
   simp at hn
  have C:QS w c.O0 σ ρ (.p .bool (if neg then !ad.isNone else ad.isNone)) [] (.bool (if neg then !ad.isNone else ad.isNone)) ρ w:=QS.still (Bx _);have E:=q.add g.K g.O (dst:=some d) (λJ v=>by cases v;exact BA (n _ TO) d rfl) rfl C;exact hk ad.isNone u (λo B=>n o (by simp[B])) z _ _ ⟨ρ,E⟩
 cases i
end
end
section
open Go Go.RowKit Go.ChangeShapes Go.WideShapes
set_option maxRecDepth 100000
def Ty.bts:Ty->Nat
 | .int .i64=>8
 | .prod a b=>a.bts+b.bts
 | .agg t=>t.bts
 | _=>1
def x4:(t:Ty)->t.den->Prop
 | .slice e,d=>List.length d*e.bts<=reachBytes/\∀x∈(d:List e.den),x4 e x
 | .prod a b,d=>x4 a d.1/\x4 b d.2
 | .agg t,d=>x4 t d
 | _,_=>True
def SzA:(a:List Ty)->Jl a->Prop
 | [],_=>True
 | ty :: a,xs=>x4 ty xs.1/\SzA a xs.2
def tE (r:Ty->TypeId->Bool) (P:Program):Ty->Nat->List Field->Bool
 | .prod a b,o,fs=>match fs with
  | f :: fs=>f.offset==o&&P.cellsOf f.type==a.size&&r a f.type&&tE r P b (o+a.size) fs
  | []=>false
 | s,o,[f]=>f.offset==o&&P.cellsOf f.type==s.size&&r s f.type
 | _,_,_=>false
def x5 (P:Program) (m:Nat) (e:TypeId):List Field:=(List.range m).map λi=>{ (default:Field) with offset:=i*P.cellsOf e,type:=e }
def rd (P:Program):Nat->Ty->TypeId->Bool
 | 0,_,_=>false
 | _+1,.int k,t=>isI k (P.underlying t)
 | _+1,.bool,t=>match P.underlying t with|some .bool=>true|_=>false
 | _+1,.str,t=>match P.underlying t with|some .string=>true|_=>false
 | n+1,.slice e,t=>match P.underlying t with|some (.slice et)=>decide (0<P.bytesOf et)&&decide (e.bts<=P.bytesOf et)&&P.cellsOf et==e.size&&rd P n e et|_=>false
 | n+1,.agg s,t=>match P.underlying t with|some (.struct fs)=>P.cellsOf t==s.size&&tE (rd P n) P s 0 fs.toList|some (.array m e)=>P.cellsOf t==s.size&&tE (rd P n) P s 0 (x5 P m e)|_=>false
 | _+1,_,_=>false
theorem tF (h:rd P (n+1) .bool t=true):P.underlying t=some .bool:=by
 simp only[rd]at h;split at h
 .assumption
 cases h
theorem A1x (h:rd P (n+1) .str t=true):P.underlying t=some .string:=by
 simp only[rd]at h;split at h
 .assumption
 cases h
theorem gN {e:Ty} (h:rd P (n+1) (.slice e) t=true):∃et,P.underlying t=some (.slice et)/\(0<P.bytesOf et/\e.bts<=P.bytesOf et)/\P.cellsOf et=e.size/\rd P n e et=true:=by
 simp only[rd]at h;split at h
 .rename_i et hu;simp only[An,Is,AAv]at h;exact⟨et,hu,h.1.1,h.1.2,h.2⟩
 cases h
theorem A1y {s:Ty} (h:rd P (n+1) (.agg s) t=true):(∃fs,P.underlying t=some (.struct fs)/\P.cellsOf t=s.size/\tE (rd P n) P s 0 fs.toList=true)\/∃m e,P.underlying t=some (.array m e)/\P.cellsOf t=s.size/\tE (rd P n) P s 0 (x5 P m e)=true:=by
 simp only[rd]at h;split at h
 .rename_i fs hu;simp only[An,AAv]at h;exact .inl ⟨fs,hu,h.1,h.2⟩
 .rename_i m e hu;simp only[An,AAv]at h;exact .inr ⟨m,e,hu,h.1,h.2⟩
 cases h
theorem Yf {base:Nat} {a:Addr} {n:Nat} {cs:List Value} (h:w.cells? base a n=some cs):cs.length=n/\∀(j:Nat) (v:Value),cs[j]?=some v->w.cell? (a.add j)=some v:=by
 unfold World.cells? at h;split at h
 .have h1:=mapM_some_length h;simp only[AE8]at h1;refine⟨h1,λj v b=>?_⟩;have c:j<n:=by
   obtain⟨c,_⟩:=aT.1 b;omega
  rw[mapM_some_get h j j (by simp[c]),b]
 cases h
section
variable {H:Type} {enc:TypeId×Value->H} {P:Program} {w:World} {spare:Nat->Bool} {held:Bool}
theorem gP {e:TypeId}:∀ {l:List (DataW H)} {d:DataW H},d∈l->∀n∈d.weights P e,n∈DataW.weightsAll P e l
 | a :: l,d,b,n,hn=>by
  simp only[DataW.weightsAll,IS];rcases By.1 b with rfl|b
  .exact .inl hn
  exact .inr (gP b n hn)
 | [],_,b,_,_=>by cases b
theorem Yg {b:List TypeId} {a:List (DataW H)}:∀ {ts:List TypeId} {ds:List (DataW H)},∀n∈DataW.weightsEach P ts ds,n∈DataW.weightsEach P (ts++b) (ds++a)
 | t :: ts,d :: ds,n,hn=>by
  simp only[DataW.weightsEach,To,IS]at hn ⊢;rcases hn with hn|hn
  .exact .inl hn
  exact .inr (Yg n hn)
 | [],_,n,hn=>by simp[DataW.weightsEach]at hn
 | _ :: _,[],n,hn=>by simp[DataW.weightsEach]at hn
theorem Yh {e:TypeId}:∀ {m:Nat} {k:Nat} {ds:List (DataW H)},∀n∈DataW.weightsEach P (((List.range' k m).map λi=>({ (default:Field) with offset:=i*P.cellsOf e,type:=e }:Field)).map (·.type)) ds,n∈DataW.weightsAll P e ds
 | 0,_,ds,n,hn=>by simp[DataW.weightsEach]at hn
 | m+1,k,[],n,hn=>by
  rw[AEJ]at hn;simp[DataW.weightsEach]at hn
 | m+1,k,d :: ds,n,hn=>by
  rw[AEJ]at hn;simp only[gO,DataW.weightsEach,IS]at hn;simp only[DataW.weightsAll,IS];rcases hn with hn|hn
  .exact .inl hn
  exact .inr (Yh n hn)
theorem Tc {n:Nat} {r:Ty->TypeId->Bool}
  (A:∀ty t,r ty t=true->∀(cs:List Value) (x:DataW H×List MemPlace),DataW.trod enc P w 0 spare held n t cs=some x->(∀b∈x.1.weights P t,b<=reachBytes)->∃d:ty.den,B6 w (λ_=>False) ty cs d/\x4 ty d) (cs:List Value) :
  ∀(s:Ty) (o:Nat) (fs:List Field),tE r P s o fs=true->∀xs:List (DataW H×List MemPlace),xs.length=fs.length ->
   (∀(i:Nat) (f:Field),fs[i]?=some f->DataW.trod enc P w 0 spare held n f.type ((cs.drop f.offset).take (P.cellsOf f.type))=xs[i]?) ->
   (∀b∈DataW.weightsEach P (fs.map (·.type)) (xs.map (·.1)),b<=reachBytes)->∃d:s.den,B6 w (λ_=>False) s ((cs.drop o).take s.size) d/\x4 s d:=by
 have one:∀(s:Ty) (o:Nat) (f:Field),(f.offset==o&&P.cellsOf f.type==s.size&&r s f.type)=true->∀x:DataW H×List MemPlace,
   DataW.trod enc P w 0 spare held n f.type ((cs.drop f.offset).take (P.cellsOf f.type))=some x ->
   (∀b∈x.1.weights P f.type,b<=reachBytes)->∃d:s.den,B6 w (λ_=>False) s ((cs.drop o).take s.size) d/\x4 s d:=by
  intro s o f h x j c;simp only[An,AAv]at h;obtain⟨⟨rfl,p⟩,q⟩:=h;rw[<-p];exact A s f.type q _ x j c
 have lone:∀(s:Ty) (o:Nat) (f:Field),(f.offset==o&&P.cellsOf f.type==s.size&&r s f.type)=true->∀xs:List (DataW H×List MemPlace),xs.length=[f].length ->
   (∀(i:Nat) (g:Field),[f][i]?=some g->DataW.trod enc P w 0 spare held n g.type ((cs.drop g.offset).take (P.cellsOf g.type))=xs[i]?) ->
   (∀b∈DataW.weightsEach P ([f].map (·.type)) (xs.map (·.1)),b<=reachBytes)->∃d:s.den,B6 w (λ_=>False) s ((cs.drop o).take s.size) d/\x4 s d:=by
  intro s o f h xs m j c;obtain⟨x,rfl⟩:∃x,xs=[x]:=ACz.1 (by simpa using m);exact one s o f h x (j 0 f rfl) (λb l=>c b (by simp[DataW.weightsEach,l]))
 intro s;induction s with
 | prod a b G B =>
  intro o fs h xs m j c;cases fs with
  | nil=>simp[tE]at h
  | cons f fs =>
   simp only[tE,An]at h;obtain⟨⟨⟨h1,p⟩,q⟩,y⟩:=h;obtain⟨x,ys,rfl⟩:∃x ys,xs=x :: ys:=List.exists_cons_of_ne_nil (by intro h;subst h;simp at m);obtain⟨u,C,E⟩:=one a o f (by simp only[h1,p,q,Bool.and_self]) x (j 0 f rfl) (λb l=>c b (by
     simp only[gO,DataW.weightsEach,IS];exact .inl l))
   obtain⟨v,D,F⟩:=B (o+a.size) fs y ys (by simpa using m) (λi g z=>j (i+1) g z) (λb l=>c b (by
     simp only[gO,DataW.weightsEach,IS];exact .inr l))
   refine⟨(u,v),⟨(cs.drop o).take a.size,(cs.drop (o+a.size)).take b.size,?_,C,D⟩,E,F⟩;show (cs.drop o).take (a.size+b.size)=_;rw[List.take_add,ADP]
 | int k=>intro o fs h;match fs,h with|[f],h=>exact lone _ o f (by simpa only[tE] using h)
 | bool=>intro o fs h;match fs,h with|[f],h=>exact lone _ o f (by simpa only[tE] using h)
 | str=>intro o fs h;match fs,h with|[f],h=>exact lone _ o f (by simpa only[tE] using h)
 | slice e _=>intro o fs h;match fs,h with|[f],h=>exact lone _ o f (by simpa only[tE] using h)
 | agg t _=>intro o fs h;match fs,h with|[f],h=>exact lone _ o f (by simpa only[tE] using h)
 | ref k=>intro o fs h;match fs,h with|[f],h=>exact lone _ o f (by simpa only[tE] using h)
theorem A1z:∀(k:Nat) (ty:Ty) (t:TypeId),rd P k ty t=true->∀(n:Nat) (cs:List Value) (x:DataW H×List MemPlace),
  DataW.trod enc P w 0 spare held n t cs=some x->(∀b∈x.1.weights P t,b<=reachBytes)->∃d:ty.den,B6 w (λ_=>False) ty cs d/\x4 ty d:=by
 intro k;induction k with
 | zero=>intro ty t h;simp[rd]at h
 | succ k B =>
  intro ty t h n cs x c l;cases ty with
  | int q =>
   have hu:=VG (by simpa only[rd] using h);obtain⟨m,rfl,rfl,I⟩:=DataW.trod_int hu c;simp only[Lit.wf,An,Is]at I;exact⟨m,⟨rfl,I⟩,trivial⟩
  | bool =>
   obtain⟨b,rfl,rfl⟩:=DataW.trod_bool (tF h) c;exact⟨b,rfl,trivial⟩
  | str =>
   obtain⟨b,rfl,rfl,_⟩:=DataW.trod_string (A1x h) c;refine⟨b,⟨rfl,?_⟩,trivial⟩;have:=l b.data.toList.length (by simp only[DataW.weights];exact TO);have o:b.data.toList.length=b.size:=AEo;simp only[reachBytes]at this;simp only[AP];omega
  | slice e =>
   obtain⟨et,hu,⟨N,O⟩,C,u⟩:=gN h;rcases DataW.trod_slice hu c with ⟨rfl,rfl⟩|⟨a,len,cap,elems,rest,m,rfl,rfl,rfl,-,W,-,X,R,-,-⟩
   .exact⟨[],⟨none,0,rfl,Of _,DO _,.inl rfl⟩,by simp[x4,reachBytes]⟩
   have Z:len<=AP:=by
    have h1:=l ((elems.length+rest.length)*P.bytesOf et) (by simp only[DataW.weights,hu,OR];exact TO);have o:elems.length+rest.length<=(elems.length+rest.length)*P.bytesOf et:=Nat.le_mul_of_pos_right _ N;simp only[reachBytes]at h1;simp only[AP];omega
   have V:len*e.bts<=reachBytes:=by
    have h1:=l ((elems.length+rest.length)*P.bytesOf et) (by simp only[DataW.weights,hu,OR];exact TO);exact iN (Nat.mul_le_mul O1 O) h1
   have F:∀i,i<len->∃d:e.den,(∃es:List Value,es.length=e.size/\(∀(j:Nat) (v:Value),es[j]?=some v->w.cell? (a.add (i*e.size+j))=some v)/\B6 w (λ_=>False) e es d)/\x4 e d:=by
    intro i hi;have h1:=R i hi;obtain⟨x,c⟩:∃x,elems[i]?=some x:=⟨_,AT O1⟩;rw[c]at h1;obtain⟨es,o,J⟩:=Option.bind_eq_some_iff.1 h1;obtain⟨K,L⟩:=Yf o;obtain⟨d,g,r⟩:=B e et u m es x J (λb p=>l b (by
     simp only[DataW.weights,hu];exact GO _ (AAh _ (gP (IN.2 ⟨x,AC5 c,rfl⟩) b p))))
    refine⟨d,⟨es,by rw[K,C],λj v T=>?_,g⟩,r⟩;have:=L j v T
    rwa [C6,C]at this
   have M:∃ds:List e.den,ds.length=len/\∀(i:Nat) (d:e.den),ds[i]?=some d->(∃es:List Value,es.length=e.size/\(∀(j:Nat) (v:Value),es[j]?=some v->w.cell? (a.add (i*e.size+j))=some v)/\B6 w (λ_=>False) e es d)/\x4 e d:=by
    refine⟨(List.range len).pmap (λi hi=>Classical.choose (F i hi)) (λi hi=>AAn.1 hi),sc,λi d g=>?_⟩;rw[List.getElem?_pmap]at g;simp only[Option.pmap_eq_some_iff]at g;obtain⟨j,h1,o,rfl⟩:=g;have S:j=i:=by
     obtain⟨Y,u⟩:=aT.1 o;simpa using u.symm
    subst S;exact Classical.choose_spec (F j h1)
   obtain⟨ds,D,E⟩:=M;refine⟨ds,⟨some a,cap,by rw[D],O1,O1,.inr ⟨a,rfl,λh=>h,λi d g=>(E i d g).1⟩⟩,by rw[D];exact V,λx c=>?_⟩;obtain⟨i,hi⟩:=List.getElem?_of_mem c;exact(E i x hi).2
  | agg s =>
   rcases A1y h with ⟨fs,hu,Q,hf⟩|⟨q,e,hu,Q,hf⟩
   .obtain⟨xs,m,rfl,rfl,U,z,A⟩:=DataW.trod_struct hu c;obtain⟨d,g,r⟩:=Tc (λty t y cs x c l=>B ty t y m cs x c l) cs s 0 fs.toList hf xs (by simpa using z) (λi f hi=>A i f (by simpa using hi)) (by
     simpa[DataW.weights,hu] using l)
    refine⟨d,?_,r⟩;show B6 w _ s cs d
    rwa [ACe,BY O1]at g
   obtain⟨xs,m,rfl,rfl,U,z,A⟩:=DataW.trod_array hu c;obtain⟨d,g,r⟩:=Tc (λty t y cs x c l=>B ty t y m cs x c l) cs s 0 (x5 P q e) hf xs (by simp[x5,z]) (λi f hi=>by
    unfold x5 at hi;rw[ABL]at hi;by_cases G:i<q
    .rw[ACC G]at hi;have hi:({ (default:Field) with offset:=i*P.cellsOf e,type:=e }:Field)=f:=by simpa using hi
     rw[<-hi];exact A i G
    .rw[wS (by simp;omega)]at hi;cases hi) (λb p=>l b (by
    simp only[DataW.weights,hu];unfold x5 at p;rw[List.range_eq_range']at p;exact Yh b p))
   refine⟨d,?_,r⟩;show B6 w _ s cs d
   rwa [ACe,BY O1]at g
  | prod a b=>simp[rd]at h
  | ref j=>simp[rd]at h
theorem A60 {k:Nat} {ty:Ty} {t:TypeId} {v:Value} {r:Reach} {base:Nat} (h:rd P k ty t=true) (d:Value.okWide P w r base t v):v=ty.wrap v.cells.toList:=by
 cases k with
 | zero=>simp[rd]at h
 | succ k =>
  cases ty with
  | int q =>
   obtain⟨n,rfl⟩:=okWide_int (VG (by simpa only[rd] using h)) d;rfl
  | bool =>
   obtain⟨n,rfl⟩:=okWide_bool (tF h) d;rfl
  | str =>
   obtain⟨n,rfl⟩:=okWide_string (A1x h) d;rfl
  | slice e =>
   obtain⟨et,hu,_⟩:=gN h;obtain⟨a,l,c,rfl⟩:=okWide_slice hu d;rfl
  | agg s =>
   rcases A1y h with ⟨fs,hu,_⟩|⟨q,e,hu,_⟩
   .obtain⟨cs,rfl,_⟩:=okWide_struct hu d;simp[Ty.wrap,Value.cells]
   simp only[Value.okWide,hu]at d;obtain⟨cs,rfl,_⟩:=d;simp[Ty.wrap,Value.cells]
  | prod a b=>simp[rd]at h
  | ref j=>simp[rd]at h
def OV (P:Program):List Ty->List TypeId->Bool
 | [],[]=>true
 | ty :: a,t :: ts=>rd P 50 ty t&&P.readableRec t&&decide (t<P.types.size)&&OV P a ts
 | _,_=>false
theorem gQ {r:Reach} {base:Nat}:∀(a:List Ty) (ts:List TypeId) (c:List Value) (ds:List (DataW H)) (p:List MemPlace),OV P a ts=true->DataW.TrodAll enc P w 0 spare held ts c ds p ->
  (∀(j:Nat) (t:TypeId) (v:Value),ts[j]?=some t->c[j]?=some v->Value.okWide P w r base t v)->(∀b∈DataW.weightsEach P ts ds,b<=reachBytes)->∃xs:Jl a,QF w (λ_=>False) a c xs/\SzA a xs
 | [],[],c,ds,p,_,h,_,_=>by
  obtain⟨rfl,_,_⟩:=trodAll_nil h;exact⟨(),rfl,trivial⟩
 | ty :: a,t :: ts,c,ds,p,g,h,i,e=>by
  simp only[OV,An]at g;obtain⟨⟨⟨h1,_⟩,_⟩,m⟩:=g;obtain⟨v,k,d,l,E,B,rfl,rfl,rfl,⟨n,o⟩,q⟩:=trodAll_cons h;simp only[DataW.weightsEach,IS]at e;obtain⟨x,y,hz⟩:=A1z 50 ty t h1 n _ _ o (λb f=>e b (.inl f));obtain⟨xs,z,A⟩:=gQ a ts k l B m q (λj C D s u=>i (j+1) C D s u) (λb f=>e b (.inr f));exact⟨(x,xs),⟨v,k,rfl,⟨_,y,A60 h1 (i 0 t v rfl rfl)⟩,z⟩,hz,A⟩
 | [],_ :: _,_,_,_,h,_,_,_=>by simp[OV]at h
 | _ :: _,[],_,_,_,h,_,_,_=>by simp[OV]at h
theorem Yi (i:laidOutB P=true) {W f:World} (g:Below W.heap.size W f):∀(e:List Ty) (ts:List TypeId) (a:List Value) (ds:List (DataW H)) (p:List MemPlace),OV P e ts=true ->
  DataW.TrodAll enc P W 0 (λ_=>true) true ts a ds p->(∀x∈p,x.block<W.heap.size)->DataW.TrodAll enc P f 0 (λb=>decide (b<W.heap.size)) true ts a ds p
 | [],[],a,ds,p,_,h,_=>by
  obtain⟨rfl,rfl,rfl⟩:=trodAll_nil h;rfl
 | ty :: e,t :: ts,a,ds,p,k,h,j=>by
  simp only[OV,An,Is]at k;obtain⟨⟨⟨_,h1⟩,n⟩,o⟩:=k;obtain⟨v,u,d,m,s,l,rfl,rfl,rfl,q,r⟩:=trodAll_cons h;exact⟨s,l,Below.trod i h1 n q g (λx c=>j x (AAh _ c)),Yi i g e ts u m l o r (λx c=>j x (ACi _ c)),rfl⟩
 | [],_ :: _,_,_,_,h,_,_=>by simp[OV]at h
 | _ :: _,[],_,_,_,h,_,_=>by simp[OV]at h
end
theorem A1A {O:Nat->Prop} {u:Value} {w':World} (h:A0D w O [.p .bool true] u w'):u=.bool true/\Below w.heap.size w w':=by
 obtain⟨ρ',a⟩:=h 0;refine⟨?_,a.below⟩;obtain⟨cs,h1,b⟩:Bg _ _ .bool u true:=a.av;have h1:cs=[.bool true]:=h1;rw[b,h1];rfl
theorem A1B {f:FuncId} {fn:Func} {sp:Ab} {s:ChangeSpec} {tb:TypeId} (L:Ag P f sp) (N:∀ds,SzA sp.ins ds->sp.pre ds) (M:∀ds,sp.out ds=[.p .bool true])
  (I:laidOutB P=true) (w:OV P sp.ins fn.params.toList=true) (Q:fn.resultTypes=#[tb]) (E:P.underlying tb=some .bool) (y:s.vars=[])
  (hs:∀(H:Type) (ds:List (DataW H)),ds.length=fn.params.size->(s.fn H ds).results=[.lit (.bool true)]/\(s.fn H ds).args=ds/\(s.fn H ds).vars=[])
  {H:Type} {enc:TypeId×Value->H} {W:World} {args:Array Value} {ds m:List (DataW H)} {z:List MemPlace} {Z:List TypeId}
  (U:∀(j:Nat) t v,fn.params[j]?=some t->args[j]?=some v->Value.okWide P W .any n t v)
  (o:DataW.Whole enc P fn.params.toList s.vars false W args.toList ds m z)
  (R:(DataW.weightsEach P (fn.params.toList++Z) (ds++m)).all (·<=reachBytes)=true) (G:GW W (λb=>b<W.heap.size) λ_=>False:=by intro x i;cases i) :
  Calls P f args W λe l=>∃v,e=.returned v/\s.post enc P fn false true false false W args v l:=by
 have r:=o;obtain⟨p,q,c,base,rfl,ab,hnd⟩:=o;rw[y]at base;obtain⟨rfl,rfl⟩:=trodVars_none base;obtain⟨xs,V,X⟩:=gQ sp.ins fn.params.toList args.toList ds p w c (λj t v S T=>U j t v (by simpa using S) (by simpa using T))
  (λb a=>by simpa using OF.1 R b (Yg b a))
 have K:∀x∈p,x.block<W.heap.size:=λx i=>by simpa using r.lt x (AAh _ i)
 have J:ds.length=fn.params.size:=by
  have:∀(ts:List TypeId) (k:List Value) (ds:List (DataW H)) (p:List MemPlace),DataW.TrodAll enc P W 0 (λ_=>true) true ts k ds p->ds.length=ts.length:=by
   intro ts;induction ts with
   | nil=>intro k ds p h;obtain⟨_,rfl,_⟩:=trodAll_nil h;rfl
   | cons t ts Y=>intro k ds p h;obtain⟨v,af,d,aa,ad,ae,rfl,rfl,rfl,_,O⟩:=trodAll_cons h;simp[Y _ _ _ O]
  simpa using this _ _ _ _ c
 have g:=L.2 W (λ_=>False) args.toList xs (λ_ h=>h.elim) G V (N xs X);rw[M]at g;have D:args.toList.toArray=args:=by simp
 rw[D]at g;refine g.mono λe l ⟨u,F,hu⟩=>?_;obtain⟨rfl,a⟩:=A1A hu;obtain⟨A,B,C⟩:=hs H (ds++[]) (by simpa using J);refine⟨_,F,_,_,_,[],p,[],r,?_,?_,?_,a.frame _,λh=>by cases h⟩
 .rw[A,Q];exact trodAll_mk1 (shut_bool E _)
 .rw[B,AAW];exact Yi I a sp.ins _ _ _ _ w c K
 rw[C,y];rfl
end
end Go.Proofs.YtddbnflakbngaaaGreatDoor.Fw
