/- This program's types; a slice compared with nil; from a contract to the given statement. -/
import Derived.Test.YtglkoagnnnpimaaGreatDoorDZI
import Derived.Test.YtglkoagnnnpimaaGreatDoorChecked
import Derived.Laws.Cover3
import Derived.Carry
import Derived.SizedLaws
import Derived.OpenShut
set_option linter.unusedVariables false
set_option linter.unusedSimpArgs false
namespace Go.Proofs.YtglkoagnnnpimaaGreatDoor.Fw
variable {t:TypeId} {P:Program} {n:Nat} {w:World}
section
abbrev T1:Ty:=.ref 1
abbrev T2:Ty:=.int .i64
abbrev T3:Ty:=.int .i64
abbrev T4:Ty:=.bool
abbrev T5:Ty:=.int .u8
abbrev T9:Ty:=.str
abbrev T21:Ty:=.int .i32
abbrev C0:Ty:=.int .i64
abbrev CV:Ty:=.slice T9
abbrev DH:Ty:=.agg (.prod T3 (T3))
abbrev T72:Ty:=.agg (.prod T9 (T9))
abbrev T78:Ty:=.ref 0
abbrev T79:Ty:=.ref 2
abbrev T91:Ty:=.agg (.prod T9 (T3))
abbrev y7:Ty:=.agg (.prod T3 (T3))
abbrev T96:Ty:=.ref 0
abbrev Bx:Ty:=.slice T3
abbrev XG:Ty:=.agg (.prod T9 (.prod T3 (.prod C0 (.prod CV (CV)))))
abbrev A9l:Ty:=.ref 1
abbrev y8:Ty:=.agg (.prod T3 (T3))
abbrev A9m:Ty:=.ref 1
abbrev A9n:Ty:=.ref 0
abbrev y9:Ty:=.agg (.prod T9 (T3))
abbrev A9o:Ty:=.ref 0
abbrev A9p:Ty:=.ref 1
abbrev kT:Ty:=.agg (.prod T9 (T9))
abbrev RJ:Ty:=.int .u64
abbrev A9q:Ty:=.ref 2
abbrev A9r:Ty:=.ref 1
abbrev A9s:Ty:=.ref 1
abbrev A9t:Ty:=.ref 1
abbrev A74:Ty:=.ref 3
abbrev A9u:Ty:=.agg (T9)
abbrev A9v:Ty:=.agg (T9)
abbrev A9w:Ty:=.ref 1
abbrev A9x:Ty:=.ref 1
abbrev A9y:Ty:=.int .u64
abbrev A9z:Ty:=.ref 1
abbrev A9A:Ty:=.int .i64
abbrev A9B:Ty:=.int .u32
abbrev A9C:Ty:=.int .u64
abbrev A9D:Ty:=.ref 0
abbrev A9E:Ty:=.ref 0
abbrev SZ:Ty:=.slice y9
abbrev LO:Ty:=.slice y7
abbrev T52:Ty:=.slice T91
abbrev kU:Ty:=.agg (.prod T9 (.prod T3 (T52)))
abbrev NQ:Ty:=.slice DH
abbrev W3:Ty:=.agg (.prod T3 (NQ))
abbrev T63:Ty:=.slice kT
abbrev zA:Ty:=.agg (.prod T9 (.prod CV (T63)))
abbrev T71:Ty:=.slice T72
abbrev Ba:Ty:=.slice RJ
abbrev XH:Ty:=.slice y8
abbrev kV:Ty:=.agg (.prod T9 (.prod Ba (.prod Bx (XH))))
abbrev A3X:Ty:=.slice XH
abbrev Zi:Ty:=.agg (.prod T9 (Ba))
abbrev S8:Ty:=.slice Ba
abbrev RK:Ty:=.slice A74
abbrev Ey:Ty:=.slice zA
abbrev Qu:Ty:=.slice kV
abbrev FL:Ty:=.agg (.prod Qu (SZ))
abbrev Ij:Ty:=.slice W3
abbrev E7:Ty:=.agg (Ij)
abbrev Jy:Ty:=.slice kU
abbrev dZ:Ty:=.agg (.prod T3 (.prod T3 (.prod CV (.prod Jy (LO)))))
abbrev T81:Ty:=.agg (.prod FL (.prod E7 (.prod T79 (dZ))))
abbrev T98:Ty:=.agg (.prod FL (E7))
abbrev JZ:Ty:=.slice Zi
abbrev A9F:Ty:=.agg (.prod FL (.prod Bx (Bx)))
abbrev A9G:Ty:=.agg (.prod E7 (.prod Bx (Bx)))
abbrev d5:Ty:=.agg (.prod FL (.prod T3 (.prod T3 (.prod T3 (.prod T3 (.prod T3 (.prod T3 (.prod T3 (T3)))))))))
set_option maxRecDepth 100000
def Av:List (Nat×TI):=[(1,⟨T1,[],0,8⟩),
 (2,⟨T2,[],0,8⟩),
 (3,⟨T3,[],0,8⟩),
 (4,⟨T4,[],0,1⟩),
 (5,⟨T5,[],0,1⟩),
 (9,⟨T9,[],0,16⟩),
 (21,⟨T21,[],0,4⟩),
 (22,⟨Ey,[],65,24⟩),
 (23,⟨Qu,[],114,24⟩),
 (24,⟨SZ,[],172,24⟩),
 (26,⟨FL,[(0,1),(1,1)],0,48⟩),
 (32,⟨Ij,[],57,24⟩),
 (34,⟨E7,[(0,1)],0,24⟩),
 (35,⟨C0,[],0,8⟩),
 (37,⟨CV,[],9,24⟩),
 (38,⟨Jy,[],54,24⟩),
 (39,⟨LO,[],93,24⟩),
 (41,⟨dZ,[(0,1),(1,1),(2,1),(3,1),(4,1)],0,88⟩),
 (52,⟨T52,[],91,24⟩),
 (54,⟨kU,[(0,1),(1,1),(2,1)],0,48⟩),
 (55,⟨NQ,[],59,24⟩),
 (57,⟨W3,[(0,1),(1,1)],0,32⟩),
 (59,⟨DH,[(0,1),(1,1)],0,16⟩),
 (63,⟨T63,[],196,24⟩),
 (65,⟨zA,[(0,1),(1,1),(2,1)],0,64⟩),
 (71,⟨T71,[],72,24⟩),
 (72,⟨T72,[(0,1),(1,1)],9,32⟩),
 (78,⟨T78,[],0,8⟩),
 (79,⟨T79,[(3,3)],0,8⟩),
 (81,⟨T81,[(0,2),(2,1),(3,1),(4,5)],0,168⟩),
 (91,⟨T91,[(0,1),(1,1)],0,24⟩),
 (93,⟨y7,[(0,1),(1,1)],0,16⟩),
 (96,⟨T96,[],0,8⟩),
 (98,⟨T98,[(0,2),(2,1)],0,72⟩),
 (101,⟨Bx,[],3,24⟩),
 (111,⟨Ba,[],205,24⟩),
 (112,⟨XH,[],149,24⟩),
 (114,⟨kV,[(0,1),(1,1),(2,1),(3,1)],0,88⟩),
 (120,⟨A3X,[],112,24⟩),
 (123,⟨JZ,[],127,24⟩),
 (127,⟨Zi,[(0,1),(1,1)],0,40⟩),
 (133,⟨XG,[(0,1),(1,1),(2,1),(3,1),(4,1)],0,80⟩),
 (146,⟨A9l,[],0,8⟩),
 (149,⟨y8,[(0,1),(1,1)],0,16⟩),
 (154,⟨A9m,[],0,8⟩),
 (161,⟨A9n,[],0,8⟩),
 (163,⟨A9F,[(0,2),(2,1),(3,1)],0,96⟩),
 (172,⟨y9,[(0,1),(1,1)],0,24⟩),
 (173,⟨A9o,[],0,8⟩),
 (175,⟨A9G,[(0,1),(1,1),(2,1)],0,72⟩),
 (176,⟨A9p,[],0,8⟩),
 (186,⟨S8,[],111,24⟩),
 (196,⟨kT,[(0,1),(1,1)],0,32⟩),
 (205,⟨RJ,[],0,8⟩),
 (215,⟨A9q,[(3,4)],0,8⟩),
 (217,⟨A9r,[],0,8⟩),
 (218,⟨A9s,[],0,8⟩),
 (220,⟨A9t,[],0,8⟩),
 (236,⟨RK,[],239,24⟩),
 (239,⟨A74,[],0,16⟩),
 (241,⟨A9u,[(0,1)],0,16⟩),
 (244,⟨A9v,[(0,1)],0,16⟩),
 (248,⟨d5,[(0,2),(2,1),(3,1),(4,1),(5,1),(6,1),(7,1),(8,1),(9,1)],0,112⟩),
 (252,⟨A9w,[],0,8⟩),
 (258,⟨A9x,[],0,8⟩),
 (263,⟨A9y,[],0,8⟩),
 (270,⟨A9z,[],0,8⟩),
 (272,⟨A9A,[],0,8⟩),
 (279,⟨A9B,[],0,4⟩),
 (281,⟨A9C,[],0,8⟩),
 (285,⟨A9D,[],0,8⟩),
 (287,⟨A9E,[],0,8⟩)]
theorem tyTab_ok (f) (a:List Nat) (b:List Nat:=[]) (ne:List (Nat×TypeId):=[]):DB Tryz.prog ⟨Av,f,b,ne,a⟩:=A3d a5
theorem drawsAny:Tryz.prog.follows .mixedOrders=true:=by kernel_rfl
theorem ty1:lk 1 Av=some ⟨T1,[],0,8⟩:=rfl
theorem ty2:lk 2 Av=some ⟨T2,[],0,8⟩:=rfl
theorem ty3:lk 3 Av=some ⟨T3,[],0,8⟩:=rfl
theorem ty4:lk 4 Av=some ⟨T4,[],0,1⟩:=rfl
theorem ty5:lk 5 Av=some ⟨T5,[],0,1⟩:=rfl
theorem ty9:lk 9 Av=some ⟨T9,[],0,16⟩:=rfl
theorem A76:lk 21 Av=some ⟨T21,[],0,4⟩:=rfl
theorem A77:lk 22 Av=some ⟨Ey,[],65,24⟩:=rfl
theorem A78:lk 23 Av=some ⟨Qu,[],114,24⟩:=rfl
theorem A79:lk 24 Av=some ⟨SZ,[],172,24⟩:=rfl
theorem A7a:lk 26 Av=some ⟨FL,[(0,1),(1,1)],0,48⟩:=rfl
theorem A7b:lk 32 Av=some ⟨Ij,[],57,24⟩:=rfl
theorem A7c:lk 34 Av=some ⟨E7,[(0,1)],0,24⟩:=rfl
theorem A7d:lk 35 Av=some ⟨C0,[],0,8⟩:=rfl
theorem A7e:lk 37 Av=some ⟨CV,[],9,24⟩:=rfl
theorem A7f:lk 38 Av=some ⟨Jy,[],54,24⟩:=rfl
theorem A7g:lk 39 Av=some ⟨LO,[],93,24⟩:=rfl
theorem A7h:lk 41 Av=some ⟨dZ,[(0,1),(1,1),(2,1),(3,1),(4,1)],0,88⟩:=rfl
theorem A7i:lk 52 Av=some ⟨T52,[],91,24⟩:=rfl
theorem A7j:lk 54 Av=some ⟨kU,[(0,1),(1,1),(2,1)],0,48⟩:=rfl
theorem A7k:lk 55 Av=some ⟨NQ,[],59,24⟩:=rfl
theorem A7l:lk 57 Av=some ⟨W3,[(0,1),(1,1)],0,32⟩:=rfl
theorem A7m:lk 59 Av=some ⟨DH,[(0,1),(1,1)],0,16⟩:=rfl
theorem A7n:lk 63 Av=some ⟨T63,[],196,24⟩:=rfl
theorem A7o:lk 65 Av=some ⟨zA,[(0,1),(1,1),(2,1)],0,64⟩:=rfl
theorem A7p:lk 71 Av=some ⟨T71,[],72,24⟩:=rfl
theorem A7q:lk 72 Av=some ⟨T72,[(0,1),(1,1)],9,32⟩:=rfl
theorem A7r:lk 78 Av=some ⟨T78,[],0,8⟩:=rfl
theorem A7s:lk 79 Av=some ⟨T79,[(3,3)],0,8⟩:=rfl
theorem A7t:lk 81 Av=some ⟨T81,[(0,2),(2,1),(3,1),(4,5)],0,168⟩:=rfl
theorem A7u:lk 91 Av=some ⟨T91,[(0,1),(1,1)],0,24⟩:=rfl
theorem A7v:lk 93 Av=some ⟨y7,[(0,1),(1,1)],0,16⟩:=rfl
theorem A7w:lk 96 Av=some ⟨T96,[],0,8⟩:=rfl
theorem A7x:lk 98 Av=some ⟨T98,[(0,2),(2,1)],0,72⟩:=rfl
theorem zB:lk 101 Av=some ⟨Bx,[],3,24⟩:=rfl
theorem zC:lk 111 Av=some ⟨Ba,[],205,24⟩:=rfl
theorem zD:lk 112 Av=some ⟨XH,[],149,24⟩:=rfl
theorem zE:lk 114 Av=some ⟨kV,[(0,1),(1,1),(2,1),(3,1)],0,88⟩:=rfl
theorem zF:lk 120 Av=some ⟨A3X,[],112,24⟩:=rfl
theorem zG:lk 123 Av=some ⟨JZ,[],127,24⟩:=rfl
theorem zH:lk 127 Av=some ⟨Zi,[(0,1),(1,1)],0,40⟩:=rfl
theorem zI:lk 133 Av=some ⟨XG,[(0,1),(1,1),(2,1),(3,1),(4,1)],0,80⟩:=rfl
theorem zJ:lk 146 Av=some ⟨A9l,[],0,8⟩:=rfl
theorem zK:lk 149 Av=some ⟨y8,[(0,1),(1,1)],0,16⟩:=rfl
theorem zL:lk 154 Av=some ⟨A9m,[],0,8⟩:=rfl
theorem zN:lk 161 Av=some ⟨A9n,[],0,8⟩:=rfl
theorem zO:lk 163 Av=some ⟨A9F,[(0,2),(2,1),(3,1)],0,96⟩:=rfl
theorem zP:lk 172 Av=some ⟨y9,[(0,1),(1,1)],0,24⟩:=rfl
theorem zQ:lk 173 Av=some ⟨A9o,[],0,8⟩:=rfl
theorem zR:lk 175 Av=some ⟨A9G,[(0,1),(1,1),(2,1)],0,72⟩:=rfl
theorem zS:lk 176 Av=some ⟨A9p,[],0,8⟩:=rfl
theorem zT:lk 186 Av=some ⟨S8,[],111,24⟩:=rfl
theorem zU:lk 196 Av=some ⟨kT,[(0,1),(1,1)],0,32⟩:=rfl
theorem zV:lk 205 Av=some ⟨RJ,[],0,8⟩:=rfl
theorem zW:lk 215 Av=some ⟨A9q,[(3,4)],0,8⟩:=rfl
theorem zX:lk 217 Av=some ⟨A9r,[],0,8⟩:=rfl
theorem zY:lk 218 Av=some ⟨A9s,[],0,8⟩:=rfl
theorem zZ:lk 220 Av=some ⟨A9t,[],0,8⟩:=rfl
theorem z0:lk 236 Av=some ⟨RK,[],239,24⟩:=rfl
theorem z4:lk 239 Av=some ⟨A74,[],0,16⟩:=rfl
theorem z5:lk 241 Av=some ⟨A9u,[(0,1)],0,16⟩:=rfl
theorem z6:lk 244 Av=some ⟨A9v,[(0,1)],0,16⟩:=rfl
theorem z7:lk 248 Av=some ⟨d5,[(0,2),(2,1),(3,1),(4,1),(5,1),(6,1),(7,1),(8,1),(9,1)],0,112⟩:=rfl
theorem z8:lk 252 Av=some ⟨A9w,[],0,8⟩:=rfl
theorem z9:lk 258 Av=some ⟨A9x,[],0,8⟩:=rfl
theorem A00:lk 263 Av=some ⟨A9y,[],0,8⟩:=rfl
theorem A01:lk 270 Av=some ⟨A9z,[],0,8⟩:=rfl
theorem A02:lk 272 Av=some ⟨A9A,[],0,8⟩:=rfl
theorem A03:lk 279 Av=some ⟨A9B,[],0,4⟩:=rfl
theorem A04:lk 281 Av=some ⟨A9C,[],0,8⟩:=rfl
theorem A05:lk 285 Av=some ⟨A9D,[],0,8⟩:=rfl
theorem A06:lk 287 Av=some ⟨A9E,[],0,8⟩:=rfl
end
section
open Go Go.RowKit
section
variable {c:Cx} {R:Exit->Act->World->Prop} {k:List Cp} {σ σ':St}
theorem t5 {tb:Tb} {ti:TI} {e:Ty} (hT:D2 P tb t ti) (c:ti.ty=.slice e) (w:World) (a:Option Addr) (n m:Nat):(Op.equal t (.slice a n m) (.slice none 0 0)).run P w=.ok a.isNone w:=by
 have b:=hT.2;rw[c]at b;exact run_equal_slice_nil w t ti.el a n m b.1
def d6:Option TI->Bool
 | some ⟨.slice _,_,_,_⟩=>true
 | _=>false
theorem t6 (g:c.Ok) {ops:Array Oper} {rest:List Oper} {d:Nat} {x:Operand} {q ty:TypeId} {pos:String} {after:Array Edge} {e:Ty} {l:List e.den} (neg:Bool)
  (F:Ai σ x=some (.p (.slice e) l)) (ht:d6 (lk t c.tb.ty)=true) (hk:∀b:Bool,(b=true->l=[])->ED c R k ops rest (σ.add (.p .bool (if neg then !b else b)) [] (some d))) :
  ED c R k ops (⟨some d,.binOp (if neg then .neq else .eql) t x (.const (.slice none 0 0)) q,ty,pos,after,none⟩ :: rest) σ:=by
 intro j y a w E;obtain⟨ρ,n⟩:=E;have v:EX (vw w c.O0 σ ρ) σ a.eval:=Ci n.env;have G:=v x _ F;obtain⟨cs,⟨ad,m,rfl,h1,M,f⟩,i⟩:=G;have i:a.eval x=.slice ad (List.length l) m:=i;unfold d6 at ht;split at ht
 .rename_i L offs el bytes z;have r:=g.T _ _ z;have heq:=t5 r rfl w ad (List.length l) m;unfold wpListIn;rw[At (by simp[Region.wanted])];have C:(execOp a.eval ⟨some d,.binOp (if neg then .neq else .eql) t x (.const (.slice none 0 0)) q,ty,pos,after,none⟩).run c.P w=.ok (.value (.bool (if neg then !ad.isNone else ad.isNone))) w:=by
   have H:a.eval (.const (.slice none 0 0))=.slice none 0 0:=rfl;cases neg<;>simp[execOp,i,H,eqGuard,binOp,heq]
  refine Ag C ?_ (λcl h=>by cases neg<;>cases h);have s:ad.isNone=true->l=[]:=λhn=>by
   rcases f with f|⟨I,rfl,_⟩
   .exact f
   simp at hn
  have B:QS w c.O0 σ ρ (.p .bool (if neg then !ad.isNone else ad.isNone)) [] (.bool (if neg then !ad.isNone else ad.isNone)) ρ w:=QS.still (Bq _);have D:=n.add g.K g.O (dst:=some d) (λJ u=>by cases u;exact A6 (j _ jB) d rfl) rfl B;exact hk ad.isNone s (λo A=>j o (by simp[A])) y _ _ ⟨ρ,D⟩
 cases ht
end
end
section
open Go Go.RowKit Go.ChangeShapes Go.WideShapes
set_option maxRecDepth 100000
def Ty.bts:Ty->Nat
 | .int .i64=>8
 | .prod a b=>a.bts+b.bts
 | .agg t=>t.bts
 | _=>1
def pF:(t:Ty)->t.den->Prop
 | .slice e,d=>List.length d*e.bts<=reachBytes/\∀x∈(d:List e.den),pF e x
 | .prod a b,d=>pF a d.1/\pF b d.2
 | .agg t,d=>pF t d
 | _,_=>True
def SzA:(a:List Ty)->IT a->Prop
 | [],_=>True
 | ty :: a,xs=>pF ty xs.1/\SzA a xs.2
def pG (r:Ty->TypeId->Bool) (P:Program):Ty->Nat->List Field->Bool
 | .prod a b,o,fs=>match fs with
  | f :: fs=>f.offset==o&&P.cellsOf f.type==a.size&&r a f.type&&pG r P b (o+a.size) fs
  | []=>false
 | s,o,[f]=>f.offset==o&&P.cellsOf f.type==s.size&&r s f.type
 | _,_,_=>false
def t7 (P:Program) (m:Nat) (e:TypeId):List Field:=(List.range m).map λi=>{ (default:Field) with offset:=i*P.cellsOf e,type:=e }
def rd (P:Program):Nat->Ty->TypeId->Bool
 | 0,_,_=>false
 | _+1,.int k,t=>isI k (P.underlying t)
 | _+1,.bool,t=>match P.underlying t with|some .bool=>true|_=>false
 | _+1,.str,t=>match P.underlying t with|some .string=>true|_=>false
 | n+1,.slice e,t=>match P.underlying t with|some (.slice et)=>decide (0<P.bytesOf et)&&decide (e.bts<=P.bytesOf et)&&P.cellsOf et==e.size&&rd P n e et|_=>false
 | n+1,.agg s,t=>match P.underlying t with|some (.struct fs)=>P.cellsOf t==s.size&&pG (rd P n) P s 0 fs.toList|some (.array m e)=>P.cellsOf t==s.size&&pG (rd P n) P s 0 (t7 P m e)|_=>false
 | _+1,_,_=>false
theorem pH (h:rd P (n+1) .bool t=true):P.underlying t=some .bool:=by
 simp only[rd]at h;split at h
 .assumption
 cases h
theorem A07 (h:rd P (n+1) .str t=true):P.underlying t=some .string:=by
 simp only[rd]at h;split at h
 .assumption
 cases h
theorem d7 {e:Ty} (h:rd P (n+1) (.slice e) t=true):∃et,P.underlying t=some (.slice et)/\(0<P.bytesOf et/\e.bts<=P.bytesOf et)/\P.cellsOf et=e.size/\rd P n e et=true:=by
 simp only[rd]at h;split at h
 .rename_i et hu;simp only[AT,IN,AA9]at h;exact⟨et,hu,h.1.1,h.1.2,h.2⟩
 cases h
theorem A08 {s:Ty} (h:rd P (n+1) (.agg s) t=true):(∃fs,P.underlying t=some (.struct fs)/\P.cellsOf t=s.size/\pG (rd P n) P s 0 fs.toList=true)\/∃m e,P.underlying t=some (.array m e)/\P.cellsOf t=s.size/\pG (rd P n) P s 0 (t7 P m e)=true:=by
 simp only[rd]at h;split at h
 .rename_i fs hu;simp only[AT,AA9]at h;exact .inl ⟨fs,hu,h.1,h.2⟩
 .rename_i m e hu;simp only[AT,AA9]at h;exact .inr ⟨m,e,hu,h.1,h.2⟩
 cases h
theorem Xz {base:Nat} {a:Addr} {n:Nat} {cs:List Value} (h:w.cells? base a n=some cs):cs.length=n/\∀(j:Nat) (v:Value),cs[j]?=some v->w.cell? (a.add j)=some v:=by
 unfold World.cells? at h;split at h
 .have h1:=mapM_some_length h;simp only[ABT]at h1;refine⟨h1,λj v b=>?_⟩;have c:j<n:=by
   obtain⟨c,_⟩:=TO.1 b;omega
  rw[mapM_some_get h j j (by simp[c]),b]
 cases h
section
variable {H:Type} {enc:TypeId×Value->H} {P:Program} {w:World} {spare:Nat->Bool} {held:Bool}
theorem d8 {e:TypeId}:∀ {l:List (DataW H)} {d:DataW H},d∈l->∀n∈d.weights P e,n∈DataW.weightsAll P e l
 | a :: l,d,b,n,hn=>by
  simp only[DataW.weightsAll,If];rcases By.1 b with rfl|b
  .exact .inl hn
  exact .inr (d8 b n hn)
 | [],_,b,_,_=>by cases b
theorem X0 {b:List TypeId} {a:List (DataW H)}:∀ {ts:List TypeId} {ds:List (DataW H)},∀n∈DataW.weightsEach P ts ds,n∈DataW.weightsEach P (ts++b) (ds++a)
 | t :: ts,d :: ds,n,hn=>by
  simp only[DataW.weightsEach,To,If]at hn ⊢;rcases hn with hn|hn
  .exact .inl hn
  exact .inr (X0 n hn)
 | [],_,n,hn=>by simp[DataW.weightsEach]at hn
 | _ :: _,[],n,hn=>by simp[DataW.weightsEach]at hn
theorem X2 {e:TypeId}:∀ {m:Nat} {k:Nat} {ds:List (DataW H)},∀n∈DataW.weightsEach P (((List.range' k m).map λi=>({ (default:Field) with offset:=i*P.cellsOf e,type:=e }:Field)).map (·.type)) ds,n∈DataW.weightsAll P e ds
 | 0,_,ds,n,hn=>by simp[DataW.weightsEach]at hn
 | m+1,k,[],n,hn=>by
  rw[AD3]at hn;simp[DataW.weightsEach]at hn
 | m+1,k,d :: ds,n,hn=>by
  rw[AD3]at hn;simp only[sQ,DataW.weightsEach,If]at hn;simp only[DataW.weightsAll,If];rcases hn with hn|hn
  .exact .inl hn
  exact .inr (X2 n hn)
theorem Sa {n:Nat} {r:Ty->TypeId->Bool}
  (A:∀ty t,r ty t=true->∀(cs:List Value) (x:DataW H×List MemPlace),DataW.trod enc P w 0 spare held n t cs=some x->(∀b∈x.1.weights P t,b<=reachBytes)->∃d:ty.den,B1 w (λ_=>False) ty cs d/\pF ty d) (cs:List Value) :
  ∀(s:Ty) (o:Nat) (fs:List Field),pG r P s o fs=true->∀xs:List (DataW H×List MemPlace),xs.length=fs.length ->
   (∀(i:Nat) (f:Field),fs[i]?=some f->DataW.trod enc P w 0 spare held n f.type ((cs.drop f.offset).take (P.cellsOf f.type))=xs[i]?) ->
   (∀b∈DataW.weightsEach P (fs.map (·.type)) (xs.map (·.1)),b<=reachBytes)->∃d:s.den,B1 w (λ_=>False) s ((cs.drop o).take s.size) d/\pF s d:=by
 have one:∀(s:Ty) (o:Nat) (f:Field),(f.offset==o&&P.cellsOf f.type==s.size&&r s f.type)=true->∀x:DataW H×List MemPlace,
   DataW.trod enc P w 0 spare held n f.type ((cs.drop f.offset).take (P.cellsOf f.type))=some x ->
   (∀b∈x.1.weights P f.type,b<=reachBytes)->∃d:s.den,B1 w (λ_=>False) s ((cs.drop o).take s.size) d/\pF s d:=by
  intro s o f h x j c;simp only[AT,AA9]at h;obtain⟨⟨rfl,p⟩,q⟩:=h;rw[<-p];exact A s f.type q _ x j c
 have lone:∀(s:Ty) (o:Nat) (f:Field),(f.offset==o&&P.cellsOf f.type==s.size&&r s f.type)=true->∀xs:List (DataW H×List MemPlace),xs.length=[f].length ->
   (∀(i:Nat) (g:Field),[f][i]?=some g->DataW.trod enc P w 0 spare held n g.type ((cs.drop g.offset).take (P.cellsOf g.type))=xs[i]?) ->
   (∀b∈DataW.weightsEach P ([f].map (·.type)) (xs.map (·.1)),b<=reachBytes)->∃d:s.den,B1 w (λ_=>False) s ((cs.drop o).take s.size) d/\pF s d:=by
  intro s o f h xs m j c;obtain⟨x,rfl⟩:∃x,xs=[x]:=AB5.1 (by simpa using m);exact one s o f h x (j 0 f rfl) (λb l=>c b (by simp[DataW.weightsEach,l]))
 intro s;induction s with
 | prod a b G B =>
  intro o fs h xs m j c;cases fs with
  | nil=>simp[pG]at h
  | cons f fs =>
   simp only[pG,AT]at h;obtain⟨⟨⟨h1,p⟩,q⟩,y⟩:=h;obtain⟨x,ys,rfl⟩:∃x ys,xs=x :: ys:=List.exists_cons_of_ne_nil (by intro h;subst h;simp at m);obtain⟨u,C,E⟩:=one a o f (by simp only[h1,p,q,Bool.and_self]) x (j 0 f rfl) (λb l=>c b (by
     simp only[sQ,DataW.weightsEach,If];exact .inl l))
   obtain⟨v,D,F⟩:=B (o+a.size) fs y ys (by simpa using m) (λi g z=>j (i+1) g z) (λb l=>c b (by
     simp only[sQ,DataW.weightsEach,If];exact .inr l))
   refine⟨(u,v),⟨(cs.drop o).take a.size,(cs.drop (o+a.size)).take b.size,?_,C,D⟩,E,F⟩;show (cs.drop o).take (a.size+b.size)=_;rw[List.take_add,ACa]
 | int k=>intro o fs h;match fs,h with|[f],h=>exact lone _ o f (by simpa only[pG] using h)
 | bool=>intro o fs h;match fs,h with|[f],h=>exact lone _ o f (by simpa only[pG] using h)
 | str=>intro o fs h;match fs,h with|[f],h=>exact lone _ o f (by simpa only[pG] using h)
 | slice e _=>intro o fs h;match fs,h with|[f],h=>exact lone _ o f (by simpa only[pG] using h)
 | agg t _=>intro o fs h;match fs,h with|[f],h=>exact lone _ o f (by simpa only[pG] using h)
 | ref k=>intro o fs h;match fs,h with|[f],h=>exact lone _ o f (by simpa only[pG] using h)
theorem A09:∀(k:Nat) (ty:Ty) (t:TypeId),rd P k ty t=true->∀(n:Nat) (cs:List Value) (x:DataW H×List MemPlace),
  DataW.trod enc P w 0 spare held n t cs=some x->(∀b∈x.1.weights P t,b<=reachBytes)->∃d:ty.den,B1 w (λ_=>False) ty cs d/\pF ty d:=by
 intro k;induction k with
 | zero=>intro ty t h;simp[rd]at h
 | succ k B =>
  intro ty t h n cs x c l;cases ty with
  | int q =>
   have hu:=UR (by simpa only[rd] using h);obtain⟨m,rfl,rfl,I⟩:=DataW.trod_int hu c;simp only[Lit.wf,AT,IN]at I;exact⟨m,⟨rfl,I⟩,trivial⟩
  | bool =>
   obtain⟨b,rfl,rfl⟩:=DataW.trod_bool (pH h) c;exact⟨b,rfl,trivial⟩
  | str =>
   obtain⟨b,rfl,rfl,_⟩:=DataW.trod_string (A07 h) c;refine⟨b,⟨rfl,?_⟩,trivial⟩;have:=l b.data.toList.length (by simp only[DataW.weights];exact jB);have o:b.data.toList.length=b.size:=ACF;simp only[reachBytes]at this;simp only[AP];omega
  | slice e =>
   obtain⟨et,hu,⟨N,O⟩,C,u⟩:=d7 h;rcases DataW.trod_slice hu c with ⟨rfl,rfl⟩|⟨a,len,cap,elems,rest,m,rfl,rfl,rfl,-,W,-,X,R,-,-⟩
   .exact⟨[],⟨none,0,rfl,On _,Do _,.inl rfl⟩,by simp[pF,reachBytes]⟩
   have Z:len<=AP:=by
    have h1:=l ((elems.length+rest.length)*P.bytesOf et) (by simp only[DataW.weights,hu,Of];exact jB);have o:elems.length+rest.length<=(elems.length+rest.length)*P.bytesOf et:=Nat.le_mul_of_pos_right _ N;simp only[reachBytes]at h1;simp only[AP];omega
   have V:len*e.bts<=reachBytes:=by
    have h1:=l ((elems.length+rest.length)*P.bytesOf et) (by simp only[DataW.weights,hu,Of];exact jB);exact gO (Nat.mul_le_mul O1 O) h1
   have F:∀i,i<len->∃d:e.den,(∃es:List Value,es.length=e.size/\(∀(j:Nat) (v:Value),es[j]?=some v->w.cell? (a.add (i*e.size+j))=some v)/\B1 w (λ_=>False) e es d)/\pF e d:=by
    intro i hi;have h1:=R i hi;obtain⟨x,c⟩:∃x,elems[i]?=some x:=⟨_,As O1⟩;rw[c]at h1;obtain⟨es,o,J⟩:=Option.bind_eq_some_iff.1 h1;obtain⟨K,L⟩:=Xz o;obtain⟨d,g,r⟩:=B e et u m es x J (λb p=>l b (by
     simp only[DataW.weights,hu];exact IF _ (wT _ (d8 (GO.2 ⟨x,AAM c,rfl⟩) b p))))
    refine⟨d,⟨es,by rw[K,C],λj v T=>?_,g⟩,r⟩;have:=L j v T
    rwa [C1,C]at this
   have M:∃ds:List e.den,ds.length=len/\∀(i:Nat) (d:e.den),ds[i]?=some d->(∃es:List Value,es.length=e.size/\(∀(j:Nat) (v:Value),es[j]?=some v->w.cell? (a.add (i*e.size+j))=some v)/\B1 w (λ_=>False) e es d)/\pF e d:=by
    refine⟨(List.range len).pmap (λi hi=>Classical.choose (F i hi)) (λi hi=>oS.1 hi),sc,λi d g=>?_⟩;rw[List.getElem?_pmap]at g;simp only[Option.pmap_eq_some_iff]at g;obtain⟨j,h1,o,rfl⟩:=g;have S:j=i:=by
     obtain⟨Y,u⟩:=TO.1 o;simpa using u.symm
    subst S;exact Classical.choose_spec (F j h1)
   obtain⟨ds,D,E⟩:=M;refine⟨ds,⟨some a,cap,by rw[D],O1,O1,.inr ⟨a,rfl,λh=>h,λi d g=>(E i d g).1⟩⟩,by rw[D];exact V,λx c=>?_⟩;obtain⟨i,hi⟩:=List.getElem?_of_mem c;exact(E i x hi).2
  | agg s =>
   rcases A08 h with ⟨fs,hu,Q,hf⟩|⟨q,e,hu,Q,hf⟩
   .obtain⟨xs,m,rfl,rfl,U,z,A⟩:=DataW.trod_struct hu c;obtain⟨d,g,r⟩:=Sa (λty t y cs x c l=>B ty t y m cs x c l) cs s 0 fs.toList hf xs (by simpa using z) (λi f hi=>A i f (by simpa using hi)) (by
     simpa[DataW.weights,hu] using l)
    refine⟨d,?_,r⟩;show B1 w _ s cs d
    rwa [AAV,BY O1]at g
   obtain⟨xs,m,rfl,rfl,U,z,A⟩:=DataW.trod_array hu c;obtain⟨d,g,r⟩:=Sa (λty t y cs x c l=>B ty t y m cs x c l) cs s 0 (t7 P q e) hf xs (by simp[t7,z]) (λi f hi=>by
    unfold t7 at hi;rw[AAR]at hi;by_cases G:i<q
    .rw[ABF G]at hi;have hi:({ (default:Field) with offset:=i*P.cellsOf e,type:=e }:Field)=f:=by simpa using hi
     rw[<-hi];exact A i G
    .rw[oF (by simp;omega)]at hi;cases hi) (λb p=>l b (by
    simp only[DataW.weights,hu];unfold t7 at p;rw[List.range_eq_range']at p;exact X2 b p))
   refine⟨d,?_,r⟩;show B1 w _ s cs d
   rwa [AAV,BY O1]at g
  | prod a b=>simp[rd]at h
  | ref j=>simp[rd]at h
theorem A3Y {k:Nat} {ty:Ty} {t:TypeId} {v:Value} {r:Reach} {base:Nat} (h:rd P k ty t=true) (d:Value.okWide P w r base t v):v=ty.wrap v.cells.toList:=by
 cases k with
 | zero=>simp[rd]at h
 | succ k =>
  cases ty with
  | int q =>
   obtain⟨n,rfl⟩:=okWide_int (UR (by simpa only[rd] using h)) d;rfl
  | bool =>
   obtain⟨n,rfl⟩:=okWide_bool (pH h) d;rfl
  | str =>
   obtain⟨n,rfl⟩:=okWide_string (A07 h) d;rfl
  | slice e =>
   obtain⟨et,hu,_⟩:=d7 h;obtain⟨a,l,c,rfl⟩:=okWide_slice hu d;rfl
  | agg s =>
   rcases A08 h with ⟨fs,hu,_⟩|⟨q,e,hu,_⟩
   .obtain⟨cs,rfl,_⟩:=okWide_struct hu d;simp[Ty.wrap,Value.cells]
   simp only[Value.okWide,hu]at d;obtain⟨cs,rfl,_⟩:=d;simp[Ty.wrap,Value.cells]
  | prod a b=>simp[rd]at h
  | ref j=>simp[rd]at h
def Ng (P:Program):List Ty->List TypeId->Bool
 | [],[]=>true
 | ty :: a,t :: ts=>rd P 50 ty t&&P.readableRec t&&decide (t<P.types.size)&&Ng P a ts
 | _,_=>false
theorem d9 {r:Reach} {base:Nat}:∀(a:List Ty) (ts:List TypeId) (c:List Value) (ds:List (DataW H)) (p:List MemPlace),Ng P a ts=true->DataW.TrodAll enc P w 0 spare held ts c ds p ->
  (∀(j:Nat) (t:TypeId) (v:Value),ts[j]?=some t->c[j]?=some v->Value.okWide P w r base t v)->(∀b∈DataW.weightsEach P ts ds,b<=reachBytes)->∃xs:IT a,PQ w (λ_=>False) a c xs/\SzA a xs
 | [],[],c,ds,p,_,h,_,_=>by
  obtain⟨rfl,_,_⟩:=trodAll_nil h;exact⟨(),rfl,trivial⟩
 | ty :: a,t :: ts,c,ds,p,g,h,i,e=>by
  simp only[Ng,AT]at g;obtain⟨⟨⟨h1,_⟩,_⟩,m⟩:=g;obtain⟨v,k,d,l,E,B,rfl,rfl,rfl,⟨n,o⟩,q⟩:=trodAll_cons h;simp only[DataW.weightsEach,If]at e;obtain⟨x,u,z⟩:=A09 50 ty t h1 n _ _ o (λb f=>e b (.inl f));obtain⟨xs,y,A⟩:=d9 a ts k l B m q (λj C D ht s=>i (j+1) C D ht s) (λb f=>e b (.inr f));exact⟨(x,xs),⟨v,k,rfl,⟨_,u,A3Y h1 (i 0 t v rfl rfl)⟩,y⟩,z,A⟩
 | [],_ :: _,_,_,_,h,_,_,_=>by simp[Ng]at h
 | _ :: _,[],_,_,_,h,_,_,_=>by simp[Ng]at h
theorem X3 (i:laidOutB P=true) {W f:World} (g:Below W.heap.size W f):∀(e:List Ty) (ts:List TypeId) (a:List Value) (ds:List (DataW H)) (p:List MemPlace),Ng P e ts=true ->
  DataW.TrodAll enc P W 0 (λ_=>true) true ts a ds p->(∀x∈p,x.block<W.heap.size)->DataW.TrodAll enc P f 0 (λb=>decide (b<W.heap.size)) true ts a ds p
 | [],[],a,ds,p,_,h,_=>by
  obtain⟨rfl,rfl,rfl⟩:=trodAll_nil h;rfl
 | ty :: e,t :: ts,a,ds,p,k,h,j=>by
  simp only[Ng,AT,IN]at k;obtain⟨⟨⟨_,h1⟩,n⟩,o⟩:=k;obtain⟨v,u,d,m,s,l,rfl,rfl,rfl,q,r⟩:=trodAll_cons h;exact⟨s,l,Below.trod i h1 n q g (λx c=>j x (wT _ c)),X3 i g e ts u m l o r (λx c=>j x (AAZ _ c)),rfl⟩
 | [],_ :: _,_,_,_,h,_,_=>by simp[Ng]at h
 | _ :: _,[],_,_,_,h,_,_=>by simp[Ng]at h
end
theorem A0a {O:Nat->Prop} {u:Value} {w':World} (h:xL w O [.p .bool true] u w'):u=.bool true/\Below w.heap.size w w':=by
 obtain⟨ρ',a⟩:=h 0;refine⟨?_,a.below⟩;obtain⟨cs,h1,b⟩:BX _ _ .bool u true:=a.av;have h1:cs=[.bool true]:=h1;rw[b,h1];rfl
theorem A0b {f:FuncId} {fn:Func} {sp:AZ} {s:ChangeSpec} {tb:TypeId} (L:Ac P f sp) (N:∀ds,SzA sp.ins ds->sp.pre ds) (M:∀ds,sp.out ds=[.p .bool true])
  (I:laidOutB P=true) (w:Ng P sp.ins fn.params.toList=true) (Q:fn.resultTypes=#[tb]) (E:P.underlying tb=some .bool) (y:s.vars=[])
  (hs:∀(H:Type) (ds:List (DataW H)),ds.length=fn.params.size->(s.fn H ds).results=[.lit (.bool true)]/\(s.fn H ds).args=ds/\(s.fn H ds).vars=[])
  {H:Type} {enc:TypeId×Value->H} {W:World} {args:Array Value} {ds m:List (DataW H)} {z:List MemPlace} {Y:List TypeId}
  (T:∀(j:Nat) t v,fn.params[j]?=some t->args[j]?=some v->Value.okWide P W .any n t v)
  (o:DataW.Whole enc P fn.params.toList s.vars false W args.toList ds m z)
  (R:(DataW.weightsEach P (fn.params.toList++Y) (ds++m)).all (·<=reachBytes)=true) (G:GW W (λb=>b<W.heap.size) λ_=>False:=by intro x i;cases i) :
  Calls P f args W λe l=>∃v,e=.returned v/\s.post enc P fn false true false false W args v l:=by
 have r:=o;obtain⟨p,q,c,base,rfl,aa,ab⟩:=o;rw[y]at base;obtain⟨rfl,rfl⟩:=trodVars_none base;obtain⟨xs,U,V⟩:=d9 sp.ins fn.params.toList args.toList ds p w c (λj t v ht S=>T j t v (by simpa using ht) (by simpa using S))
  (λb a=>by simpa using No.1 R b (X0 b a))
 have K:∀x∈p,x.block<W.heap.size:=λx i=>by simpa using r.lt x (wT _ i)
 have J:ds.length=fn.params.size:=by
  have:∀(ts:List TypeId) (k:List Value) (ds:List (DataW H)) (p:List MemPlace),DataW.TrodAll enc P W 0 (λ_=>true) true ts k ds p->ds.length=ts.length:=by
   intro ts;induction ts with
   | nil=>intro k ds p h;obtain⟨_,rfl,_⟩:=trodAll_nil h;rfl
   | cons t ts X=>intro k ds p h;obtain⟨v,af,d,Z,ad,ae,rfl,rfl,rfl,_,O⟩:=trodAll_cons h;simp[X _ _ _ O]
  simpa using this _ _ _ _ c
 have g:=L.2 W (λ_=>False) args.toList xs (λ_ h=>h.elim) G U (N xs V);rw[M]at g;have D:args.toList.toArray=args:=by simp
 rw[D]at g;refine g.mono λe l ⟨u,F,hu⟩=>?_;obtain⟨rfl,a⟩:=A0a hu;obtain⟨A,B,C⟩:=hs H (ds++[]) (by simpa using J);refine⟨_,F,_,_,_,[],p,[],r,?_,?_,?_,a.frame _,λh=>by cases h⟩
 .rw[A,Q];exact trodAll_mk1 (shut_bool E _)
 .rw[B,AAu];exact X3 I a sp.ins _ _ _ _ w c K
 rw[C,y];rfl
end
end Go.Proofs.YtglkoagnnnpimaaGreatDoor.Fw
