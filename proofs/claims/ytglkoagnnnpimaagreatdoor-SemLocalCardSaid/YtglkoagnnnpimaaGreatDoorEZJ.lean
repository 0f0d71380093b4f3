/- This program's types; a slice compared with nil; from a contract to the given statement. -/
import Derived.Test.YtglkoagnnnpimaaGreatDoorEZI
import Derived.Test.YtglkoagnnnpimaaGreatDoorChecked
import Derived.Laws.Cover3
import Derived.Carry
import Derived.SizedLaws
import Derived.OpenShut
set_option linter.unusedVariables false
set_option linter.unusedSimpArgs false
namespace Go.Proofs.YtglkoagnnnpimaaGreatDoor.Fw
variable {t:TypeId} {P:Program} {n:Nat} {w:World}
section
abbrev T1:Ty:=.ref 1
abbrev T2:Ty:=.int .i64
abbrev T3:Ty:=.int .i64
abbrev T4:Ty:=.bool
abbrev T5:Ty:=.int .u8
abbrev T9:Ty:=.str
abbrev T21:Ty:=.int .i32
abbrev C3:Ty:=.int .i64
abbrev Cj:Ty:=.slice T9
abbrev C4:Ty:=.agg (.prod T3 (T3))
abbrev T72:Ty:=.agg (.prod T9 (T9))
abbrev T78:Ty:=.ref 0
abbrev T79:Ty:=.ref 2
abbrev T91:Ty:=.agg (.prod T9 (T3))
abbrev T93:Ty:=.agg (.prod T3 (T3))
abbrev T96:Ty:=.ref 0
abbrev CH:Ty:=.slice T3
abbrev XC:Ty:=.agg (.prod T9 (.prod T3 (.prod C3 (.prod Cj (Cj)))))
abbrev A9p:Ty:=.ref 1
abbrev yV:Ty:=.agg (.prod T3 (T3))
abbrev A9q:Ty:=.ref 1
abbrev A9r:Ty:=.ref 0
abbrev yW:Ty:=.agg (.prod T9 (T3))
abbrev A9s:Ty:=.ref 0
abbrev A9t:Ty:=.ref 1
abbrev kQ:Ty:=.agg (.prod T9 (T9))
abbrev Q6:Ty:=.int .u64
abbrev A9u:Ty:=.ref 2
abbrev A9v:Ty:=.ref 1
abbrev A9w:Ty:=.ref 1
abbrev A9x:Ty:=.ref 1
abbrev A75:Ty:=.ref 3
abbrev A9y:Ty:=.agg (T9)
abbrev A9z:Ty:=.agg (T9)
abbrev A9A:Ty:=.ref 1
abbrev A9B:Ty:=.ref 1
abbrev A9C:Ty:=.int .u64
abbrev A9D:Ty:=.ref 1
abbrev A9E:Ty:=.int .i64
abbrev A9F:Ty:=.int .u32
abbrev A9G:Ty:=.int .u64
abbrev A9H:Ty:=.ref 0
abbrev A9I:Ty:=.ref 0
abbrev TW:Ty:=.slice yW
abbrev Ot:Ty:=.slice T93
abbrev T52:Ty:=.slice T91
abbrev T54:Ty:=.agg (.prod T9 (.prod T3 (T52)))
abbrev L5:Ty:=.slice C4
abbrev TX:Ty:=.agg (.prod T3 (L5))
abbrev T63:Ty:=.slice kQ
abbrev yX:Ty:=.agg (.prod T9 (.prod Cj (T63)))
abbrev T71:Ty:=.slice T72
abbrev Ba:Ty:=.slice Q6
abbrev XD:Ty:=.slice yV
abbrev kR:Ty:=.agg (.prod T9 (.prod Ba (.prod CH (XD))))
abbrev A3X:Ty:=.slice XD
abbrev Zf:Ty:=.agg (.prod T9 (Ba))
abbrev Sv:Ty:=.slice Ba
abbrev Q7:Ty:=.slice A75
abbrev Ez:Ty:=.slice yX
abbrev SM:Ty:=.slice kR
abbrev GH:Ty:=.agg (.prod SM (TW))
abbrev J1:Ty:=.slice TX
abbrev Ff:Ty:=.agg (J1)
abbrev NF:Ty:=.slice T54
abbrev oZ:Ty:=.agg (.prod T3 (.prod T3 (.prod Cj (.prod NF (Ot)))))
abbrev T81:Ty:=.agg (.prod GH (.prod Ff (.prod T79 (oZ))))
abbrev T98:Ty:=.agg (.prod GH (Ff))
abbrev Jg:Ty:=.slice Zf
abbrev A9J:Ty:=.agg (.prod GH (.prod CH (CH)))
abbrev A9K:Ty:=.agg (.prod Ff (.prod CH (CH)))
abbrev dX:Ty:=.agg (.prod GH (.prod T3 (.prod T3 (.prod T3 (.prod T3 (.prod T3 (.prod T3 (.prod T3 (T3)))))))))
set_option maxRecDepth 100000
def Ax:List (Nat×TI):=[(1,⟨T1,[],0,8⟩),
 (2,⟨T2,[],0,8⟩),
 (3,⟨T3,[],0,8⟩),
 (4,⟨T4,[],0,1⟩),
 (5,⟨T5,[],0,1⟩),
 (9,⟨T9,[],0,16⟩),
 (21,⟨T21,[],0,4⟩),
 (22,⟨Ez,[],65,24⟩),
 (23,⟨SM,[],114,24⟩),
 (24,⟨TW,[],172,24⟩),
 (26,⟨GH,[(0,1),(1,1)],0,48⟩),
 (32,⟨J1,[],57,24⟩),
 (34,⟨Ff,[(0,1)],0,24⟩),
 (35,⟨C3,[],0,8⟩),
 (37,⟨Cj,[],9,24⟩),
 (38,⟨NF,[],54,24⟩),
 (39,⟨Ot,[],93,24⟩),
 (41,⟨oZ,[(0,1),(1,1),(2,1),(3,1),(4,1)],0,88⟩),
 (52,⟨T52,[],91,24⟩),
 (54,⟨T54,[(0,1),(1,1),(2,1)],0,48⟩),
 (55,⟨L5,[],59,24⟩),
 (57,⟨TX,[(0,1),(1,1)],0,32⟩),
 (59,⟨C4,[(0,1),(1,1)],0,16⟩),
 (63,⟨T63,[],196,24⟩),
 (65,⟨yX,[(0,1),(1,1),(2,1)],0,64⟩),
 (71,⟨T71,[],72,24⟩),
 (72,⟨T72,[(0,1),(1,1)],9,32⟩),
 (78,⟨T78,[],0,8⟩),
 (79,⟨T79,[(3,3)],0,8⟩),
 (81,⟨T81,[(0,2),(2,1),(3,1),(4,5)],0,168⟩),
 (91,⟨T91,[(0,1),(1,1)],0,24⟩),
 (93,⟨T93,[(0,1),(1,1)],0,16⟩),
 (96,⟨T96,[],0,8⟩),
 (98,⟨T98,[(0,2),(2,1)],0,72⟩),
 (101,⟨CH,[],3,24⟩),
 (111,⟨Ba,[],205,24⟩),
 (112,⟨XD,[],149,24⟩),
 (114,⟨kR,[(0,1),(1,1),(2,1),(3,1)],0,88⟩),
 (120,⟨A3X,[],112,24⟩),
 (123,⟨Jg,[],127,24⟩),
 (127,⟨Zf,[(0,1),(1,1)],0,40⟩),
 (133,⟨XC,[(0,1),(1,1),(2,1),(3,1),(4,1)],0,80⟩),
 (146,⟨A9p,[],0,8⟩),
 (149,⟨yV,[(0,1),(1,1)],0,16⟩),
 (154,⟨A9q,[],0,8⟩),
 (161,⟨A9r,[],0,8⟩),
 (163,⟨A9J,[(0,2),(2,1),(3,1)],0,96⟩),
 (172,⟨yW,[(0,1),(1,1)],0,24⟩),
 (173,⟨A9s,[],0,8⟩),
 (175,⟨A9K,[(0,1),(1,1),(2,1)],0,72⟩),
 (176,⟨A9t,[],0,8⟩),
 (186,⟨Sv,[],111,24⟩),
 (196,⟨kQ,[(0,1),(1,1)],0,32⟩),
 (205,⟨Q6,[],0,8⟩),
 (215,⟨A9u,[(3,4)],0,8⟩),
 (217,⟨A9v,[],0,8⟩),
 (218,⟨A9w,[],0,8⟩),
 (220,⟨A9x,[],0,8⟩),
 (236,⟨Q7,[],239,24⟩),
 (239,⟨A75,[],0,16⟩),
 (241,⟨A9y,[(0,1)],0,16⟩),
 (244,⟨A9z,[(0,1)],0,16⟩),
 (248,⟨dX,[(0,2),(2,1),(3,1),(4,1),(5,1),(6,1),(7,1),(8,1),(9,1)],0,112⟩),
 (252,⟨A9A,[],0,8⟩),
 (258,⟨A9B,[],0,8⟩),
 (263,⟨A9C,[],0,8⟩),
 (270,⟨A9D,[],0,8⟩),
 (272,⟨A9E,[],0,8⟩),
 (279,⟨A9F,[],0,4⟩),
 (281,⟨A9G,[],0,8⟩),
 (285,⟨A9H,[],0,8⟩),
 (287,⟨A9I,[],0,8⟩)]
theorem tyTab_ok (f) (a:List Nat) (b:List Nat:=[]) (ne:List (Nat×TypeId):=[]):C7 Tryz.prog ⟨Ax,f,b,ne,a⟩:=A3e a5
theorem drawsAny:Tryz.prog.follows .mixedOrders=true:=by kernel_rfl
theorem ty1:lk 1 Ax=some ⟨T1,[],0,8⟩:=rfl
theorem ty2:lk 2 Ax=some ⟨T2,[],0,8⟩:=rfl
theorem ty3:lk 3 Ax=some ⟨T3,[],0,8⟩:=rfl
theorem ty4:lk 4 Ax=some ⟨T4,[],0,1⟩:=rfl
theorem ty5:lk 5 Ax=some ⟨T5,[],0,1⟩:=rfl
theorem ty9:lk 9 Ax=some ⟨T9,[],0,16⟩:=rfl
theorem A77:lk 21 Ax=some ⟨T21,[],0,4⟩:=rfl
theorem A78:lk 22 Ax=some ⟨Ez,[],65,24⟩:=rfl
theorem A79:lk 23 Ax=some ⟨SM,[],114,24⟩:=rfl
theorem A7a:lk 24 Ax=some ⟨TW,[],172,24⟩:=rfl
theorem A7b:lk 26 Ax=some ⟨GH,[(0,1),(1,1)],0,48⟩:=rfl
theorem A7c:lk 32 Ax=some ⟨J1,[],57,24⟩:=rfl
theorem A7d:lk 34 Ax=some ⟨Ff,[(0,1)],0,24⟩:=rfl
theorem A7e:lk 35 Ax=some ⟨C3,[],0,8⟩:=rfl
theorem A7f:lk 37 Ax=some ⟨Cj,[],9,24⟩:=rfl
theorem A7g:lk 38 Ax=some ⟨NF,[],54,24⟩:=rfl
theorem A7h:lk 39 Ax=some ⟨Ot,[],93,24⟩:=rfl
theorem A7i:lk 41 Ax=some ⟨oZ,[(0,1),(1,1),(2,1),(3,1),(4,1)],0,88⟩:=rfl
theorem A7j:lk 52 Ax=some ⟨T52,[],91,24⟩:=rfl
theorem A7k:lk 54 Ax=some ⟨T54,[(0,1),(1,1),(2,1)],0,48⟩:=rfl
theorem A7l:lk 55 Ax=some ⟨L5,[],59,24⟩:=rfl
theorem A7m:lk 57 Ax=some ⟨TX,[(0,1),(1,1)],0,32⟩:=rfl
theorem A7n:lk 59 Ax=some ⟨C4,[(0,1),(1,1)],0,16⟩:=rfl
theorem A7o:lk 63 Ax=some ⟨T63,[],196,24⟩:=rfl
theorem A7p:lk 65 Ax=some ⟨yX,[(0,1),(1,1),(2,1)],0,64⟩:=rfl
theorem A7q:lk 71 Ax=some ⟨T71,[],72,24⟩:=rfl
theorem A7r:lk 72 Ax=some ⟨T72,[(0,1),(1,1)],9,32⟩:=rfl
theorem A7s:lk 78 Ax=some ⟨T78,[],0,8⟩:=rfl
theorem A7t:lk 79 Ax=some ⟨T79,[(3,3)],0,8⟩:=rfl
theorem A7u:lk 81 Ax=some ⟨T81,[(0,2),(2,1),(3,1),(4,5)],0,168⟩:=rfl
theorem A7v:lk 91 Ax=some ⟨T91,[(0,1),(1,1)],0,24⟩:=rfl
theorem A7w:lk 93 Ax=some ⟨T93,[(0,1),(1,1)],0,16⟩:=rfl
theorem A7x:lk 96 Ax=some ⟨T96,[],0,8⟩:=rfl
theorem A7y:lk 98 Ax=some ⟨T98,[(0,2),(2,1)],0,72⟩:=rfl
theorem yY:lk 101 Ax=some ⟨CH,[],3,24⟩:=rfl
theorem yZ:lk 111 Ax=some ⟨Ba,[],205,24⟩:=rfl
theorem y3:lk 112 Ax=some ⟨XD,[],149,24⟩:=rfl
theorem y4:lk 114 Ax=some ⟨kR,[(0,1),(1,1),(2,1),(3,1)],0,88⟩:=rfl
theorem y5:lk 120 Ax=some ⟨A3X,[],112,24⟩:=rfl
theorem y6:lk 123 Ax=some ⟨Jg,[],127,24⟩:=rfl
theorem y7:lk 127 Ax=some ⟨Zf,[(0,1),(1,1)],0,40⟩:=rfl
theorem y8:lk 133 Ax=some ⟨XC,[(0,1),(1,1),(2,1),(3,1),(4,1)],0,80⟩:=rfl
theorem y9:lk 146 Ax=some ⟨A9p,[],0,8⟩:=rfl
theorem zA:lk 149 Ax=some ⟨yV,[(0,1),(1,1)],0,16⟩:=rfl
theorem zB:lk 154 Ax=some ⟨A9q,[],0,8⟩:=rfl
theorem zC:lk 161 Ax=some ⟨A9r,[],0,8⟩:=rfl
theorem zD:lk 163 Ax=some ⟨A9J,[(0,2),(2,1),(3,1)],0,96⟩:=rfl
theorem zE:lk 172 Ax=some ⟨yW,[(0,1),(1,1)],0,24⟩:=rfl
theorem zF:lk 173 Ax=some ⟨A9s,[],0,8⟩:=rfl
theorem zG:lk 175 Ax=some ⟨A9K,[(0,1),(1,1),(2,1)],0,72⟩:=rfl
theorem zH:lk 176 Ax=some ⟨A9t,[],0,8⟩:=rfl
theorem zI:lk 186 Ax=some ⟨Sv,[],111,24⟩:=rfl
theorem zJ:lk 196 Ax=some ⟨kQ,[(0,1),(1,1)],0,32⟩:=rfl
theorem zK:lk 205 Ax=some ⟨Q6,[],0,8⟩:=rfl
theorem zL:lk 215 Ax=some ⟨A9u,[(3,4)],0,8⟩:=rfl
theorem zN:lk 217 Ax=some ⟨A9v,[],0,8⟩:=rfl
theorem zO:lk 218 Ax=some ⟨A9w,[],0,8⟩:=rfl
theorem zP:lk 220 Ax=some ⟨A9x,[],0,8⟩:=rfl
theorem zQ:lk 236 Ax=some ⟨Q7,[],239,24⟩:=rfl
theorem zR:lk 239 Ax=some ⟨A75,[],0,16⟩:=rfl
theorem zS:lk 241 Ax=some ⟨A9y,[(0,1)],0,16⟩:=rfl
theorem zT:lk 244 Ax=some ⟨A9z,[(0,1)],0,16⟩:=rfl
theorem zU:lk 248 Ax=some ⟨dX,[(0,2),(2,1),(3,1),(4,1),(5,1),(6,1),(7,1),(8,1),(9,1)],0,112⟩:=rfl
theorem zV:lk 252 Ax=some ⟨A9A,[],0,8⟩:=rfl
theorem zW:lk 258 Ax=some ⟨A9B,[],0,8⟩:=rfl
theorem zX:lk 263 Ax=some ⟨A9C,[],0,8⟩:=rfl
theorem zY:lk 270 Ax=some ⟨A9D,[],0,8⟩:=rfl
theorem zZ:lk 272 Ax=some ⟨A9E,[],0,8⟩:=rfl
theorem z0:lk 279 Ax=some ⟨A9F,[],0,4⟩:=rfl
theorem z4:lk 281 Ax=some ⟨A9G,[],0,8⟩:=rfl
theorem z5:lk 285 Ax=some ⟨A9H,[],0,8⟩:=rfl
theorem z6:lk 287 Ax=some ⟨A9I,[],0,8⟩:=rfl
end
section
open Go Go.RowKit
section
variable {c:Cx} {R:Exit->Act->World->Prop} {k:List Cl} {σ σ':St}
theorem tW {tb:Tb} {ti:TI} {e:Ty} (hT:D2 P tb t ti) (c:ti.ty=.slice e) (w:World) (a:Option Addr) (n m:Nat):(Op.equal t (.slice a n m) (.slice none 0 0)).run P w=.ok a.isNone w:=by
 have b:=hT.2;rw[c]at b;exact run_equal_slice_nil w t ti.el a n m b.1
def dY:Option TI->Bool
 | some ⟨.slice _,_,_,_⟩=>true
 | _=>false
theorem tX (g:c.Ok) {ops:Array Oper} {rest:List Oper} {d:Nat} {x:Operand} {q ty:TypeId} {pos:String} {after:Array Edge} {e:Ty} {l:List e.den} (neg:Bool)
  (F:Aj σ x=some (.p (.slice e) l)) (ht:dY (lk t c.tb.ty)=true) (hk:∀b:Bool,(b=true->l=[])->EE c R k ops rest (σ.add (.p .bool (if neg then !b else b)) [] (some d))) :
  EE c R k ops (⟨some d,.binOp (if neg then .neq else .eql) t x (.const (.slice none 0 0)) q,ty,pos,after,none⟩ :: rest) σ:=by
 intro j y a w E;obtain⟨ρ,n⟩:=E;have v:EY (vw w c.O0 σ ρ) σ a.eval:=Cg n.env;have G:=v x _ F;obtain⟨cs,⟨ad,m,rfl,h1,M,f⟩,i⟩:=G;have i:a.eval x=.slice ad (List.length l) m:=i;unfold dY at ht;split at ht
 .rename_i L offs el bytes z;have r:=g.T _ _ z;have heq:=tW r rfl w ad (List.length l) m;unfold wpListIn;rw[At (by simp[Region.wanted])];have C:(execOp a.eval ⟨some d,.binOp (if neg then .neq else .eql) t x (.const (.slice none 0 0)) q,ty,pos,after,none⟩).run c.P w=.ok (.value (.bool (if neg then !ad.isNone else ad.isNone))) w:=by
   have H:a.eval (.const (.slice none 0 0))=.slice none 0 0:=rfl;cases neg<;>simp[execOp,i,H,eqGuard,binOp,heq]
  refine Ah C ?_ (λcl h=>by cases neg<;>cases h);have s:ad.isNone=true->l=[]:=λhn=>by
   rcases f with f|⟨I,rfl,_⟩
   .exact f
   simp at hn
  have B:QS w c.O0 σ ρ (.p .bool (if neg then !ad.isNone else ad.isNone)) [] (.bool (if neg then !ad.isNone else ad.isNone)) ρ w:=QS.still (Bo _);have D:=n.add g.K g.O (dst:=some d) (λJ u=>by cases u;exact A7 (j _ f7) d rfl) rfl B;exact hk ad.isNone s (λo A=>j o (by simp[A])) y _ _ ⟨ρ,D⟩
 cases ht
end
end
section
open Go Go.RowKit Go.ChangeShapes Go.WideShapes
set_option maxRecDepth 100000
def Ty.bts:Ty->Nat
 | .int .i64=>8
 | .prod a b=>a.bts+b.bts
 | .agg t=>t.bts
 | _=>1
def o0:(t:Ty)->t.den->Prop
 | .slice e,d=>List.length d*e.bts<=reachBytes/\∀x∈(d:List e.den),o0 e x
 | .prod a b,d=>o0 a d.1/\o0 b d.2
 | .agg t,d=>o0 t d
 | _,_=>True
def SzA:(a:List Ty)->IV a->Prop
 | [],_=>True
 | ty :: a,xs=>o0 ty xs.1/\SzA a xs.2
def o5 (r:Ty->TypeId->Bool) (P:Program):Ty->Nat->List Field->Bool
 | .prod a b,o,fs=>match fs with
  | f :: fs=>f.offset==o&&P.cellsOf f.type==a.size&&r a f.type&&o5 r P b (o+a.size) fs
  | []=>false
 | s,o,[f]=>f.offset==o&&P.cellsOf f.type==s.size&&r s f.type
 | _,_,_=>false
def tY (P:Program) (m:Nat) (e:TypeId):List Field:=(List.range m).map λi=>{ (default:Field) with offset:=i*P.cellsOf e,type:=e }
def rd (P:Program):Nat->Ty->TypeId->Bool
 | 0,_,_=>false
 | _+1,.int k,t=>isI k (P.underlying t)
 | _+1,.bool,t=>match P.underlying t with|some .bool=>true|_=>false
 | _+1,.str,t=>match P.underlying t with|some .string=>true|_=>false
 | n+1,.slice e,t=>match P.underlying t with|some (.slice et)=>decide (0<P.bytesOf et)&&decide (e.bts<=P.bytesOf et)&&P.cellsOf et==e.size&&rd P n e et|_=>false
 | n+1,.agg s,t=>match P.underlying t with|some (.struct fs)=>P.cellsOf t==s.size&&o5 (rd P n) P s 0 fs.toList|some (.array m e)=>P.cellsOf t==s.size&&o5 (rd P n) P s 0 (tY P m e)|_=>false
 | _+1,_,_=>false
theorem o6 (h:rd P (n+1) .bool t=true):P.underlying t=some .bool:=by
 simp only[rd]at h;split at h
 .assumption
 cases h
theorem z7 (h:rd P (n+1) .str t=true):P.underlying t=some .string:=by
 simp only[rd]at h;split at h
 .assumption
 cases h
theorem dZ {e:Ty} (h:rd P (n+1) (.slice e) t=true):∃et,P.underlying t=some (.slice et)/\(0<P.bytesOf et/\e.bts<=P.bytesOf et)/\P.cellsOf et=e.size/\rd P n e et=true:=by
 simp only[rd]at h;split at h
 .rename_i et hu;simp only[AT,If,AAh]at h;exact⟨et,hu,h.1.1,h.1.2,h.2⟩
 cases h
theorem z8 {s:Ty} (h:rd P (n+1) (.agg s) t=true):(∃fs,P.underlying t=some (.struct fs)/\P.cellsOf t=s.size/\o5 (rd P n) P s 0 fs.toList=true)\/∃m e,P.underlying t=some (.array m e)/\P.cellsOf t=s.size/\o5 (rd P n) P s 0 (tY P m e)=true:=by
 simp only[rd]at h;split at h
 .rename_i fs hu;simp only[AT,AAh]at h;exact .inl ⟨fs,hu,h.1,h.2⟩
 .rename_i m e hu;simp only[AT,AAh]at h;exact .inr ⟨m,e,hu,h.1,h.2⟩
 cases h
theorem Xu {base:Nat} {a:Addr} {n:Nat} {cs:List Value} (h:w.cells? base a n=some cs):cs.length=n/\∀(j:Nat) (v:Value),cs[j]?=some v->w.cell? (a.add j)=some v:=by
 unfold World.cells? at h;split at h
 .have h1:=mapM_some_length h;simp only[ACu]at h1;refine⟨h1,λj v b=>?_⟩;have c:j<n:=by
   obtain⟨c,_⟩:=TO.1 b;omega
  rw[mapM_some_get h j j (by simp[c]),b]
 cases h
section
variable {H:Type} {enc:TypeId×Value->H} {P:Program} {w:World} {spare:Nat->Bool} {held:Bool}
theorem d5 {e:TypeId}:∀ {l:List (DataW H)} {d:DataW H},d∈l->∀n∈d.weights P e,n∈DataW.weightsAll P e l
 | a :: l,d,b,n,hn=>by
  simp only[DataW.weightsAll,IN];rcases By.1 b with rfl|b
  .exact .inl hn
  exact .inr (d5 b n hn)
 | [],_,b,_,_=>by cases b
theorem Xv {b:List TypeId} {a:List (DataW H)}:∀ {ts:List TypeId} {ds:List (DataW H)},∀n∈DataW.weightsEach P ts ds,n∈DataW.weightsEach P (ts++b) (ds++a)
 | t :: ts,d :: ds,n,hn=>by
  simp only[DataW.weightsEach,To,IN]at hn ⊢;rcases hn with hn|hn
  .exact .inl hn
  exact .inr (Xv n hn)
 | [],_,n,hn=>by simp[DataW.weightsEach]at hn
 | _ :: _,[],n,hn=>by simp[DataW.weightsEach]at hn
theorem Xw {e:TypeId}:∀ {m:Nat} {k:Nat} {ds:List (DataW H)},∀n∈DataW.weightsEach P (((List.range' k m).map λi=>({ (default:Field) with offset:=i*P.cellsOf e,type:=e }:Field)).map (·.type)) ds,n∈DataW.weightsAll P e ds
 | 0,_,ds,n,hn=>by simp[DataW.weightsEach]at hn
 | m+1,k,[],n,hn=>by
  rw[AD7]at hn;simp[DataW.weightsEach]at hn
 | m+1,k,d :: ds,n,hn=>by
  rw[AD7]at hn;simp only[oR,DataW.weightsEach,IN]at hn;simp only[DataW.weightsAll,IN];rcases hn with hn|hn
  .exact .inl hn
  exact .inr (Xw n hn)
theorem SN {n:Nat} {r:Ty->TypeId->Bool}
  (A:∀ty t,r ty t=true->∀(cs:List Value) (x:DataW H×List MemPlace),DataW.trod enc P w 0 spare held n t cs=some x->(∀b∈x.1.weights P t,b<=reachBytes)->∃d:ty.den,Bw w (λ_=>False) ty cs d/\o0 ty d) (cs:List Value) :
  ∀(s:Ty) (o:Nat) (fs:List Field),o5 r P s o fs=true->∀xs:List (DataW H×List MemPlace),xs.length=fs.length ->
   (∀(i:Nat) (f:Field),fs[i]?=some f->DataW.trod enc P w 0 spare held n f.type ((cs.drop f.offset).take (P.cellsOf f.type))=xs[i]?) ->
   (∀b∈DataW.weightsEach P (fs.map (·.type)) (xs.map (·.1)),b<=reachBytes)->∃d:s.den,Bw w (λ_=>False) s ((cs.drop o).take s.size) d/\o0 s d:=by
 have one:∀(s:Ty) (o:Nat) (f:Field),(f.offset==o&&P.cellsOf f.type==s.size&&r s f.type)=true->∀x:DataW H×List MemPlace,
   DataW.trod enc P w 0 spare held n f.type ((cs.drop f.offset).take (P.cellsOf f.type))=some x ->
   (∀b∈x.1.weights P f.type,b<=reachBytes)->∃d:s.den,Bw w (λ_=>False) s ((cs.drop o).take s.size) d/\o0 s d:=by
  intro s o f h x j c;simp only[AT,AAh]at h;obtain⟨⟨rfl,p⟩,q⟩:=h;rw[<-p];exact A s f.type q _ x j c
 have lone:∀(s:Ty) (o:Nat) (f:Field),(f.offset==o&&P.cellsOf f.type==s.size&&r s f.type)=true->∀xs:List (DataW H×List MemPlace),xs.length=[f].length ->
   (∀(i:Nat) (g:Field),[f][i]?=some g->DataW.trod enc P w 0 spare held n g.type ((cs.drop g.offset).take (P.cellsOf g.type))=xs[i]?) ->
   (∀b∈DataW.weightsEach P ([f].map (·.type)) (xs.map (·.1)),b<=reachBytes)->∃d:s.den,Bw w (λ_=>False) s ((cs.drop o).take s.size) d/\o0 s d:=by
  intro s o f h xs m j c;obtain⟨x,rfl⟩:∃x,xs=[x]:=ABg.1 (by simpa using m);exact one s o f h x (j 0 f rfl) (λb l=>c b (by simp[DataW.weightsEach,l]))
 intro s;induction s with
 | prod a b G B =>
  intro o fs h xs m j c;cases fs with
  | nil=>simp[o5]at h
  | cons f fs =>
   simp only[o5,AT]at h;obtain⟨⟨⟨h1,p⟩,q⟩,y⟩:=h;obtain⟨x,ys,rfl⟩:∃x ys,xs=x :: ys:=List.exists_cons_of_ne_nil (by intro h;subst h;simp at m);obtain⟨u,C,E⟩:=one a o f (by simp only[h1,p,q,Bool.and_self]) x (j 0 f rfl) (λb l=>c b (by
     simp only[oR,DataW.weightsEach,IN];exact .inl l))
   obtain⟨v,D,F⟩:=B (o+a.size) fs y ys (by simpa using m) (λi g z=>j (i+1) g z) (λb l=>c b (by
     simp only[oR,DataW.weightsEach,IN];exact .inr l))
   refine⟨(u,v),⟨(cs.drop o).take a.size,(cs.drop (o+a.size)).take b.size,?_,C,D⟩,E,F⟩;show (cs.drop o).take (a.size+b.size)=_;rw[List.take_add,ACd]
 | int k=>intro o fs h;match fs,h with|[f],h=>exact lone _ o f (by simpa only[o5] using h)
 | bool=>intro o fs h;match fs,h with|[f],h=>exact lone _ o f (by simpa only[o5] using h)
 | str=>intro o fs h;match fs,h with|[f],h=>exact lone _ o f (by simpa only[o5] using h)
 | slice e _=>intro o fs h;match fs,h with|[f],h=>exact lone _ o f (by simpa only[o5] using h)
 | agg t _=>intro o fs h;match fs,h with|[f],h=>exact lone _ o f (by simpa only[o5] using h)
 | ref k=>intro o fs h;match fs,h with|[f],h=>exact lone _ o f (by simpa only[o5] using h)
theorem z9:∀(k:Nat) (ty:Ty) (t:TypeId),rd P k ty t=true->∀(n:Nat) (cs:List Value) (x:DataW H×List MemPlace),
  DataW.trod enc P w 0 spare held n t cs=some x->(∀b∈x.1.weights P t,b<=reachBytes)->∃d:ty.den,Bw w (λ_=>False) ty cs d/\o0 ty d:=by
 intro k;induction k with
 | zero=>intro ty t h;simp[rd]at h
 | succ k B =>
  intro ty t h n cs x c l;cases ty with
  | int q =>
   have hu:=UH (by simpa only[rd] using h);obtain⟨m,rfl,rfl,I⟩:=DataW.trod_int hu c;simp only[Lit.wf,AT,If]at I;exact⟨m,⟨rfl,I⟩,trivial⟩
  | bool =>
   obtain⟨b,rfl,rfl⟩:=DataW.trod_bool (o6 h) c;exact⟨b,rfl,trivial⟩
  | str =>
   obtain⟨b,rfl,rfl,_⟩:=DataW.trod_string (z7 h) c;refine⟨b,⟨rfl,?_⟩,trivial⟩;have:=l b.data.toList.length (by simp only[DataW.weights];exact f7);have o:b.data.toList.length=b.size:=ACK;simp only[reachBytes]at this;simp only[AP];omega
  | slice e =>
   obtain⟨et,hu,⟨N,O⟩,C,u⟩:=dZ h;rcases DataW.trod_slice hu c with ⟨rfl,rfl⟩|⟨a,len,cap,elems,rest,m,rfl,rfl,rfl,-,W,-,X,R,-,-⟩
   .exact⟨[],⟨none,0,rfl,OS _,GO _,.inl rfl⟩,by simp[o0,reachBytes]⟩
   have Z:len<=AP:=by
    have h1:=l ((elems.length+rest.length)*P.bytesOf et) (by simp only[DataW.weights,hu,On];exact f7);have o:elems.length+rest.length<=(elems.length+rest.length)*P.bytesOf et:=Nat.le_mul_of_pos_right _ N;simp only[reachBytes]at h1;simp only[AP];omega
   have V:len*e.bts<=reachBytes:=by
    have h1:=l ((elems.length+rest.length)*P.bytesOf et) (by simp only[DataW.weights,hu,On];exact f7);exact aS (Nat.mul_le_mul O1 O) h1
   have F:∀i,i<len->∃d:e.den,(∃es:List Value,es.length=e.size/\(∀(j:Nat) (v:Value),es[j]?=some v->w.cell? (a.add (i*e.size+j))=some v)/\Bw w (λ_=>False) e es d)/\o0 e d:=by
    intro i hi;have h1:=R i hi;obtain⟨x,c⟩:∃x,elems[i]?=some x:=⟨_,As O1⟩;rw[c]at h1;obtain⟨es,o,J⟩:=Option.bind_eq_some_iff.1 h1;obtain⟨K,L⟩:=Xu o;obtain⟨d,g,r⟩:=B e et u m es x J (λb p=>l b (by
     simp only[DataW.weights,hu];exact IF _ (AAb _ (d5 (Do.2 ⟨x,AAO c,rfl⟩) b p))))
    refine⟨d,⟨es,by rw[K,C],λj v T=>?_,g⟩,r⟩;have:=L j v T
    rwa [Cu,C]at this
   have M:∃ds:List e.den,ds.length=len/\∀(i:Nat) (d:e.den),ds[i]?=some d->(∃es:List Value,es.length=e.size/\(∀(j:Nat) (v:Value),es[j]?=some v->w.cell? (a.add (i*e.size+j))=some v)/\Bw w (λ_=>False) e es d)/\o0 e d:=by
    refine⟨(List.range len).pmap (λi hi=>Classical.choose (F i hi)) (λi hi=>tO.1 hi),sc,λi d g=>?_⟩;rw[List.getElem?_pmap]at g;simp only[Option.pmap_eq_some_iff]at g;obtain⟨j,h1,o,rfl⟩:=g;have S:j=i:=by
     obtain⟨Y,u⟩:=TO.1 o;simpa using u.symm
    subst S;exact Classical.choose_spec (F j h1)
   obtain⟨ds,D,E⟩:=M;refine⟨ds,⟨some a,cap,by rw[D],O1,O1,.inr ⟨a,rfl,λh=>h,λi d g=>(E i d g).1⟩⟩,by rw[D];exact V,λx c=>?_⟩;obtain⟨i,hi⟩:=List.getElem?_of_mem c;exact(E i x hi).2
  | agg s =>
   rcases z8 h with ⟨fs,hu,Q,hf⟩|⟨q,e,hu,Q,hf⟩
   .obtain⟨xs,m,rfl,rfl,U,z,A⟩:=DataW.trod_struct hu c;obtain⟨d,g,r⟩:=SN (λty t y cs x c l=>B ty t y m cs x c l) cs s 0 fs.toList hf xs (by simpa using z) (λi f hi=>A i f (by simpa using hi)) (by
     simpa[DataW.weights,hu] using l)
    refine⟨d,?_,r⟩;show Bw w _ s cs d
    rwa [AB3,BY O1]at g
   obtain⟨xs,m,rfl,rfl,U,z,A⟩:=DataW.trod_array hu c;obtain⟨d,g,r⟩:=SN (λty t y cs x c l=>B ty t y m cs x c l) cs s 0 (tY P q e) hf xs (by simp[tY,z]) (λi f hi=>by
    unfold tY at hi;rw[AAV]at hi;by_cases G:i<q
    .rw[ABy G]at hi;have hi:({ (default:Field) with offset:=i*P.cellsOf e,type:=e }:Field)=f:=by simpa using hi
     rw[<-hi];exact A i G
    .rw[oN (by simp;omega)]at hi;cases hi) (λb p=>l b (by
    simp only[DataW.weights,hu];unfold tY at p;rw[List.range_eq_range']at p;exact Xw b p))
   refine⟨d,?_,r⟩;show Bw w _ s cs d
   rwa [AB3,BY O1]at g
  | prod a b=>simp[rd]at h
  | ref j=>simp[rd]at h
theorem A3Y {k:Nat} {ty:Ty} {t:TypeId} {v:Value} {r:Reach} {base:Nat} (h:rd P k ty t=true) (d:Value.okWide P w r base t v):v=ty.wrap v.cells.toList:=by
 cases k with
 | zero=>simp[rd]at h
 | succ k =>
  cases ty with
  | int q =>
   obtain⟨n,rfl⟩:=okWide_int (UH (by simpa only[rd] using h)) d;rfl
  | bool =>
   obtain⟨n,rfl⟩:=okWide_bool (o6 h) d;rfl
  | str =>
   obtain⟨n,rfl⟩:=okWide_string (z7 h) d;rfl
  | slice e =>
   obtain⟨et,hu,_⟩:=dZ h;obtain⟨a,l,c,rfl⟩:=okWide_slice hu d;rfl
  | agg s =>
   rcases z8 h with ⟨fs,hu,_⟩|⟨q,e,hu,_⟩
   .obtain⟨cs,rfl,_⟩:=okWide_struct hu d;simp[Ty.wrap,Value.cells]
   simp only[Value.okWide,hu]at d;obtain⟨cs,rfl,_⟩:=d;simp[Ty.wrap,Value.cells]
  | prod a b=>simp[rd]at h
  | ref j=>simp[rd]at h
def NU (P:Program):List Ty->List TypeId->Bool
 | [],[]=>true
 | ty :: a,t :: ts=>rd P 50 ty t&&P.readableRec t&&decide (t<P.types.size)&&NU P a ts
 | _,_=>false
theorem d6 {r:Reach} {base:Nat}:∀(a:List Ty) (ts:List TypeId) (c:List Value) (ds:List (DataW H)) (p:List MemPlace),NU P a ts=true->DataW.TrodAll enc P w 0 spare held ts c ds p ->
  (∀(j:Nat) (t:TypeId) (v:Value),ts[j]?=some t->c[j]?=some v->Value.okWide P w r base t v)->(∀b∈DataW.weightsEach P ts ds,b<=reachBytes)->∃xs:IV a,PC w (λ_=>False) a c xs/\SzA a xs
 | [],[],c,ds,p,_,h,_,_=>by
  obtain⟨rfl,_,_⟩:=trodAll_nil h;exact⟨(),rfl,trivial⟩
 | ty :: a,t :: ts,c,ds,p,g,h,i,e=>by
  simp only[NU,AT]at g;obtain⟨⟨⟨h1,_⟩,_⟩,m⟩:=g;obtain⟨v,k,d,l,E,B,rfl,rfl,rfl,⟨n,o⟩,q⟩:=trodAll_cons h;simp only[DataW.weightsEach,IN]at e;obtain⟨x,u,z⟩:=z9 50 ty t h1 n _ _ o (λb f=>e b (.inl f));obtain⟨xs,y,A⟩:=d6 a ts k l B m q (λj C D ht s=>i (j+1) C D ht s) (λb f=>e b (.inr f));exact⟨(x,xs),⟨v,k,rfl,⟨_,u,A3Y h1 (i 0 t v rfl rfl)⟩,y⟩,z,A⟩
 | [],_ :: _,_,_,_,h,_,_,_=>by simp[NU]at h
 | _ :: _,[],_,_,_,h,_,_,_=>by simp[NU]at h
theorem Xx (i:laidOutB P=true) {W f:World} (g:Below W.heap.size W f):∀(e:List Ty) (ts:List TypeId) (a:List Value) (ds:List (DataW H)) (p:List MemPlace),NU P e ts=true ->
  DataW.TrodAll enc P W 0 (λ_=>true) true ts a ds p->(∀x∈p,x.block<W.heap.size)->DataW.TrodAll enc P f 0 (λb=>decide (b<W.heap.size)) true ts a ds p
 | [],[],a,ds,p,_,h,_=>by
  obtain⟨rfl,rfl,rfl⟩:=trodAll_nil h;rfl
 | ty :: e,t :: ts,a,ds,p,k,h,j=>by
  simp only[NU,AT,If]at k;obtain⟨⟨⟨_,h1⟩,n⟩,o⟩:=k;obtain⟨v,u,d,m,s,l,rfl,rfl,rfl,q,r⟩:=trodAll_cons h;exact⟨s,l,Below.trod i h1 n q g (λx c=>j x (AAb _ c)),Xx i g e ts u m l o r (λx c=>j x (AB7 _ c)),rfl⟩
 | [],_ :: _,_,_,_,h,_,_=>by simp[NU]at h
 | _ :: _,[],_,_,_,h,_,_=>by simp[NU]at h
end
theorem A00 {O:Nat->Prop} {u:Value} {w':World} (h:xC w O [.p .bool true] u w'):u=.bool true/\Below w.heap.size w w':=by
 obtain⟨ρ',a⟩:=h 0;refine⟨?_,a.below⟩;obtain⟨cs,h1,b⟩:BX _ _ .bool u true:=a.av;have h1:cs=[.bool true]:=h1;rw[b,h1];rfl
theorem A01 {f:FuncId} {fn:Func} {sp:Ab} {s:ChangeSpec} {tb:TypeId} (L:Af P f sp) (N:∀ds,SzA sp.ins ds->sp.pre ds) (M:∀ds,sp.out ds=[.p .bool true])
  (I:laidOutB P=true) (w:NU P sp.ins fn.params.toList=true) (Q:fn.resultTypes=#[tb]) (E:P.underlying tb=some .bool) (y:s.vars=[])
  (hs:∀(H:Type) (ds:List (DataW H)),ds.length=fn.params.size->(s.fn H ds).results=[.lit (.bool true)]/\(s.fn H ds).args=ds/\(s.fn H ds).vars=[])
  {H:Type} {enc:TypeId×Value->H} {W:World} {args:Array Value} {ds m:List (DataW H)} {z:List MemPlace} {Y:List TypeId}
  (T:∀(j:Nat) t v,fn.params[j]?=some t->args[j]?=some v->Value.okWide P W .any n t v)
  (o:DataW.Whole enc P fn.params.toList s.vars false W args.toList ds m z)
  (R:(DataW.weightsEach P (fn.params.toList++Y) (ds++m)).all (·<=reachBytes)=true) (G:GW W (λb=>b<W.heap.size) λ_=>False:=by intro x i;cases i) :
  Calls P f args W λe l=>∃v,e=.returned v/\s.post enc P fn false true false false W args v l:=by
 have r:=o;obtain⟨p,q,c,base,rfl,aa,ab⟩:=o;rw[y]at base;obtain⟨rfl,rfl⟩:=trodVars_none base;obtain⟨xs,U,V⟩:=d6 sp.ins fn.params.toList args.toList ds p w c (λj t v ht S=>T j t v (by simpa using ht) (by simpa using S))
  (λb a=>by simpa using NO.1 R b (Xv b a))
 have K:∀x∈p,x.block<W.heap.size:=λx i=>by simpa using r.lt x (AAb _ i)
 have J:ds.length=fn.params.size:=by
  have:∀(ts:List TypeId) (k:List Value) (ds:List (DataW H)) (p:List MemPlace),DataW.TrodAll enc P W 0 (λ_=>true) true ts k ds p->ds.length=ts.length:=by
   intro ts;induction ts with
   | nil=>intro k ds p h;obtain⟨_,rfl,_⟩:=trodAll_nil h;rfl
   | cons t ts X=>intro k ds p h;obtain⟨v,af,d,Z,ad,ae,rfl,rfl,rfl,_,O⟩:=trodAll_cons h;simp[X _ _ _ O]
  simpa using this _ _ _ _ c
 have g:=L.2 W (λ_=>False) args.toList xs (λ_ h=>h.elim) G U (N xs V);rw[M]at g;have D:args.toList.toArray=args:=by simp
 rw[D]at g;refine g.mono λe l ⟨u,F,hu⟩=>?_;obtain⟨rfl,a⟩:=A00 hu;obtain⟨A,B,C⟩:=hs H (ds++[]) (by simpa using J);refine⟨_,F,_,_,_,[],p,[],r,?_,?_,?_,a.frame _,λh=>by cases h⟩
 .rw[A,Q];exact trodAll_mk1 (shut_bool E _)
 .rw[B,AAu];exact Xx I a sp.ins _ _ _ _ w c K
 rw[C,y];rfl
end
end Go.Proofs.YtglkoagnnnpimaaGreatDoor.Fw
