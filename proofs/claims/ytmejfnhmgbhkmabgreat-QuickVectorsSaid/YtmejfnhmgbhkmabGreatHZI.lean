/- Range over a function; scopes; several steps in one. -/
/- Range over a function: a call of yield; a round; the statement; the end of a function that holds one. -/
import Derived.Test.YtmejfnhmgbhkmabGreatHZH
import Derived.RangeFuncFrom
import Derived.Scope
import Derived.Laws.IdiomRangeMap
set_option linter.unusedVariables false
set_option linter.unusedSimpArgs false
namespace Go.Proofs.YtmejfnhmgbhkmabGreat.Fw
section
open Go Go.RowKit
theorem Yk {V:Vw} {f:FuncId} {ns:List Nat} {v:Value} (h:Br V (.clo f ns) v):v=.func (.func f) #[] (ns.map V.ρ).toArray∧IE V (ns.map fun n=>AV.bp n [] 0) (ns.map V.ρ):=by
 refine⟨h.1,?_⟩
 have h0:∀l:List Nat,(∀n∈l,n∈ns)→IE V (l.map fun n=>AV.bp n [] 0) (l.map V.ρ):=by
  intro l
  induction l with
  | nil=>intro _;exact rfl
  | cons n r ih =>
   intro hl
   obtain⟨g1,b,g2⟩:=h.2 n (hl n (by simp))
   exact⟨V.ρ n,r.map V.ρ,rfl,⟨g1,b,g2,g2⟩,ih fun x hx=>hl x (by simp[hx])⟩
 exact h0 ns fun _ h=>h
/-! ### A call of yield -/
def Yl (P:Program) (yn:Nat) (A:List AV) (objs:List (Nat×Obj)) (stay:List Nat) (post:AV→List (Nat×Obj)→Prop):Prop :=
 ∀(w:World) (K O0:Nat→Prop) (ρ:Nat→Value) (vs:List Value) (b:Nat),(∀b,K b→b<w.heap.size)→(∀b,O0 b→b<w.heap.size)→mZ K O0 objs ρ w→IE (vw w O0 ⟨[],objs⟩ ρ) A vs →
  ρ yn=.pointer (some ⟨b,0,none⟩)→YieldAt (FR none) 0 P b vs.toArray w fun e w'=>∃u,e=.returned u∧Nq K O0 stay w ρ post u w'
section
variable {c:Cx} {R:Exit→Act→World→Prop} {k:List DW} {σ:St}
def Wz (n:Nat):Option AV→Bool
 | some (.yl m)=>m==n
 | _=>false
theorem sK (hc:c.Ok) (hr0:c.r=none) {o:Oper} {dst:Option Nat} {g:Operand} {xs:List Operand} {ts:Array TypeId} (ho:o.op=.call { callee:=.value g,args:=xs.toArray,argTypes:=ts }) (hdst:o.dst=dst)
  {n yn:Nat} (hg:Wz n (Aq σ g)=true) {as:List AV} (has:Ha σ xs=some as)
  {A:List AV} {objs:List (Nat×Obj)} {stay:List Nat} {post:AV→List (Nat×Obj)→Prop} (hM:Yl c.P yn A objs stay post)
  (ren:List (Nat×Bm)) (hyn:lk yn ren=some (.nm n)) (h1:Bv ren=true) (h2:B9 objs ren=true) (hA:BA σ ren as A) (hO:Ab σ.objs ren objs)
  (hs:List Nat) (hpin:(c.ds.pin.all fun p=>!AW p.1 hs)=true) {next:Act→World→Prop} {Q:Exit→Act→World→Prop} {a:Act} {w:World} (hsat:c.sat σ a w) (hd:∀d,dst=some d→d<c.nt)
  (hk:∀res objs',post res objs'→∃(ren2:List (Nat×Bm)) (res2:AV) (objs2:List (Nat×Obj)),Bv ren2=true∧B9 objs2 ren2=true∧Ab objs' ren2 objs2∧BX ren2 res res2 ∧
   Hq ren ren2 stay hs=true∧Eq (Ag ren) objs2 σ.objs=true∧∀a' w',c.sat (B1 σ (Ag ren) hs dst res2 objs2) a' w'→next a' w'):o.wpIn (FR c.r) 0 c.P a w next Q:=by
 obtain⟨ρ,hsr⟩:=hsat
 have hev:Ff (vw w c.O0 σ ρ) σ a.eval:=Di hsr.env
 obtain⟨b,hρ,hge⟩:∃b:Nat,ρ n=.pointer (some ⟨b,0,none⟩)∧a.eval g=.func (.yield b) #[] #[]:=by
  cases hgv:Aq σ g with
  | none=>rw[hgv]at hg;simp[Wz]at hg
  | some gv =>
   rw[hgv]at hg
   have hgr:=hev g gv hgv
   cases gv<;>simp only[Wz]at hg<;>try(cases hg;done)
   rename_i m
   have hm:m=n:=by simpa using hg
   subst hm
   obtain⟨_,b,h3,h4⟩:=hgr
   exact⟨b,h3,h4⟩
 obtain⟨Kc,O0c,ρc,hK1,hO1,hmem,hav,hρc,hpost⟩:=PG hc hsr (Wp hev has) stay post ren h1 h2 hA hO hs hpin hd hk
 obtain⟨fn,tmps,assign,body,hy,hR⟩:=hM w Kc O0c ρc (xs.map a.eval) b hK1 hO1 hmem hav ((hρc _ _ hyn).trans hρ)
 have hrun:(execOp a.eval o).run c.P w=.ok (.round b fn tmps assign body) w:=by
  simp[execOp,ho,resolve,Deferred.ofValue,hge,invoke]
  simpa using hy
 refine⟨fun _ _=>trivial,?_⟩
 rw[F5 _ _ _ (fun cl e=>by rw[ho]at e;cases e),hrun,Oper.uponIn_round]
 refine⟨fun h=>(by simp[FR]at h),?_⟩
 rw[hr0]
 refine hR.mono fun e w' hh=>?_
 obtain⟨u,rfl,hh⟩:=hh
 rw[hdst]
 exact hpost u w' hh
theorem nH (hc:c.Ok) (hr0:c.r=none) {ops:Array Oper} {rest:List Oper} {dst:Option Nat} {g:Operand} {xs:List Operand} {ts:Array TypeId} {ty:TypeId} {pos:String} {after:Array Edge}
  {n yn:Nat} (hg:Wz n (Aq σ g)=true) {as:List AV} (has:Ha σ xs=some as)
  {A:List AV} {objs:List (Nat×Obj)} {stay:List Nat} {post:AV→List (Nat×Obj)→Prop} (hM:Yl c.P yn A objs stay post)
  (ren:List (Nat×Bm)) (hs:List Nat) (hyn:lk yn ren=some (.nm n)) (h1:Bv ren=true) (h2:B9 objs ren=true) (hpin:(c.ds.pin.all fun p=>!AW p.1 hs)=true) (hA:BA σ ren as A) (hO:Ab σ.objs ren objs)
  (hk:∀res objs',post res objs'→∃(ren2:List (Nat×Bm)) (res2:AV) (objs2:List (Nat×Obj)),Bv ren2=true∧B9 objs2 ren2=true∧Ab objs' ren2 objs2∧BX ren2 res res2 ∧
   Hq ren ren2 stay hs=true∧Eq (Ag ren) objs2 σ.objs=true∧GK c R k ops rest (B1 σ (Ag ren) hs dst res2 objs2)) :
  GK c R k ops (⟨dst,.call ⟨.value g,xs.toArray,ts⟩,ty,pos,after,none⟩ :: rest) σ:=by
 intro hd hko a w hsat
 unfold wpListIn
 rw[if_pos (by simp[Region.wanted])]
 refine sK hc hr0 (xs:=xs) (ts:=ts) rfl rfl hg has hM ren hyn h1 h2 hA hO hs hpin hsat (Bd (hd _ (by simp))) fun res objs' hp=>?_
 obtain⟨ren2,res2,objs2,g1,g2,g3,g4,g5,g6,hE⟩:=hk res objs' hp
 exact⟨ren2,res2,objs2,g1,g2,g3,g4,g5,g6,fun a' w' hs'=>hE (fun o ho=>hd o (by simp[ho])) hko a' w' hs'⟩
end
/-! ### A round -/
def HA:List Nat→List AV→List (Nat×AV)→List (Nat×AV)
 | p :: ps,x :: xs,e=>HA ps xs ((p,x) :: e)
 | _,_,e=>e
def cY (P:Program) (tb:Tb) (w0:World) (K O0:Nat→Prop) (nt l:Nat) (pin:List (Nat×Value)):Cx:={ P:=P,tb:=tb,w0:=w0,K:=K,O0:=O0,nt:=nt,ds:={ pin:=pin },r:=some l }
theorem fU {P:Program} {tb:Tb} {w0:World} {K O0:Nat→Prop} {nt l:Nat} {pin:List (Nat×Value)}:(cY P tb w0 K O0 nt l pin).tb=tb:=rfl
def sL (P:Program) (l:Nat) (w0:World) (K O0:Nat→Prop) (stay:List Nat) (ρ0:Nat→Value) (post:AV→List (Nat×Obj)→Prop):Exit→Act→World→Prop :=
 roundPost P l fun e w'=>∃u,e=.returned u∧Nq K O0 stay w0 ρ0 post u w'
theorem fV {V:Vw}:∀(ps:List Nat) (A:List AV) (vs:List Value) (e:List (Nat×AV)) (tm:Array Value),IE V A vs→(∀p∈ps,p<tm.size)→A.length=ps.length→(∀s x,lk s e=some x→Br V x (tm.getD s undef)) →
  (∀s x,lk s (HA ps A e)=some x→Br V x (((ps.zip vs).foldl (fun t (p,v)=>t.setIfInBounds p v) tm).getD s undef))∧((ps.zip vs).foldl (fun t (p,v)=>t.setIfInBounds p v) tm).size=tm.size
 | [],_,_,e,tm,_,_,_,h=>by simpa[HA] using h
 | p :: ps,[],_,e,tm,_,_,hl,_=>by simp at hl
 | p :: ps,x :: A,vs,e,tm,⟨v,r,hv,h1,h2⟩,hp,hl,h=>by
  subst hv
  simp only[List.zip_cons_cons,List.foldl_cons,HA]
  have h3:=fV ps A r ((p,x) :: e) (tm.setIfInBounds p v) h2 (fun q hq=>by simpa using hp q (by simp[hq])) (by simpa using hl) (fun s y hs=>by
   have hpg:=JA { tmps:=tm,defers:=[] } p v s (hp p (by simp))
   have hpg:(tm.setIfInBounds p v).getD s undef=if s=p then v else tm.getD s undef:=hpg
   rw[hpg]
   simp only[lk]at hs
   split at hs
   ·rename_i e';cases hs;rw[if_pos e'];exact h1
   ·rename_i hne;rw[if_neg hne];exact h s y hs)
  exact⟨h3.1,by rw[h3.2];simp⟩
section
variable {P:Program} {tb:Tb} {w0:World} {K O0:Nat→Prop} {nt l:Nat} {stay:List Nat} {ρ0:Nat→Value} {post:AV→List (Nat×Obj)→Prop} {σ:St} {pin:List (Nat×Value)}
theorem SV {c:Cx} (hc:c.Ok) {σ:St} {a:Act} {w:World} {ρ:Nat→Value} (hs:Bb c.w0 c.K c.O0 c.nt c.ds σ ρ a w) {yn b:Nat} {L:Go.Loop} (hl:lk yn σ.objs=some (.loop L)) (hb:ρ yn=.pointer (some ⟨b,0,none⟩)) (L':Go.Loop) :
  w.heap[b]?=some (.loop L)∧Bb c.w0 c.K c.O0 c.nt c.ds ⟨σ.env,upd yn (.loop L') σ.objs⟩ ρ a (w.putObj b (.loop L')):=by
 obtain⟨b',h1,h2⟩:=hs.objs yn _ hl
 rw[hb]at h1
 injection h1 with h1
 injection h1 with h1
 injection h1 with h1
 subst h1
 have hlt:b<w.heap.size:=BG h2
 refine⟨h2,hs.upd hc.K hl (g:=b) (by rw[hb];rfl) (grownBy_putObj' w b _) ?_⟩
 exact⟨b,hb,World.putObj_heap_same hlt⟩
theorem nI (hc:(cY P tb w0 K O0 nt l pin).Ok) {yn:Nat} {L:Go.Loop} (hl:lk yn σ.objs=some (.loop L)) (hpin:pin=stay.map fun n=>(n,ρ0 n)) (hyn:yn∈stay) (hb:ρ0 yn=.pointer (some ⟨l,0,none⟩))
  (hp:post (.p .bool true) (upd yn (.loop { L with state:=.ready,pending:=none }) σ.objs)) :
  Ev (cY P tb w0 K O0 nt l pin) (sL P l w0 K O0 stay ρ0 post) (.out .normal) [] σ:=by
 intro _ _ a w hs
 obtain⟨ρ,hs⟩:=hs
 have hρ:∀n∈stay,ρ n=ρ0 n:=fun n hn=>(hs.pin (n,ρ0 n) (by rw[show (cY P tb w0 K O0 nt l pin).ds.pin=pin from rfl,hpin];exact List.mem_map.2 ⟨n,hn,rfl⟩)).2.1
 obtain⟨h2,hs2⟩:=SV hc hs hl ((hρ _ hyn).trans hb) { L with state:=.ready,pending:=none }
 refine⟨_,_,run_endRound none h2,.bool true,rfl,.p .bool true,_,ρ,hp,hs2.frm,⟨hs2.objs,hs2.free,hs2.dist⟩,⟨_,rfl,rfl⟩,hρ⟩
def A2t (c:Cx) (R:Exit→Act→World→Prop) (yn:Nat) (L:Go.Loop) (bd:Code) (σ:St):Prop :=
 lk yn σ.objs=some (.loop L)∧Ev c R (.run bd) [] ⟨σ.env,upd yn (.loop { L with state:=.busy }) σ.objs⟩
theorem sM {yn fr:Nat} {A:List AV} {objs:List (Nat×Obj)} {L:Go.Loop} {ps:List Nat} {asg bd:Code} {fs:List (Nat×AV)} {tm:Array Value}
  (hl:lk yn objs=some (.loop L)) (hf:lk fr objs=some (.frame tm fs)) (h1:L.state=.ready) (h2:L.params=ps.toArray) (h3:L.assign=asg) (h4:L.body=bd) (h5:L.tmps=tm) (hsz:tm.size=nt)
  (hlen:A.length=ps.length) (hps:(ps.all fun p=>decide (p<nt))=true) (hyn:yn∈stay) (hst:stay.all (Ur objs)=true) (hkeys:O9 objs=true) (hcode:CE nt asg=true) (hcode2:CE nt bd=true) (hT:DG P tb) (hF:Lz P tb)
  (h:∀(w0:World) (K O0:Nat→Prop) (ρ0:Nat→Value) (l:Nat),(cY P tb w0 K O0 nt l (stay.map fun n=>(n,ρ0 n))).Ok→SD A→SE objs→ρ0 yn=.pointer (some ⟨l,0,none⟩) →
   Ev (cY P tb w0 K O0 nt l (stay.map fun n=>(n,ρ0 n))) (fun _ _ _=>False) (.run asg) [.inv (A2t (cY P tb w0 K O0 nt l (stay.map fun n=>(n,ρ0 n))) (sL P l w0 K O0 stay ρ0 post) yn L bd)] ⟨HA ps A fs,objs⟩) :
  Yl P yn A objs stay post:=by
 intro w K O0 ρ vs b hK hO hm hv hb
 have hvl:=Hp hv
 obtain⟨b',hb',hh⟩:=hm.obj yn _ hl
 rw[hb]at hb'
 injection hb' with hb'
 injection hb' with hb'
 injection hb' with hb'
 subst hb'
 have hrun:=run_yield (P:=P) (args:=vs.toArray) hh (by rw[h2];simp[hvl,hlen])
 refine⟨_,_,_,_,hrun,roundIn_of_wpIn trivial ?_⟩
 have hc:(cY P tb w K O0 nt b (stay.map fun n=>(n,ρ n))).Ok:=⟨hK,hO,hT,hF⟩
 have hframe:=hm.obj fr _ hf
 have hpe:=fV (V:=vw w O0 ⟨[],objs⟩ ρ) ps A vs fs tm hv (fun p hp=>by have:=(List.all_eq_true.1 hps) p hp;rw[hsz];simpa using this) hlen hframe.2
 have htm:(L.params.zip vs.toArray).foldl (fun t (p,v)=>t.setIfInBounds p v) L.tmps=(ps.zip vs).foldl (fun t (p,v)=>t.setIfInBounds p v) tm:=by
  rw[h2,h5,List.zip_toArray]
  simp
 rw[h3,h4,htm]
 have hsat:(cY P tb w K O0 nt b (stay.map fun n=>(n,ρ n))).sat ⟨HA ps A fs,objs⟩ { tmps:=(ps.zip vs).foldl (fun t (p,v)=>t.setIfInBounds p v) tm,defers:=[] } w:=by
  refine⟨ρ,⟨rfl,rfl,rfl,Nat.le_refl _,fun _ _=>rfl⟩,by rw[hpe.2];exact hsz,rfl,fun p hp=>?_,hm.obj,hm.free,hm.dist,hpe.1⟩
  obtain⟨n,hn,rfl⟩:=List.mem_map.1 hp
  have:=(List.all_eq_true.1 hst) n hn
  unfold Ur at this
  cases ho:lk n objs with
  | none=>rw[ho]at this;cases this
  | some o =>
   rw[ho]at this
   refine⟨⟨o,ho⟩,rfl,?_⟩
   have hob:=hm.obj n o ho
   cases o with
   | arr et e xs=>exact .inr this
   | nest et iet k e xs hl=>exact .inr this
   | box et st fs=>obtain⟨_,b,cs,he,_⟩:=hob;rw[he];exact .inl rfl
   | mapo k v l=>obtain⟨b,es,cl,he,_⟩:=hob;rw[he];exact .inl rfl
   | frame tm fs=>obtain⟨he,_⟩:=hob;rw[he];exact .inl rfl
   | loop L=>obtain⟨b,he,_⟩:=hob;rw[he];exact .inl rfl
   | itr ik iv il ilf icu=>obtain⟨b,he,_⟩:=hob;rw[he];exact .inl rfl
   | dfr=>obtain⟨b,he,_⟩:=hob;rw[he];exact .inl rfl
 have hEv:=h w K O0 ρ b hc (RQ hv) (RR hkeys fun n o ho=>Wo (hm.obj n o ho)) hb (by simpa[Ib,cY] using hcode) rfl _ _ hsat
 refine wpIn_mono (F:=FR (some b)) hEv ?_
 intro e a' w' hq
 cases e with
 | normal =>
  obtain⟨σ',⟨ρ',hs'⟩,hl',hbody⟩:=hq
  have hρ':ρ' yn=.pointer (some ⟨b,0,none⟩):=(hs'.pin (yn,ρ yn) (List.mem_map.2 ⟨yn,hyn,rfl⟩)).2.1.trans hb
  obtain⟨g1,g2⟩:=SV hc hs' hl' hρ' { L with state:=.busy }
  exact⟨_,run_beginRound g1 h1,hbody (by simpa[Ib,cY] using hcode2) rfl _ _ ⟨ρ',g2⟩⟩
 | exit id=>exact hq.elim
 | goto t=>exact hq.elim
 | ret=>exact hq.elim
 | panic ch=>exact hq.elim
 | outgrown=>exact hq.elim
end
end
/- Range over a function, second part: the statement; the end of a function that holds one. -/
section
open Go Go.RowKit
def Cx.marked (c:Cx) (dn b:Nat):Cx:={ c with ds:={ ds:=⟨.collected b,#[]⟩ :: c.ds.ds,pin:=(dn,.pointer (some ⟨b,0,none⟩)) :: c.ds.pin } }
def Cx.marked2 (c:Cx) (yn dn b:Nat):Cx:={ c with ds:={ ds:=⟨.collected b,#[]⟩ :: c.ds.ds,pin:=(yn,.pointer (some ⟨b+1,0,none⟩)) :: (dn,.pointer (some ⟨b,0,none⟩)) :: c.ds.pin } }
theorem b5 {c:Cx} {yn dn b:Nat} (h:c.Ok):(c.marked2 yn dn b).Ok:=⟨h.K,h.O,h.T,h.F⟩
theorem LQ {c:Cx} {dn b:Nat}:(c.marked dn b).tb=c.tb:=rfl
theorem nJ {c:Cx} {dn b:Nat} (h:c.Ok):(c.marked dn b).Ok:=⟨h.K,h.O,h.T,h.F⟩
theorem nK (ren:List (Nat×Bm)) (x:AV):BX ren x .top:=by
 unfold BX
 split
 ·simp_all
 ·unfold Gw
  split
  ·simp_all
  ·unfold DI
   split<;>simp_all
def Ym:List DW→Bool
 | []=>true
 | .inv _ :: _=>false
 | _ :: k=>Ym k
theorem Mg {c:Cx} {R:Exit→Act→World→Prop} {dn b:Nat}:∀ {k:List DW},Ym k=true→R2 (c.marked dn b) R k=R2 c R k
 | [],_=>by funext e a w;simp[R2]
 | .inv _ :: _,h=>by simp[Ym]at h
 | .seq y :: k,h=>by
  have ih:=Mg (c:=c) (R:=R) (dn:=dn) (b:=b) (k:=k) h
  funext e a w
  cases e<;>simp only[R2,ih]<;>rfl
 | .blk id :: k,h=>by
  have ih:=Mg (c:=c) (R:=R) (dn:=dn) (b:=b) (k:=k) h
  funext e a w
  cases e<;>simp only[R2,ih]
def Bg (σ:St) (yn dn fr:Nat) (L:Go.Loop) (tm:Array Value):St:=⟨σ.env,(yn,.loop L) :: (dn,.dfr) :: (fr,.frame tm σ.env) :: σ.objs⟩
section
variable {c:Cx} {R:Exit→Act→World→Prop} {k:List DW} {σ:St}
theorem nL (hc:c.Ok) {a:Act} {w:World} {ρ:Nat→Value} (hs:Bb c.w0 c.K c.O0 c.nt c.ds σ ρ a w) {yn dn fr:Nat} (hd1:yn≠dn) (hd2:yn≠fr) (hd3:dn≠fr) (hf1:lk yn σ.objs=none) (hf2:lk dn σ.objs=none) (hf3:lk fr σ.objs=none) (L:Go.Loop) :
  ∃ρ1,Bb c.w0 c.K c.O0 c.nt (c.marked2 yn dn w.heap.size).ds (Bg σ yn dn fr L a.tmps) ρ1 { a with defers:=[{ target:=.collected w.heap.size,args:=#[] }]++a.defers } ((w.alloc (.deferred (some []))).alloc (.loop L))∧ρ1 yn=.pointer (some ⟨w.heap.size+1,0,none⟩):=by
 let ρ1:Nat→Value:=fun m=>if m=yn then .pointer (some ⟨w.heap.size+1,0,none⟩) else if m=dn then .pointer (some ⟨w.heap.size,0,none⟩) else if m=fr then .pointer none else ρ m
 have e1:ρ1 yn=.pointer (some ⟨w.heap.size+1,0,none⟩):=by simp[ρ1]
 have e2:ρ1 dn=.pointer (some ⟨w.heap.size,0,none⟩):=by simp[ρ1,Ne.symm hd1]
 have e3:ρ1 fr=.pointer none:=by simp[ρ1,Ne.symm hd2,Ne.symm hd3]
 obtain⟨W1,hW1⟩:∃W1,(w.alloc (.deferred (some []))).alloc (.loop L)=W1:=⟨_,rfl⟩
 have hL1:W1.heap[w.heap.size+1]?=some (.loop L):=by
  rw[←hW1];have:=World.alloc_heap_new (w.alloc (.deferred (some []))) (.loop L);rwa [World.size_alloc]at this
 have hK1:W1.heap[w.heap.size]?=some (.deferred (some [])):=by
  rw[←hW1];exact(Below.heap_alloc _ _ _ (by simp)).trans (World.alloc_heap_new w _)
 have hb1:Below w.heap.size w W1:=by
  rw[←hW1];exact((Below.refl _ w).alloc (Nat.le_refl _) _).alloc (by simp) _
 rw[hW1]
 have hfresh:BR [(yn,Obj.loop L),(dn,.dfr),(fr,.frame a.tmps σ.env)] σ=true:=by simp[BR,hf1,hf2,hf3]
 have hrho:∀n,lk n [(yn,Obj.loop L),(dn,Obj.dfr),(fr,.frame a.tmps σ.env)]=none→ρ1 n=ρ n:=fun n hn=>by
  simp only[lk]at hn
  split at hn
  ·cases hn
  ·split at hn
   ·cases hn
   ·split at hn
    ·cases hn
    ·rename_i g1 g2 g3;simp[ρ1,g1,g2,g3]
 have hnew:∀n o b,lk n [(yn,Obj.loop L),(dn,Obj.dfr),(fr,.frame a.tmps σ.env)]=some o→bk (ρ1 n) b→w.heap.size≤b:=fun n o b hn hb=>by
  simp only[lk]at hn
  split at hn
  ·rename_i g;subst g;rw[e1]at hb;simp[bk,blk]at hb;omega
  ·split at hn
   ·rename_i g;subst g;rw[e2]at hb;simp[bk,blk]at hb;omega
   ·split at hn
    ·rename_i g;subst g;rw[e3]at hb;simp[bk,blk]at hb
    ·cases hn
 have hkeeps:=Gq (O0:=c.O0) (ρ:=ρ) (ρ':=ρ1) hfresh hb1 hrho hnew
 have hq:QS w c.O0 σ ρ .top [(yn,Obj.loop L),(dn,.dfr),(fr,.frame a.tmps σ.env)] undef ρ1 W1:=by
  refine⟨hb1,hrho,trivial,fun n o hn=>?_,hnew,fun n m o o' b hn hm hb hb'=>?_⟩
  ·simp only[lk]at hn
   split at hn
   ·rename_i g;cases hn;subst g;exact⟨_,e1,hL1⟩
   ·split at hn
    ·rename_i g;cases hn;subst g;exact⟨_,e2,hK1⟩
    ·split at hn
     ·rename_i g;cases hn;subst g
      exact⟨e3,fun s x hx=>(hs.env s x hx).keeps hkeeps⟩
     ·cases hn
  ·simp only[lk]at hn hm
   split at hn
   ·rename_i g
    rw[g,e1]at hb
    simp[bk,blk]at hb
    split at hm
    ·rename_i g';rw[g,g']
    ·split at hm
     ·rename_i g';rw[g',e2]at hb';simp[bk,blk]at hb';omega
     ·split at hm
      ·rename_i g';rw[g',e3]at hb';simp[bk,blk]at hb'
      ·cases hm
   ·split at hn
    ·rename_i g
     rw[g,e2]at hb
     simp[bk,blk]at hb
     split at hm
     ·rename_i g';rw[g',e1]at hb';simp[bk,blk]at hb';omega
     ·split at hm
      ·rename_i g';rw[g,g']
      ·split at hm
       ·rename_i g';rw[g',e3]at hb';simp[bk,blk]at hb'
       ·cases hm
    ·split at hn
     ·rename_i g;rw[g,e3]at hb;simp[bk,blk]at hb
     ·cases hn
 have h:=hs.add hc.K hc.O (dst:=none) (fun d hd=>by cases hd) hfresh hq
 refine⟨ρ1,⟨h.frm,h.nt,?_,fun p hp=>?_,h.objs,h.free,h.dist,h.env⟩,e1⟩
 ·show _=_ :: c.ds.ds
  rw[←hs.defers];rfl
 ·rcases List.mem_cons.1 hp with rfl|hp
  ·exact⟨⟨.loop L,by simp[Bg,lk]⟩,e1,.inl rfl⟩
  rcases List.mem_cons.1 hp with rfl|hp
  ·exact⟨⟨.dfr,by simp[Bg,lk,Ne.symm hd1]⟩,e2,.inl rfl⟩
  ·exact h.pin p hp
def EvJ (c:Cx) (R:Exit→Act→World→Prop) (k:List DW) (σ:St):Option Code→Prop
 | none=>Ev c R (.out .normal) k σ
 | some c'=>match c' with
  | .ret=>Ev c R (.out .ret) k σ
  | .exit id=>Ev c R (.out (.exit id)) k σ
  | _=>False
def A4D (c:Cx) (R:Exit→Act→World→Prop) (k:List DW) (a:Act) (w:World):Option Code→Prop
 | none=>R2 c R k .normal a w
 | some cd=>cd.wpIn (FR c.r) 0 c.P (R2 c R k) a w
theorem xV {dn b:Nat} (hk0:Ym k=true) (h2:Cj c.nt k=true) {p:Option Code} (hj:EvJ (c.marked dn b) R k σ p) {a:Act} {w:World} (hs:(c.marked dn b).sat σ a w) :
  A4D c R k a w p:=by
 have hkm:=Mg (c:=c) (R:=R) (dn:=dn) (b:=b) hk0
 cases p with
 | none =>
  have:=hj rfl h2 _ _ hs
  show R2 c R k .normal a w
  rw[←hkm]
  exact this
 | some cd =>
  cases cd<;>try exact hj.elim
  ·have:=hj rfl h2 _ _ hs
   refine wpIn_exit ?_
   rw[←hkm]
   exact this
  ·have:=hj rfl h2 _ _ hs
   refine wpIn_ret ?_
   rw[←hkm]
   exact this
theorem sN (hc:c.Ok) (hr0:c.r=none) (hk0:Ym k=true) {g:Operand} {ps:Array Tmp} {asg bd:Code} {gf:FuncId} {capn:List Nat} (hg:Aq σ g=some (.clo gf capn))
  (yn dn fr:Nat) (hd:(yn != dn&&yn != fr&&dn != fr)=true) (hf1:lk yn σ.objs=none) (hf2:lk dn σ.objs=none) (hf3:lk fr σ.objs=none)
  (hM:∀(L:Go.Loop) (tm:Array Value),L.state=.ready→L.pending=none→L.tmps=tm→L.params=ps→L.assign=asg→L.body=bd→tm.size=c.nt →
   ∃(A:List AV) (objs:List (Nat×Obj)) (stay:List Nat) (post:AV→List (Nat×Obj)→Prop) (ren:List (Nat×Bm)) (hs:List Nat),Ca c.P gf A objs stay post ∧
    Bv ren=true∧B9 objs ren=true∧BA (Bg σ yn dn fr L tm) ren (.yl yn :: capn.map fun n=>AV.bp n [] 0) A∧Ab (Bg σ yn dn fr L tm).objs ren objs ∧
    (((yn,undef) :: (dn,undef) :: c.ds.pin).all fun p=>!AW p.1 hs)=true ∧
    ∀res objs',post res objs'→∃(ren2:List (Nat×Bm)) (objs2:List (Nat×Obj)) (L':Go.Loop),Bv ren2=true∧B9 objs2 ren2=true∧Ab objs' ren2 objs2∧Hq ren ren2 stay hs=true∧Eq (Ag ren) objs2 (Bg σ yn dn fr L tm).objs=true ∧
     lk yn objs2=some (.loop L')∧(L'.state == .busy)=false ∧
     ∀b,EvJ (c.marked dn b) R k ⟨(B1 (Bg σ yn dn fr L tm) (Ag ren) hs none .top objs2).env,upd yn (.loop { L' with state:=.exhausted }) (B1 (Bg σ yn dn fr L tm) (Ag ren) hs none .top objs2).objs⟩ L'.pending) :
  Ev c R (.run (.rangeFunc g ps asg bd)) k σ:=by
 intro h1 h2 a w hsat
 obtain⟨ρ,hs⟩:=hsat
 have hev:Ff (vw w c.O0 σ ρ) σ a.eval:=Di hs.env
 obtain⟨hge,_⟩:=Yk (hev g _ hg)
 simp only[Bool.and_eq_true,bne_iff_ne,ne_eq]at hd
 obtain⟨⟨hd1,hd2⟩,hd3⟩:=hd
 refine wpIn_rangeFunc (F:=FR c.r) ?_
 intro fn _
 have hround:(FR c.r).round=none:=by rw[hr0];rfl
 rw[hround]
 obtain⟨L,hL⟩:∃L:Go.Loop,L={ state:=.ready,pending:=none,fn,tmps:=a.tmps,params:=ps,assign:=asg,body:=bd,defers:=w.heap.size }:=⟨_,rfl⟩
 obtain⟨ρ1,hs1,hy1⟩:=nL hc hs hd1 hd2 hd3 hf1 hf2 hf3 L
 obtain⟨A,objs,stay,post,ren,hss,hCM,g1,g2,g3,g4,g5,g6⟩:=hM L a.tmps (by rw[hL]) (by rw[hL]) (by rw[hL]) (by rw[hL]) (by rw[hL]) (by rw[hL]) hs.nt
 obtain⟨⟨cf,hcf,hname,hbody⟩,hCM⟩:=hCM
 obtain⟨W1,hW1⟩:∃W1,(w.alloc (.deferred (some []))).alloc (.loop L)=W1:=⟨_,rfl⟩
 rw[hW1]at hs1
 have hc1:(c.marked2 yn dn w.heap.size).Ok:=b5 hc
 have hcap1:IE (vw W1 c.O0 (Bg σ yn dn fr L a.tmps) ρ1) (.yl yn :: capn.map fun n=>AV.bp n [] 0) (.func (.yield (w.heap.size+1)) #[] #[] :: capn.map ρ):=by
  refine⟨_,_,rfl,⟨⟨_,by simp[Bg,lk];rfl⟩,_,hy1,rfl⟩,?_⟩
  have hcl:=Yk (V:=vw W1 c.O0 (Bg σ yn dn fr L a.tmps) ρ1) (f:=gf) (ns:=capn) (v:=a.eval g) (by
   have:=Di hs1.env
   have ho:Aq (Bg σ yn dn fr L a.tmps) g=some (.clo gf capn):=by
    cases g with
    | tmp t=>exact hg
    | _=>exact hg
   have h3:=this g _ ho
   have he:({ a with defers:=[{ target:=.collected w.heap.size,args:=#[] }]++a.defers }:Act).eval g=a.eval g:=by cases g<;>rfl
   rw[he]at h3
   exact h3)
  have e:=hcl.1
  rw[hge]at e
  have e2:capn.map ρ=capn.map ρ1:=by
   have e:=congrArg (fun v:Value=>match v with|.func _ _ cs=>cs.toList|_=>[]) e
   simpa[vw] using e
  rw[e2]
  exact hcl.2
 have hk1:∀res objs',post res objs'→∃(ren2:List (Nat×Bm)) (res2:AV) (objs2:List (Nat×Obj)),Bv ren2=true∧B9 objs2 ren2=true∧Ab objs' ren2 objs2∧BX ren2 res res2 ∧
   Hq ren ren2 stay hss=true∧Eq (Ag ren) objs2 (Bg σ yn dn fr L a.tmps).objs=true∧∀a' w',(c.marked2 yn dn w.heap.size).sat (B1 (Bg σ yn dn fr L a.tmps) (Ag ren) hss none res2 objs2) a' w' →
    rangePost (FR c.r) 0 c.P (w.heap.size+1) (R2 c R k) a' (.returned undef) w':=by
  intro res objs' hp
  obtain⟨ren2,objs2,L',q1,q2,q3,q4,q5,q6,q7,q8⟩:=g6 res objs' hp
  refine⟨ren2,.top,objs2,q1,q2,q3,nK ren2 res,q4,q5,fun a' w' hs'=>?_⟩
  obtain⟨ρ',hs'⟩:=hs'
  have hyl:lk yn (B1 (Bg σ yn dn fr L a.tmps) (Ag ren) hss none .top objs2).objs=some (.loop L'):=by
   simp only[B1,Aw,q6];rfl
  have hyp:=(hs'.pin (yn,.pointer (some ⟨w.heap.size+1,0,none⟩)) (by simp[Cx.marked2])).2.1
  obtain⟨r1,r2⟩:=SV hc1 hs' hyl hyp { L' with state:=.exhausted }
  refine⟨_,_,run_endLoop r1 (by intro e;rw[e]at q7;cases q7),?_⟩
  have hsat2:(c.marked dn w.heap.size).sat ⟨(B1 (Bg σ yn dn fr L a.tmps) (Ag ren) hss none .top objs2).env,upd yn (.loop { L' with state:=.exhausted }) (B1 (Bg σ yn dn fr L a.tmps) (Ag ren) hss none .top objs2).objs⟩ a' (w'.putObj (w.heap.size+1) (.loop { L' with state:=.exhausted })) :=
   ⟨ρ',r2.frm,r2.nt,r2.defers,fun p hp=>r2.pin p (List.mem_cons_of_mem _ hp),r2.objs,r2.free,r2.dist,r2.env⟩
  have hout:=xV hk0 h2 (q8 w.heap.size) hsat2
  revert hout
  generalize L'.pending=p
  intro hout
  cases p<;>exact hout
 obtain⟨Kc,O0c,ρc,hK1,hO1,hmem,hav,_,hpost⟩:=PG hc1 hs1 hcap1 stay post ren g1 g2 g3 g4 hss (by simpa[Cx.marked2] using g5) (dst:=none) (fun d hd=>by cases hd) hk1
 have hcall:=hCM W1 Kc O0c ρc _ hK1 hO1 hmem hav
 refine⟨w.heap.size+1,[{ target:=.collected w.heap.size,args:=#[] }],W1,{ target:=.fn (.func gf) (capn.map ρ).toArray,args:=#[.func (.yield (w.heap.size+1)) #[] #[]] },W1,gf,
  (.func (.yield (w.heap.size+1)) #[] #[] :: capn.map ρ).toArray,W1,?_,?_,fun _ _=>trivial,?_,fun h=>by simp[FR]at h,?_⟩
 ·rw[←hW1,hL];exact run_enterLoop_outer _ _ _ _ _
 ·have hge':a.eval g=.func (.func gf) #[] (capn.map ρ).toArray:=hge
  simp only[resolve,hge']
  simp[go_sem]
 ·have e1 : ¬ cf.name = "runtime.NumGoroutine" := by simpa using hname
  have e2:¬cf.body=none:=by intro e;simp[e]at hbody
  simp[invoke,callFunc,hcf,e1,e2]
 ·refine MU (hcall.mono fun e w' hh=>?_)
  obtain⟨u,rfl,hh⟩:=hh
  exact hpost u w' hh
/-! ### The end of a function that holds such a loop -/
theorem sO (hc:c.Ok) {a:Act} {w:World} {ρ:Nat→Value} (hs:Bb c.w0 c.K c.O0 c.nt c.ds σ ρ a w) {dn b:Nat} (hl:lk dn σ.objs=some .dfr) (hb:ρ dn=.pointer (some ⟨b,0,none⟩)) (X:_root_.Go.Obj) (pin:List (Nat×Value)) (hpin:∀p∈pin,p∈c.ds.pin∧p.1≠dn) :
  w.heap[b]?=some (.deferred (some []))∧Bb c.w0 c.K c.O0 c.nt { ds:=c.ds.ds,pin:=pin } ⟨Bi [dn] σ.env,Ak [dn] [dn] σ.objs⟩ ρ a (w.putObj b X):=by
 obtain⟨b',h1,h2⟩:=hs.objs dn _ hl
 rw[hb]at h1
 injection h1 with h1
 injection h1 with h1
 injection h1 with h1
 subst h1
 have hlt:b<w.heap.size:=BG h2
 refine⟨h2,?_⟩
 have hbo:own c.O0 σ ρ b:=.inr ⟨dn,⟨_,hl⟩,by rw[hb];exact .inl rfl⟩
 have hliv:∀n,GJ ⟨Bi [dn] σ.env,Ak [dn] [dn] σ.objs⟩ n→GJ σ n∧n≠dn:=by
  rintro n ⟨o,hn⟩
  have hn:lk n (Ak [dn] [dn] σ.objs)=some o:=hn
  rw[BN]at hn
  split at hn
  ·cases hn
  ·rename_i hne
   simp only[Option.map_eq_some_iff]at hn
   obtain⟨y,hy,_⟩:=hn
   exact⟨⟨y,hy⟩,fun e=>hne (by subst e;simp[AW])⟩
 have hhp:∀k,k≠b→(w.putObj b X).heap[k]?=w.heap[k]?:=fun k hk=>World.putObj_heap_other hk
 have hkeep:B8 ((vw w c.O0 σ ρ).buts [dn]) (vw (w.putObj b X) c.O0 ⟨Bi [dn] σ.env,Ak [dn] [dn] σ.objs⟩ ρ):=by
  refine⟨fun k _ hk hk'=>?_,fun n hn=>?_,fun _ _=>rfl,fun k _ hk=>hhp k (fun e=>?_)⟩
  ·rcases hk' with h0|⟨n,hn,hnb⟩
   ·exact hk (.inl h0)
   ·exact hk (.inr ⟨n,(hliv n hn).1,hnb⟩)
  ·obtain⟨⟨o,ho⟩,hm⟩:=hn
   exact⟨_,by show lk n (Ak [dn] [dn] σ.objs)=_;rw[BN,if_neg (by rw[hm];simp),ho];rfl⟩
  ·subst e;exact hk hbo
 refine⟨⟨hs.frm.os,hs.frm.tape,hs.frm.output,by simpa using hs.frm.size,fun k hk=>?_⟩,hs.nt,hs.defers,fun p hp=>?_,fun n x hn=>?_,fun n k hl' hk=>hs.free n k (hliv n hl').1 hk,fun n m k h1 h2 h3 h4=>hs.dist n m k (hliv n h1).1 (hliv m h2).1 h3 h4,fun s v hv=>?_⟩
 ·refine(hhp k fun e=>?_).trans (hs.frm.block k hk)
  subst e
  exact(hs.free dn k ⟨_,hl⟩ (by rw[hb];exact .inl rfl)).1 hk
 ·obtain⟨q1,q2⟩:=hpin p hp
  obtain⟨q3,q4,q5⟩:=hs.pin p q1
  exact⟨hkeep.L p.1 ⟨q3,by simp[AW,q2]⟩,q4,q5⟩
 ·have hn':lk n (Ak [dn] [dn] σ.objs)=some x:=hn
  have hne:=(hliv n ⟨x,hn⟩).2
  rw[BN]at hn'
  split at hn'
  ·cases hn'
  ·simp only[Option.map_eq_some_iff]at hn'
   obtain⟨y,hy,rfl⟩:=hn'
   refine RJ hkeep (fun k hk=>hhp k fun e=>?_) (hs.objs n y hy)
   subst e
   exact hne (hs.dist n dn k ⟨y,hy⟩ ⟨_,hl⟩ hk (by rw[hb];exact .inl rfl))
 ·rw[Dd]at hv
  simp only[Option.map_eq_some_iff]at hv
  obtain⟨y,hy,rfl⟩:=hv
  exact(NV (hs.env s y hy)).keeps hkeep
end
def A14 (P:Program) (fn:Func) (w0:World) (K O0:Nat→Prop) (stay:List Nat) (ρ0:Nat→Value) (post:AV→List (Nat×Obj)→Prop):Exit→Act→World→Prop :=
 bodyPostM (FR none) 0 P fn fun e w'=>∃u,e=.returned u∧Nq K O0 stay w0 ρ0 post u w'
theorem xW {P:Program} {tb:Tb} {f:FuncId} {fn:Func} {cd:Code} {nt:Nat} {args:List AV} {objs:List (Nat×Obj)} {stay:List Nat} {post:AV→List (Nat×Obj)→Prop}
  (hfn : P.funcs[f]? = some fn) (hname : (fn.name == "runtime.NumGoroutine") = false) (hbody : fn.body = some cd) (hnt : fn.ntmps = nt) (hlen : args.length ≤ nt)
  (hcode:CE nt cd=true) (hst:stay.all (Ur objs)=true) (hkeys:O9 objs=true) (hT:DG P tb) (hF:Lz P tb)
  (h:∀(w0:World) (K O0:Nat→Prop) (ρ0:Nat→Value),(cm P tb w0 K O0 nt (stay.map fun n=>(n,ρ0 n))).Ok→SD args→SE objs →
   Ev (cm P tb w0 K O0 nt (stay.map fun n=>(n,ρ0 n))) (A14 P fn w0 K O0 stay ρ0 post) (.run cd) [] ⟨BU 0 args,objs⟩):Ca P f args objs stay post:=by
 refine⟨⟨fn,hfn,hname,by simp[hbody]⟩,fun w K O0 ρ vs hK hO hm hv=>?_⟩
 refine callsIn_wide.1 (callsIn_of_wp_marks (F:=FR none) (n:=0) hfn hbody trivial ?_ rfl)
 have hvl:=Hp hv
 rw[hnt]
 exact h w K O0 ρ ⟨hK,hO,hT,hF⟩ (RQ hv) (RR hkeys fun n o ho=>Wo (hm.obj n o ho)) hcode rfl _ _ (SF hm hv hst (by omega))
theorem sP {P:Program} {tb:Tb} {w0:World} {K O0:Nat→Prop} {nt:Nat} {stay:List Nat} {ρ0:Nat→Value} {fn:Func} {post:AV→List (Nat×Obj)→Prop} {σ:St} {e:Exit} {dn b:Nat} (hc:((cm P tb w0 K O0 nt (stay.map fun n=>(n,ρ0 n))).marked dn b).Ok)
  (rs:List ResultVar) (hr:fn.results.toList=rs) (he:e=.ret∨e=.normal) (hl:lk dn σ.objs=some .dfr) (hdn:AW dn stay=false) (res:AV) (h:Ut tb ⟨Bi [dn] σ.env,Ak [dn] [dn] σ.objs⟩ rs res) (hp:post res (Ak [dn] [dn] σ.objs)) :
  Ev ((cm P tb w0 K O0 nt (stay.map fun n=>(n,ρ0 n))).marked dn b) (A14 P fn w0 K O0 stay ρ0 post) (.out e) [] σ:=by
 intro _ _ a w hs
 obtain⟨ρ,hs⟩:=hs
 have hbd:=(hs.pin (dn,.pointer (some ⟨b,0,none⟩)) (by simp[Cx.marked])).2.1
 obtain⟨h1,h2⟩:=sO hc hs hl hbd (.deferred none) (stay.map fun n=>(n,ρ0 n)) (fun p hp=>⟨List.mem_cons_of_mem _ hp,fun e=>by
  obtain⟨n,hn,rfl⟩:=List.mem_map.1 hp
  have e:n=dn:=e
  subst e
  rw[(AZ _ _).2 hn]at hdn
  cases hdn⟩)
 have h2':Bb w0 K O0 nt { ds:=[⟨.collected b,#[]⟩],pin:=stay.map fun n=>(n,ρ0 n) } ⟨Bi [dn] σ.env,Ak [dn] [dn] σ.objs⟩ ρ a (w.putObj b (.deferred none)):=h2
 obtain⟨u,h3,h4⟩:=Ya hc.T h2' (fn:=fn) (by rw[hr];exact h)
 have hpost:Nq K O0 stay w0 ρ0 post u (w.putObj b (.deferred none)):=by
  refine⟨res,_,ρ,hp,h2'.frm,⟨h2'.objs,h2'.free,h2'.dist⟩,h4,fun n hn=>?_⟩
  exact(h2'.pin (n,ρ0 n) (List.mem_map.2 ⟨n,hn,rfl⟩)).2.1
 have hdf:a.defers=[⟨.collected b,#[]⟩]:=hs.defers
 have key:LeavesInM (FR none) 0 P fn a.tmps (fun e w'=>∃u,e=.returned u∧Nq K O0 stay w0 ρ0 post u w') a.defers .returning w:=by
  rw[hdf]
  exact⟨by simp,.inl ⟨b,_,rfl,run_takeDeferred h1,u,h3,u,rfl,hpost⟩⟩
 rcases he with rfl|rfl
 ·exact key
 ·exact key
end
/- The rules in their shortest form: what is reckoned is reckoned by themselves. -/
section
open Go Go.RowKit
section
variable {c:Cx} {R:Exit→Act→World→Prop} {k:List DW} {σ σ':St}
theorem rP (lv:List Nat) (hc:c.Ok) {id:Nat} {l:List Oper} {vc:Prop} (hvc:vc) (hk:Ev c R (.out .normal) k σ') (h0:(l.all fun o=>o.guard.isNone)=true:=by rfl)
  (h:DK lv (Bk c.tb l l σ)=some (vc,σ'):=by simp only[go_sem,Nat.reduceEqDiff,reduceCtorEq,Nat.reduceAdd,Nat.reduceSub,Nat.reduceMul,Nat.reduceLeDiff,Nat.reduceLT,Int.reduceLE,Int.reduceToNat,Int.reduceNeg,↓reduceIte];rfl):Ev c R (.run (.region id l.toArray false)) k σ:=KQ lv hc h0 h hvc hk
theorem rC {o:Operand} {x y:Code} {b:Bool} {p q:Prop} (ht:p→Ev c R (.run x) k σ) (hf:q→Ev c R (.run y) k σ) (h:Aq σ o=some (.p .bool b):=by simp only[go_sem,Nat.reduceEqDiff,reduceCtorEq,Nat.reduceAdd,Nat.reduceSub,Nat.reduceMul,Nat.reduceLeDiff,Nat.reduceLT,Int.reduceLE,Int.reduceToNat,Int.reduceNeg,↓reduceIte];rfl)
  (hp:(b=true)=p:=by first|(simp only[decide_eq_true_eq,decide_eq_false_iff_not,Bool.and_eq_true,Bool.or_eq_true,Bool.and_eq_false_imp,Bool.or_eq_false_iff,Bool.not_eq_true',Bool.not_eq_false',beq_iff_eq,beq_eq_false_iff_ne,bne_iff_ne,Bool.not_eq_eq_eq_not,Bool.not_true,Bool.not_false,Int.not_lt,Int.not_le,ne_eq];rfl)|rfl) (hq:(b=false)=q:=by first|(simp only[decide_eq_true_eq,decide_eq_false_iff_not,Bool.and_eq_true,Bool.or_eq_true,Bool.and_eq_false_imp,Bool.or_eq_false_iff,Bool.not_eq_true',Bool.not_eq_false',beq_iff_eq,beq_eq_false_iff_ne,bne_iff_ne,Bool.not_eq_eq_eq_not,Bool.not_true,Bool.not_false,Int.not_lt,Int.not_le,ne_eq];rfl)|rfl):Ev c R (.run (.cond o x y)) k σ :=
 R3 h (fun e=>ht (hp▸e)) (fun e=>hf (hq▸e))
theorem rL (lv:List Nat) (hc:c.Ok) {ops:List Oper} {l:List Oper} {vc:Prop} (hvc:vc) (hk:Ev c R (.out .normal) k σ') (h:DK lv (Bk c.tb ops l σ)=some (vc,σ'):=by simp only[go_sem,Nat.reduceEqDiff,reduceCtorEq,Nat.reduceAdd,Nat.reduceSub,Nat.reduceMul,Nat.reduceLeDiff,Nat.reduceLT,Int.reduceLE,Int.reduceToNat,Int.reduceNeg,↓reduceIte];rfl):GK c R k ops.toArray l σ:=Nr lv hc h hvc hk
theorem rN (n:Nat) (hc:c.Ok) {ops:List Oper} {l:List Oper} {vc:Prop} (hvc:vc) (hk:GK c R k ops.toArray (l.drop n) σ') (h:Bk c.tb ops (l.take n) σ=some (vc,σ'):=by simp only[List.take_succ_cons,List.take_zero,go_sem,Nat.reduceEqDiff,reduceCtorEq,Nat.reduceAdd,Nat.reduceSub,Nat.reduceMul,Nat.reduceLeDiff,Nat.reduceLT,Int.reduceLE,Int.reduceToNat,Int.reduceNeg,↓reduceIte];rfl):GK c R k ops.toArray l σ:=Nm hc n (by simpa using h) hvc hk
theorem cP (n:Nat) (hc:c.Ok) {id:Nat} {l:List Oper} {vc:Prop} (hvc:vc) (hk:GK c R k l.toArray (l.drop n) σ') (h0:(l.all fun o=>o.guard.isNone)=true:=by rfl) (h:Bk c.tb l (l.take n) σ=some (vc,σ'):=by simp only[List.take_succ_cons,List.take_zero,go_sem,Nat.reduceEqDiff,reduceCtorEq,Nat.reduceAdd,Nat.reduceSub,Nat.reduceMul,Nat.reduceLeDiff,Nat.reduceLT,Int.reduceLE,Int.reduceToNat,Int.reduceNeg,↓reduceIte];rfl) :
  Ev c R (.run (.region id l.toArray false)) k σ:=rW hc n h0 h hvc hk
theorem cD (n:Nat) (hc:c.Ok) {id:Nat} {l:List Oper} {vc:Prop} (hvc:vc) (hk:GK c R k l.toArray (l.drop n) σ') (hchk:KL l (l.take n).length=true:=by kernel_rfl) (hm:c.P.follows .mixedOrders=true:=by exact drawsAny)
  (h:Jw c.tb l false σ.objs [] (l.take n) 0 [] [] σ=some (vc,σ'):=by simp only[List.take_succ_cons,List.take_zero,go_sem,Nat.reduceEqDiff,reduceCtorEq,Nat.reduceAdd,Nat.reduceSub,Nat.reduceMul,Nat.reduceLeDiff,Nat.reduceLT,Int.reduceLE,Int.reduceToNat,Int.reduceNeg,↓reduceIte];rfl):Ev c R (.run (.region id l.toArray true)) k σ:=rZ hm hc n hchk h hvc hk
theorem rM (hc:c.Ok) {ops:Array Oper} {rest:List Oper} {dst:Option Nat} {g:Operand} {xs:List Operand} {ts:Array TypeId} {ty:TypeId} {pos:String} {after:Array Edge}
  {f:FuncId} {capn:List Nat} {as:List AV} {A:List AV} {objs:List (Nat×Obj)} {stay:List Nat} {post:AV→List (Nat×Obj)→Prop} (hM:Ca c.P f A objs stay post)
  (ren:List (Nat×Bm)) (hs:List Nat) (hA:BA σ ren (as++capn.map fun n=>AV.bp n [] 0) A) (hO:Ab σ.objs ren objs)
  (hk:∀res objs',post res objs'→∃(ren2:List (Nat×Bm)) (res2:AV) (objs2:List (Nat×Obj)),Bv ren2=true∧B9 objs2 ren2=true∧Ab objs' ren2 objs2∧BX ren2 res res2 ∧
   Hq ren ren2 stay hs=true∧Eq (Ag ren) objs2 σ.objs=true∧GK c R k ops rest (B1 σ (Ag ren) hs dst res2 objs2))
  (hg:Cl (Aq σ g)=some (f,capn):=by simp only[go_sem,Nat.reduceEqDiff,reduceCtorEq,Nat.reduceAdd,Nat.reduceSub,Nat.reduceMul,Nat.reduceLeDiff,Nat.reduceLT,Int.reduceLE,Int.reduceToNat,Int.reduceNeg,↓reduceIte];rfl) (has:Ha σ xs=some as:=by simp only[go_sem,Nat.reduceEqDiff,reduceCtorEq,Nat.reduceAdd,Nat.reduceSub,Nat.reduceMul,Nat.reduceLeDiff,Nat.reduceLT,Int.reduceLE,Int.reduceToNat,Int.reduceNeg,↓reduceIte];rfl)
  (h1:Bv ren=true:=by rfl) (h2:B9 objs ren=true:=by rfl) (hpin:(c.ds.pin.all fun p=>!AW p.1 hs)=true:=by rfl) :
  GK c R k ops (⟨dst,.call ⟨.value g,xs.toArray,ts⟩,ty,pos,after,none⟩ :: rest) σ:=rV hc hg has hM ren hs h1 h2 hpin hA hO hk
theorem rY (n yn:Nat) (hc:c.Ok) {ops:Array Oper} {rest:List Oper} {dst:Option Nat} {g:Operand} {xs:List Operand} {ts:Array TypeId} {ty:TypeId} {pos:String} {after:Array Edge}
  {as:List AV} {A:List AV} {objs:List (Nat×Obj)} {stay:List Nat} {post:AV→List (Nat×Obj)→Prop} (hM:Yl c.P yn A objs stay post)
  (ren:List (Nat×Bm)) (hs:List Nat) (hA:BA σ ren as A) (hO:Ab σ.objs ren objs)
  (hk:∀res objs',post res objs'→∃(ren2:List (Nat×Bm)) (res2:AV) (objs2:List (Nat×Obj)),Bv ren2=true∧B9 objs2 ren2=true∧Ab objs' ren2 objs2∧BX ren2 res res2 ∧
   Hq ren ren2 stay hs=true∧Eq (Ag ren) objs2 σ.objs=true∧GK c R k ops rest (B1 σ (Ag ren) hs dst res2 objs2))
  (hr0:c.r=none:=by rfl) (hg:Wz n (Aq σ g)=true:=by simp only[go_sem,Nat.reduceEqDiff,reduceCtorEq,Nat.reduceAdd,Nat.reduceSub,Nat.reduceMul,Nat.reduceLeDiff,Nat.reduceLT,Int.reduceLE,Int.reduceToNat,Int.reduceNeg,↓reduceIte]) (has:Ha σ xs=some as:=by simp only[go_sem,Nat.reduceEqDiff,reduceCtorEq,Nat.reduceAdd,Nat.reduceSub,Nat.reduceMul,Nat.reduceLeDiff,Nat.reduceLT,Int.reduceLE,Int.reduceToNat,Int.reduceNeg,↓reduceIte];rfl)
  (hyn:lk yn ren=some (.nm n):=by rfl) (h1:Bv ren=true:=by rfl) (h2:B9 objs ren=true:=by rfl) (hpin:(c.ds.pin.all fun p=>!AW p.1 hs)=true:=by rfl) :
  GK c R k ops (⟨dst,.call ⟨.value g,xs.toArray,ts⟩,ty,pos,after,none⟩ :: rest) σ:=nH hc hr0 hg has hM ren hs hyn h1 h2 hpin hA hO hk
end
end
/- Code with labels that nothing jumps to: a scope, a label. -/
section
open Go Go.RowKit
section
variable {P:Program} {b:Frame} {a:Act} {k:List Item} {cs:List Frame} {w:World}
end
section
variable {c:Cx} {R:Exit→Act→World→Prop} {k:List DW} {σ:St}
end
end
/- Several steps of control in one. -/
section
open Go Go.RowKit
def fW:fH→List DW→Option (fH×List DW)
 | .run (.seq x y),k=>some (.run x,.seq y :: k)
 | .run .skip,k=>some (.out .normal,k)
 | .run .ret,k=>some (.out .ret,k)
 | .run (.exit id),k=>some (.out (.exit id),k)
 | .run (.block id b),k=>some (.run b,.blk id :: k)
 | .out .normal,.seq y :: k=>some (.run y,k)
 | .out .normal,.blk _ :: k=>some (.out .normal,k)
 | .out (.exit id),.seq _ :: k=>some (.out (.exit id),k)
 | .out (.exit id'),.blk id :: k=>if id'=id then some (.out .normal,k) else some (.out (.exit id'),k)
 | .out (.exit id),.inv _ :: k=>some (.out (.exit id),k)
 | .out .ret,.seq _ :: k=>some (.out .ret,k)
 | .out .ret,.blk _ :: k=>some (.out .ret,k)
 | .out .ret,.inv _ :: k=>some (.out .ret,k)
 | _,_=>none
def SW:Nat→fH→List DW→fH×List DW
 | 0,n,k=>(n,k)
 | m+1,n,k=>match fW n k with
  | some (n',k')=>SW m n' k'
  | none=>(n,k)
def fX (n:fH) (k:List DW):Option (fH×List DW):=match fW n k with
 | some (n',k')=>some (SW 200 n' k')
 | none=>none
section
variable {c:Cx} {R:Exit→Act→World→Prop} {σ:St}
theorem Yn {n n':fH} {k k':List DW} (e:fW n k=some (n',k')) (h:Ev c R n' k' σ):Ev c R n k σ:=by
 unfold fW at e
 split at e<;>first
  | (cases e;done)
  | (split at e<;>(cases e;first|(rename_i hid;rw[hid];exact bM h)|exact bN (by assumption) h))
  | (cases e;first|exact A1u h|exact xN h|exact A1v h|exact xO h|exact rF h|exact bG h|exact bI h|exact YM h|exact YN h|exact bH h|exact bJ h|exact bK h)
theorem VA:∀(m:Nat) {n:fH} {k:List DW},Ev c R (SW m n k).1 (SW m n k).2 σ→Ev c R n k σ
 | 0,_,_,h=>h
 | m+1,n,k,h=>by
  unfold SW at h
  split at h
  ·rename_i n' k' e
   exact Yn e (VA m h)
  ·exact h
theorem eS {n n':fH} {k k':List DW} (e:fX n k=some (n',k')) (h:Ev c R n' k' σ):Ev c R n k σ:=by
 unfold fX at e
 split at e
 ·rename_i n1 k1 e1
  refine Yn e1 (VA 200 ?_)
  have:=Option.some.inj e
  rw[this]
  exact h
 ·cases e
end
inductive RX (c:Cx) (lv:List Nat) (σ:St) (vc:Prop) (σ':St):Array Oper→Bool→Prop
 | p {l:List Oper} (h0:(l.all fun o=>o.guard.isNone)=true) (h:DK lv (Bk c.tb l l σ)=some (vc,σ')):RX c lv σ vc σ' l.toArray false
 | a {l:List Oper} (h0:mV l l.length=true) (h:DK lv (Jw c.tb l true σ.objs [] l 0 [] [] σ)=some (vc,σ')):RX c lv σ vc σ' l.toArray false
 | d {l:List Oper} (h0:KL l l.length=true) (hm:c.P.follows .mixedOrders=true) (h:DK lv (Jw c.tb l false σ.objs [] l 0 [] [] σ)=some (vc,σ')):RX c lv σ vc σ' l.toArray true
 | t {l:List Oper} (m:Nat) (h0:KL l (l.take (l.length-m)).length=true) (hm:c.P.follows .mixedOrders=true) (h:DK lv (Jw c.tb l false σ.objs (l.drop (l.length-m)) (l.take (l.length-m)) 0 [] [] σ)=some (vc,σ')):RX c lv σ vc σ' l.toArray true
theorem A2u {c:Cx} {R:Exit→Act→World→Prop} {k:List DW} {σ σ':St} {lv:List Nat} (hc:c.Ok) {id:Nat} {ops:Array Oper} {dr:Bool} {vc:Prop} (hvc:vc) (hk:Ev c R (.out .normal) k σ') (h:RX c lv σ vc σ' ops dr):Ev c R (.run (.region id ops dr)) k σ:=by
 cases h with
 | p h0 h=>exact KQ lv hc h0 h hvc hk
 | a h0 h=>exact Yb lv hc h0 h hvc hk
 | d h0 hm h=>exact m6 lv hm hc h0 h hvc hk
 | t m h0 hm h=>exact m7 lv m hm hc h0 h hvc hk
theorem rX {c:Cx} {R:Exit→Act→World→Prop} {k:List DW} {σ σ':St} (lv:List Nat) (hc:c.Ok) {id:Nat} {ops:Array Oper} {dr:Bool} {vc:Prop} (hvc:vc) (hk:Ev c R (.out .normal) k σ')
  (h:RX c lv σ vc σ' ops dr:=by
   first
   | exact .p rfl (by simp only[go_sem,Nat.reduceEqDiff,reduceCtorEq,Nat.reduceAdd,Nat.reduceSub,Nat.reduceMul,Nat.reduceLeDiff,Nat.reduceLT,Int.reduceLE,Int.reduceToNat,Int.reduceNeg,↓reduceIte];rfl)
   | exact .a (by kernel_rfl) (by simp only[go_sem,Nat.reduceEqDiff,reduceCtorEq,Nat.reduceAdd,Nat.reduceSub,Nat.reduceMul,Nat.reduceLeDiff,Nat.reduceLT,Int.reduceLE,Int.reduceToNat,Int.reduceNeg,↓reduceIte];rfl)
   | exact .d (by kernel_rfl) (by exact drawsAny) (by simp only[go_sem,Nat.reduceEqDiff,reduceCtorEq,Nat.reduceAdd,Nat.reduceSub,Nat.reduceMul,Nat.reduceLeDiff,Nat.reduceLT,Int.reduceLE,Int.reduceToNat,Int.reduceNeg,↓reduceIte];rfl)
   | exact .t 1 (by kernel_rfl) (by exact drawsAny) (by simp only[List.take_succ_cons,List.drop_succ_cons,List.take_zero,List.drop_zero,go_sem,Nat.reduceEqDiff,reduceCtorEq,Nat.reduceAdd,Nat.reduceSub,Nat.reduceMul,Nat.reduceLeDiff,Nat.reduceLT,Int.reduceLE,Int.reduceToNat,Int.reduceNeg,↓reduceIte];rfl)
   | exact .t 2 (by kernel_rfl) (by exact drawsAny) (by simp only[List.take_succ_cons,List.drop_succ_cons,List.take_zero,List.drop_zero,go_sem,Nat.reduceEqDiff,reduceCtorEq,Nat.reduceAdd,Nat.reduceSub,Nat.reduceMul,Nat.reduceLeDiff,Nat.reduceLT,Int.reduceLE,Int.reduceToNat,Int.reduceNeg,↓reduceIte];rfl)
   | exact .t 3 (by kernel_rfl) (by exact drawsAny) (by simp only[List.take_succ_cons,List.drop_succ_cons,List.take_zero,List.drop_zero,go_sem,Nat.reduceEqDiff,reduceCtorEq,Nat.reduceAdd,Nat.reduceSub,Nat.reduceMul,Nat.reduceLeDiff,Nat.reduceLT,Int.reduceLE,Int.reduceToNat,Int.reduceNeg,↓reduceIte];rfl)):Ev c R (.run (.region id ops dr)) k σ:=A2u hc hvc hk h
/-! What is reckoned, in one word -/
theorem eN {p:Prop} (h:p:=by simp only[go_sem,Nat.reduceEqDiff,reduceCtorEq,Nat.reduceAdd,Nat.reduceSub,Nat.reduceMul,Nat.reduceLeDiff,Nat.reduceLT,Int.reduceLE,Int.reduceToNat,Int.reduceNeg,↓reduceIte]<;>fail):p:=h
theorem eM {p q:Prop} (hq:q) (h:p=q:=by simp only[go_sem,Nat.reduceEqDiff,reduceCtorEq,Nat.reduceAdd,Nat.reduceSub,Nat.reduceMul,Nat.reduceLeDiff,Nat.reduceLT,Int.reduceLE,Int.reduceToNat,Int.reduceNeg,↓reduceIte];rfl):p:=h▸hq
theorem eR {p:Prop} (h:p:=by simp only[Nc,Jj,IC,JD,LF,ID,Gu,go_sem,Nat.reduceEqDiff,reduceCtorEq,Nat.reduceAdd,Nat.reduceSub,Nat.reduceMul,Nat.reduceLeDiff,Nat.reduceLT,Int.reduceLE,Int.reduceToNat,Int.reduceNeg,↓reduceIte]<;>fail):p:=h
theorem Ap {p q:Prop} (hq:q) (h:p=q:=by simp only[Nc,Jj,IC,JD,LF,ID,Gu,go_sem,Nat.reduceEqDiff,reduceCtorEq,Nat.reduceAdd,Nat.reduceSub,Nat.reduceMul,Nat.reduceLeDiff,Nat.reduceLT,Int.reduceLE,Int.reduceToNat,Int.reduceNeg,↓reduceIte];rfl):p:=h▸hq
theorem eV {p:Prop} (h:p:=by (try dsimp only[Ty.den]at *)<;>(repeat'(first|apply And.intro|intro _))<;>omega):p:=h
end
/- A call by contract under a guard that holds. -/
section
open Go Go.RowKit
section
variable {c:Cx} {R:Exit→Act→World→Prop} {k:List DW} {σ σ':St}
theorem sQ (hc:c.Ok) {id:Nat} {l:List Oper} (n:Nat) {vc:Prop} (h:Bk c.tb l (l.take n) σ=some (vc,σ')) (hvc:vc) (hk:GK c R k l.toArray (l.drop n) σ') :
  Ev c R (.run (.region id l.toArray false)) k σ:=by
 intro h1 h2 a w hs
 simp only[Ib,CE,List.all_eq_true]at h1
 exact wpIn_region_list (Nm hc n (by simpa using h) hvc hk (fun o ho=>h1 o ho) h2 a w hs)
theorem nM (hc:c.Ok) {ops:Array Oper} {rest:List Oper} {dst:Option Nat} {g:Operand} {xs:List Operand} {ts:Array TypeId} {ty:TypeId} {pos:String} {after:Array Edge} {gd:Option (Nat×Bool)}
  (hgd:EF ops.toList σ gd=some true)
  {f:FuncId} {capn:List Nat} (hg:Cl (Aq σ g)=some (f,capn)) {as:List AV} (has:Ha σ xs=some as)
  {A:List AV} {objs:List (Nat×Obj)} {stay:List Nat} {post:AV→List (Nat×Obj)→Prop} (hM:Ca c.P f A objs stay post)
  (ren:List (Nat×Bm)) (hs:List Nat) (h1:Bv ren=true) (h2:B9 objs ren=true) (hpin:(c.ds.pin.all fun p=>!AW p.1 hs)=true) (hA:BA σ ren (as++capn.map fun n=>AV.bp n [] 0) A) (hO:Ab σ.objs ren objs)
  (hk:∀res objs',post res objs'→∃(ren2:List (Nat×Bm)) (res2:AV) (objs2:List (Nat×Obj)),Bv ren2=true∧B9 objs2 ren2=true∧Ab objs' ren2 objs2∧BX ren2 res res2 ∧
   Hq ren ren2 stay hs=true∧Eq (Ag ren) objs2 σ.objs=true∧GK c R k ops rest (B1 σ (Ag ren) hs dst res2 objs2)) :
  GK c R k ops (⟨dst,.call ⟨.value g,xs.toArray,ts⟩,ty,pos,after,gd⟩ :: rest) σ:=by
 intro hd hko a w hsat
 unfold wpListIn
 rw[if_pos (Ga (o:=⟨dst,.call ⟨.value g,xs.toArray,ts⟩,ty,pos,after,gd⟩) hsat hgd)]
 refine Wq hc (xs:=xs) (ts:=ts) rfl rfl hg has hM ren h1 h2 hA hO hs hpin hsat (Bd (hd _ (by simp))) fun res objs' hp=>?_
 obtain⟨ren2,res2,objs2,g1,g2,g3,g4,g5,g6,hE⟩:=hk res objs' hp
 exact⟨ren2,res2,objs2,g1,g2,g3,g4,g5,g6,fun a' w' hs'=>hE (fun o ho=>hd o (by simp[ho])) hko a' w' hs'⟩
end
end
/- The rules of mixed and guarded regions in their shortest form. -/
section
open Go Go.RowKit
section
variable {c:Cx} {ops:List Oper} {Kf:St→Prop} {τ:St} {ens:EN} {vc:Prop}
theorem UN {A D:List Nat} {l:Nat} {ps:List (List Nat×Nat)} {o:Oper} {σ1:St} {ens1:EN} (hvc:vc) (hL:bW c o σ1 ens1 (fun τ'=>r7 c ops Kf ps D ens1 τ')) (h:bV c.tb ops τ.objs (A++qs ps D) [] τ.env=some (vc,ens):=by simp only[go_sem,Nat.reduceEqDiff,reduceCtorEq,Nat.reduceAdd,Nat.reduceSub,Nat.reduceMul,Nat.reduceLeDiff,Nat.reduceLT,Int.reduceLE,Int.reduceToNat,Int.reduceNeg,↓reduceIte];rfl) (hfr:PH ens τ.objs=true:=by rfl) (ho:ops[l]?=some o:=by rfl)
  (hσ:KR (ens.take A.length) τ=σ1:=by simp only[go_sem,Nat.reduceEqDiff,reduceCtorEq,Nat.reduceAdd,Nat.reduceSub,Nat.reduceMul,Nat.reduceLeDiff,Nat.reduceLT,Int.reduceLE,Int.reduceToNat,Int.reduceNeg,↓reduceIte];rfl) (he:ens.drop A.length=ens1:=by simp only[go_sem,Nat.reduceEqDiff,reduceCtorEq,Nat.reduceAdd,Nat.reduceSub,Nat.reduceMul,Nat.reduceLeDiff,Nat.reduceLT,Int.reduceLE,Int.reduceToNat,Int.reduceNeg,↓reduceIte];rfl):r7 c ops Kf ((A,l) :: ps) D ens τ:=sJ h hvc hfr ho hσ he hL
theorem wM {R:Exit→Act→World→Prop} {k:List DW} {σ':St} (lv:List Nat) (hc:c.Ok) {D:List Nat} {l:List Oper} {vc2:Prop} (hvc:vc) (hvc2:vc2) (hk:Ev c R (.out .normal) k σ') (h:bV c.tb ops τ.objs D [] τ.env=some (vc,ens):=by simp only[go_sem,Nat.reduceEqDiff,reduceCtorEq,Nat.reduceAdd,Nat.reduceSub,Nat.reduceMul,Nat.reduceLeDiff,Nat.reduceLT,Int.reduceLE,Int.reduceToNat,Int.reduceNeg,↓reduceIte];rfl) (hfr:PH ens τ.objs=true:=by rfl)
  (h2:DK lv (Bk c.tb ops l (KR ens τ))=some (vc2,σ'):=by simp only[go_sem,Nat.reduceEqDiff,reduceCtorEq,Nat.reduceAdd,Nat.reduceSub,Nat.reduceMul,Nat.reduceLeDiff,Nat.reduceLT,Int.reduceLE,Int.reduceToNat,Int.reduceNeg,↓reduceIte];rfl):r7 c ops (fun τ=>GK c R k ops.toArray l τ) [] D ens τ:=sI h hvc hfr (Nr lv hc h2 hvc2 hk)
end
section
variable {c:Cx} {o:Oper} {σ:St} {ens:EN} {N:St→Prop} {R:Exit→Act→World→Prop} {k:List DW} {σ':St}
theorem Xw (hc:c.Ok) {τ:St} {vc:Prop} (ns:List Nat) (hvc:vc) (hN:N τ) (h:Hk c.tb o σ=some (vc,τ):=by simp only[go_sem,Nat.reduceEqDiff,reduceCtorEq,Nat.reduceAdd,Nat.reduceSub,Nat.reduceMul,Nat.reduceLeDiff,Nat.reduceLT,Int.reduceLE,Int.reduceToNat,Int.reduceNeg,↓reduceIte];rfl) (hns:tn σ o.op=ns:=by simp only[go_sem,Nat.reduceEqDiff,reduceCtorEq,Nat.reduceAdd,Nat.reduceSub,Nat.reduceMul,Nat.reduceLeDiff,Nat.reduceLT,Int.reduceLE,Int.reduceToNat,Int.reduceNeg,↓reduceIte]) (hsl:Md o ens=true:=by rfl) (hn:KV ns σ.objs ens=true:=by rfl) (hfr:SU τ.objs ens=true:=by rfl)
  (hf:Il ns ens=ens:=by simp only[go_sem,Nat.reduceEqDiff,reduceCtorEq,Nat.reduceAdd,Nat.reduceSub,Nat.reduceMul,Nat.reduceLeDiff,Nat.reduceLT,Int.reduceLE,Int.reduceToNat,Int.reduceNeg,↓reduceIte]) (hd:Ia c.nt o=true:=by rfl):bW c o σ ens N:=nF hc ns h hns hsl hn hfr hf hd hvc hN
theorem mxC (hc:c.Ok) {dst:Option Nat} {g:Operand} {xs:List Operand} {ts:Array TypeId} {ty:TypeId} {pos:String} {after:Array Edge} {f:FuncId} {capn:List Nat} {as:List AV}
  {A:List AV} {objs:List (Nat×Obj)} {stay:List Nat} {post:AV→List (Nat×Obj)→Prop} (hM:Ca c.P f A objs stay post) (ren:List (Nat×Bm)) (hs:List Nat)
  (hA:BA σ ren (as++capn.map fun n=>AV.bp n [] 0) A) (hO:Ab σ.objs ren objs)
  (hk:∀res objs',post res objs'→∃(ren2:List (Nat×Bm)) (res2:AV) (objs2:List (Nat×Obj)),Bv ren2=true∧B9 objs2 ren2=true∧Ab objs' ren2 objs2∧BX ren2 res res2 ∧
   Hq ren ren2 stay hs=true∧Eq (Ag ren) objs2 σ.objs=true∧SU objs2 ens=true∧N (B1 σ (Ag ren) hs dst res2 objs2))
  (hg:Cl (Aq σ g)=some (f,capn):=by simp only[go_sem,Nat.reduceEqDiff,reduceCtorEq,Nat.reduceAdd,Nat.reduceSub,Nat.reduceMul,Nat.reduceLeDiff,Nat.reduceLT,Int.reduceLE,Int.reduceToNat,Int.reduceNeg,↓reduceIte];rfl) (has:Ha σ xs=some as:=by simp only[go_sem,Nat.reduceEqDiff,reduceCtorEq,Nat.reduceAdd,Nat.reduceSub,Nat.reduceMul,Nat.reduceLeDiff,Nat.reduceLT,Int.reduceLE,Int.reduceToNat,Int.reduceNeg,↓reduceIte];rfl) (h1:Bv ren=true:=by rfl) (h2:B9 objs ren=true:=by rfl) (hpin:(c.ds.pin.all fun p=>!AW p.1 hs)=true:=by rfl)
  (hsl:Md ⟨dst,.call ⟨.value g,xs.toArray,ts⟩,ty,pos,after,none⟩ ens=true:=by rfl) (hn:KV (Ag ren) σ.objs ens=true:=by rfl) (hf:Il hs ens=ens:=by simp only[go_sem,Nat.reduceEqDiff,reduceCtorEq,Nat.reduceAdd,Nat.reduceSub,Nat.reduceMul,Nat.reduceLeDiff,Nat.reduceLT,Int.reduceLE,Int.reduceToNat,Int.reduceNeg,↓reduceIte]) (hd:Ia c.nt ⟨dst,.call ⟨.value g,xs.toArray,ts⟩,ty,pos,after,none⟩=true:=by rfl) :
  bW c ⟨dst,.call ⟨.value g,xs.toArray,ts⟩,ty,pos,after,none⟩ σ ens N:=nG hc hg has hM ren hs h1 h2 hpin hsl hn hf hd hA hO hk
theorem evP (hc:c.Ok) {id:Nat} {l:List Oper} (n:Nat) {vc:Prop} (hvc:vc) (hk:GK c R k l.toArray (l.drop n) σ') (h:Bk c.tb l (l.take n) σ=some (vc,σ'):=by simp only[List.take_succ_cons,List.take_zero,go_sem,Nat.reduceEqDiff,reduceCtorEq,Nat.reduceAdd,Nat.reduceSub,Nat.reduceMul,Nat.reduceLeDiff,Nat.reduceLT,Int.reduceLE,Int.reduceToNat,Int.reduceNeg,↓reduceIte];rfl):Ev c R (.run (.region id l.toArray false)) k σ:=sQ hc n h hvc hk
theorem clG (hc:c.Ok) {ops:Array Oper} {rest:List Oper} {dst:Option Nat} {g:Operand} {xs:List Operand} {ts:Array TypeId} {ty:TypeId} {pos:String} {after:Array Edge} {gd:Option (Nat×Bool)} {f:FuncId} {capn:List Nat} {as:List AV}
  {A:List AV} {objs:List (Nat×Obj)} {stay:List Nat} {post:AV→List (Nat×Obj)→Prop} (hM:Ca c.P f A objs stay post) (ren:List (Nat×Bm)) (hs:List Nat) (hA:BA σ ren (as++capn.map fun n=>AV.bp n [] 0) A) (hO:Ab σ.objs ren objs)
  (hk:∀res objs',post res objs'→∃(ren2:List (Nat×Bm)) (res2:AV) (objs2:List (Nat×Obj)),Bv ren2=true∧B9 objs2 ren2=true∧Ab objs' ren2 objs2∧BX ren2 res res2 ∧
   Hq ren ren2 stay hs=true∧Eq (Ag ren) objs2 σ.objs=true∧GK c R k ops rest (B1 σ (Ag ren) hs dst res2 objs2))
  (hgd:EF ops.toList σ gd=some true:=by simp only[go_sem,Nat.reduceEqDiff,reduceCtorEq,Nat.reduceAdd,Nat.reduceSub,Nat.reduceMul,Nat.reduceLeDiff,Nat.reduceLT,Int.reduceLE,Int.reduceToNat,Int.reduceNeg,↓reduceIte]) (hg:Cl (Aq σ g)=some (f,capn):=by simp only[go_sem,Nat.reduceEqDiff,reduceCtorEq,Nat.reduceAdd,Nat.reduceSub,Nat.reduceMul,Nat.reduceLeDiff,Nat.reduceLT,Int.reduceLE,Int.reduceToNat,Int.reduceNeg,↓reduceIte];rfl) (has:Ha σ xs=some as:=by simp only[go_sem,Nat.reduceEqDiff,reduceCtorEq,Nat.reduceAdd,Nat.reduceSub,Nat.reduceMul,Nat.reduceLeDiff,Nat.reduceLT,Int.reduceLE,Int.reduceToNat,Int.reduceNeg,↓reduceIte];rfl) (h1:Bv ren=true:=by rfl) (h2:B9 objs ren=true:=by rfl) (hpin:(c.ds.pin.all fun p=>!AW p.1 hs)=true:=by rfl) :
  GK c R k ops (⟨dst,.call ⟨.value g,xs.toArray,ts⟩,ty,pos,after,gd⟩ :: rest) σ:=nM hc hgd hg has hM ren hs h1 h2 hpin hA hO hk
theorem Gb (l:List Nat) {n:fH} {σ1:St} (hk:Ev c R n k σ1) (h:Cd l σ=σ1:=by simp only[go_sem,Nat.reduceEqDiff,reduceCtorEq,Nat.reduceAdd,Nat.reduceSub,Nat.reduceMul,Nat.reduceLeDiff,Nat.reduceLT,Int.reduceLE,Int.reduceToNat,Int.reduceNeg,↓reduceIte];rfl):Ev c R n k σ:=Ev.ent hk (fM l h fun _ _ h=>h)
theorem A4F (l:List Nat) {σ1:St} (he:xM c σ1 σ') (h:Cd l σ=σ1:=by simp only[go_sem,Nat.reduceEqDiff,reduceCtorEq,Nat.reduceAdd,Nat.reduceSub,Nat.reduceMul,Nat.reduceLeDiff,Nat.reduceLT,Int.reduceLE,Int.reduceToNat,Int.reduceNeg,↓reduceIte];rfl):xM c σ σ':=fM l h he
end
theorem eT {p:Prop} (h:p:=by simp only[Ut,m5,PF,Us,IC,JD,ID,go_sem,Nat.reduceEqDiff,reduceCtorEq,Nat.reduceAdd,Nat.reduceSub,Nat.reduceMul,Nat.reduceLeDiff,Nat.reduceLT,Int.reduceLE,Int.reduceToNat,Int.reduceNeg,↓reduceIte]<;>fail):p:=h
end
/- append to a nested array's row in the midst of a statement: what looks at the rows from outside may float around it. -/
section
open Go Go.RowKit
structure sR (X σ:St) (n:Nat):Prop where
 env:∀s v,lk s X.env=some v→v.trn n []=v
 arr:∀m o,lk m X.objs=some o→KT o=true
 new:∀m o,lk m X.objs=some o→lk m σ.objs=none
 nm:∀m o,lk m X.objs=some o→m≠n
section
variable {σ σ' X:St} {n:Nat}
theorem sR.obs (hx:Ov σ σ' X) (ha:sR X σ n):Xv σ σ':=by
 intro m o hn
 rw[hx.objs]
 cases hX:lk m X.objs with
 | none=>exact hn
 | some o'=>rw[ha.new m o' hX]at hn;cases hn
def A4G (σ:St):Op→Option Nat
 | .call c=>match c.callee,c.args.toList,c.argTypes.toList with
  | .builtin .append,[x,_],[_,_]=>(match Aq σ x with|some (.nin n _ _ _)=>some n|_=>none)
  | _,_,_=>none
 | _=>none
end
def A15 (n:Nat):EN→EN
 | []=>[]
 | (d,v,obs) :: r=>(d,v.trn n [],obs) :: A15 n r
section
variable {c:Cx} {o:Oper} {σ:St} {ens:EN} {N:St→Prop}
end
end
/- Objects given up, with what is pinned apart; a range over a map. -/
section
open Go Go.RowKit
section
variable {P:Program} {tb:Tb} {w0:World} {K O0:Nat→Prop} {nt:Nat} {ds:Fp} {σ:St} {ρ:Nat→Value} {a:Act} {w:World}
theorem Bb.swapP (h:Bb w0 K O0 nt ds σ ρ a w) (hK:∀b,K b→b<w0.heap.size) (hO:∀b,O0 b→b<w0.heap.size) {T:Nat→Prop} (hT:∀n,T n→∃o,lk n σ.objs=some o) (hP:∀p∈ds.pin,¬T p.1)
  {new:List (Nat×Obj)} {σ':St} {ρ':Nat→Value} {w':World} {dst:Option Nat} {u:Value}
  (hos:w'.os=w.os) (htape:w'.tape=w.tape) (hout:w'.output=w.output) (hsz:w.heap.size≤w'.heap.size)
  (hheap:∀b,b<w.heap.size→(∀n,T n→¬bk (ρ n) b)→w'.heap[b]?=w.heap[b]?)
  (hold:∀n o,lk n σ'.objs=some o→lk n new=none→¬T n∧∃o1,lk n σ.objs=some o1)
  (hkeep:∀n o,lk n σ.objs=some o→¬T n→lk n new=none∧∃o1,lk n σ'.objs=some o1)
  (hρ:∀n,lk n new=none→ρ' n=ρ n)
  (hpl:∀n o b,lk n new=some o→bk (ρ' n) b→(∃m,T m∧bk (ρ m) b)∨w.heap.size≤b)
  (hdist:∀n m o o' b,lk n new=some o→lk m new=some o'→bk (ρ' n) b→bk (ρ' m) b→n=m)
  (hobjs:∀n o,lk n σ'.objs=some o→Av (vw w' O0 σ' ρ') o (ρ' n))
  (henv:∀s v,lk s σ'.env=some v→Br (vw w' O0 σ' ρ') v ((a.put dst u).tmps.getD s undef)) :
  Bb w0 K O0 nt ds σ' ρ' (a.put dst u) w':=by
 have hblk:∀m,T m→∀b,bk (ρ m) b→b<w.heap.size:=fun m hm b hb=>by
  obtain⟨o,ho⟩:=hT m hm
  exact(h.objs m o ho).block_lt hb
 have hfree:∀m,T m→∀b,bk (ρ m) b→¬K b∧¬O0 b:=fun m hm b hb=>by
  obtain⟨o,ho⟩:=hT m hm
  exact h.free m b ⟨o,ho⟩ hb
 refine⟨⟨hos.trans h.frm.os,htape.trans h.frm.tape,hout.trans h.frm.output,Nat.le_trans h.frm.size hsz,fun k hk=>?_⟩,by rw[KD];exact h.nt,by rw[Gr];exact h.defers,fun p hp=>?_,hobjs,?_,?_,henv⟩
 ·exact(hheap k (Nat.lt_of_lt_of_le (hK k hk) h.frm.size) fun n hn hb=>(hfree n hn k hb).1 hk).trans (h.frm.block k hk)
 ·obtain⟨⟨o,h1⟩,h2,h3⟩:=h.pin p hp
  have hne:¬T p.1:=hP p hp
  obtain⟨g1,g2⟩:=hkeep p.1 o h1 hne
  exact⟨g2,(hρ _ g1).trans h2,h3⟩
 ·intro n b hl hb
  obtain⟨o,ho⟩:=hl
  cases hn:lk n new with
  | none =>
   obtain⟨_,o1,h1⟩:=hold n o ho hn
   rw[hρ n hn]at hb
   exact h.free n b ⟨o1,h1⟩ hb
  | some o2 =>
   rcases hpl n o2 b hn hb with ⟨m,hm,hb'⟩|hge
   ·exact hfree m hm b hb'
   ·have:=h.frm.size
    exact⟨fun hk'=>by have:=hK b hk';omega,fun hk'=>by have:=hO b hk';omega⟩
 ·have key:∀n m o o2 b,lk n σ'.objs=some o→lk n new=none→lk m new=some o2→bk (ρ' n) b→bk (ρ' m) b→False:=by
   intro n m o o2 b ho hn hm h1 h2
   obtain⟨hnt,o1,ho1⟩:=hold n o ho hn
   rw[hρ n hn]at h1
   rcases hpl m o2 b hm h2 with ⟨m',hm',hb'⟩|hge
   ·obtain⟨o3,ho3⟩:=hT m' hm'
    have:=h.dist n m' b ⟨o1,ho1⟩ ⟨o3,ho3⟩ h1 hb'
    exact hnt (this▸hm')
   ·have hlt:b<w.heap.size:=(h.objs n o1 ho1).block_lt h1
    omega
  intro n m b hl hl' h1 h2
  obtain⟨o,ho⟩:=hl
  obtain⟨o',ho'⟩:=hl'
  cases hn:lk n new with
  | none =>
   cases hm:lk m new with
   | none =>
    obtain⟨_,o1,ho1⟩:=hold n o ho hn
    obtain⟨_,o2,ho2⟩:=hold m o' ho' hm
    rw[hρ n hn]at h1
    rw[hρ m hm]at h2
    exact h.dist n m b ⟨o1,ho1⟩ ⟨o2,ho2⟩ h1 h2
   | some o2=>exact(key n m o o2 b ho hn hm h1 h2).elim
  | some o1 =>
   cases hm:lk m new with
   | none=>exact(key m n o' o1 b ho' hm hn h2 h1).elim
   | some o2=>exact hdist n m o1 o2 b hn hm h1 h2
theorem Bb.swap1P (h:Bb w0 K O0 nt ds σ ρ a w) (hK:∀b,K b→b<w0.heap.size) (hO:∀b,O0 b→b<w0.heap.size) {tl:List Nat} (hT:∀n,n∈tl→∃o,lk n σ.objs=some o) (hP:∀p∈ds.pin,¬p.1∈tl)
  {nn:Nat} (hnn:nn∈tl∨lk nn σ.objs=none) {ob:Obj} {loc:Value} {w':World}
  (hos:w'.os=w.os) (htape:w'.tape=w.tape) (hout:w'.output=w.output) (hsz:w.heap.size≤w'.heap.size)
  (hheap:∀b,b<w.heap.size→(∀n,n∈tl→¬bk (ρ n) b)→w'.heap[b]?=w.heap[b]?)
  (hloc:∀b,bk loc b→(∃m,m∈tl∧bk (ρ m) b)∨w.heap.size≤b)
  (hob:∀V':Vw,V'.w=w'→B8 ⟨w,own O0 σ ρ,fun _=>False,ρ⟩ V'→(∀b m,m∈tl→bk (ρ m) b→¬bk loc b→¬V'.O b)→Av V' ob loc)
  {d:Nat} (hd:d<nt) {v:AV} {u:Value} (hav:∀V':Vw,V'.L nn→V'.ρ nn=loc→Br V' v u) :
  Bb w0 K O0 nt ds ⟨(d,v) :: Bi tl σ.env,(nn,ob) :: Ak tl tl σ.objs⟩ (Dg ρ nn loc) (a.put (some d) u) w':=by
 let S:St:=⟨(d,v) :: Bi tl σ.env,(nn,ob) :: Ak tl tl σ.objs⟩
 have hSo:∀m o,lk m S.objs=some o→(m=nn∧o=ob)∨(m≠nn∧m∉tl∧∃o1,lk m σ.objs=some o1∧o=o1.fgt tl):=by
  intro m o hm
  simp only[S,lk]at hm
  split at hm
  ·rename_i e1;cases hm;exact .inl ⟨e1,rfl⟩
  ·rename_i e1
   rw[BN]at hm
   split at hm
   ·cases hm
   ·rename_i e2
    simp only[Option.map_eq_some_iff]at hm
    obtain⟨o1,h1,rfl⟩:=hm
    exact .inr ⟨e1,fun h=>e2 ((AZ _ _).2 h),o1,h1,rfl⟩
 have hSl:∀m,m≠nn→m∉tl→∀o1,lk m σ.objs=some o1→lk m S.objs=some (o1.fgt tl):=by
  intro m h1 h2 o1 h3
  simp only[S,lk,if_neg h1,BN,h3]
  rw[if_neg fun h=>h2 ((AZ _ _).1 h)];rfl
 have hne:∀m,m∉tl→(∃o,lk m σ.objs=some o)→m≠nn:=by
  rintro m h1 ⟨o,h2⟩ rfl
  rcases hnn with h3|h3
  ·exact h1 h3
  ·rw[h3]at h2;cases h2
 have hρn:Dg ρ nn loc nn=loc:=BS _ _ _
 have hρo:∀m,m≠nn→Dg ρ nn loc m=ρ m:=fun m h1=>by simp[Dg,h1]
 generalize Dg ρ nn loc=ρ' at hρn hρo
 have hownS:∀b,b<w.heap.size→¬own O0 σ ρ b→¬own O0 S ρ' b:=by
  intro b hb hno hyes
  rcases hyes with h0|⟨m,⟨o,ho⟩,hbm⟩
  ·exact hno (.inl h0)
  ·rcases hSo m o ho with ⟨rfl,_⟩|⟨h1,h2,o1,h3,_⟩
   ·rw[hρn]at hbm
    rcases hloc b hbm with ⟨t,ht,h4⟩|h4
    ·obtain⟨o1,h5⟩:=hT t ht
     exact hno (.inr ⟨t,⟨o1,h5⟩,h4⟩)
    ·omega
   ·rw[hρo m h1]at hbm
    exact hno (.inr ⟨m,⟨o1,h3⟩,hbm⟩)
 have hheap':∀b,b<w.heap.size→¬own O0 σ ρ b→w'.heap[b]?=w.heap[b]?:=fun b hb hno=>hheap b hb fun n hn hbn=>by
  obtain⟨o1,h5⟩:=hT n hn
  exact hno (.inr ⟨n,⟨o1,h5⟩,hbn⟩)
 have hk0:B8 ⟨w,own O0 σ ρ,fun _=>False,ρ⟩ (vw w' O0 S ρ'):=⟨hownS,fun _ h=>h.elim,fun _ h=>h.elim,hheap'⟩
 have hk:B8 ((vw w O0 σ ρ).buts tl) (vw w' O0 S ρ'):=by
  refine⟨hownS,fun m hm=>?_,fun m hm=>?_,hheap'⟩
  ·obtain⟨⟨o1,h1⟩,h2⟩:=hm
   have h3:m∉tl:=fun h=>by rw[(AZ _ _).2 h]at h2;cases h2
   exact⟨_,hSl m (hne m h3 ⟨o1,h1⟩) h3 o1 h1⟩
  ·obtain⟨⟨o1,h1⟩,h2⟩:=hm
   have h3:m∉tl:=fun h=>by rw[(AZ _ _).2 h]at h2;cases h2
   exact hρo m (hne m h3 ⟨o1,h1⟩)
 refine h.swapP hK hO (T:=fun m=>m∈tl) hT hP (new:=[(nn,ob)]) hos htape hout hsz hheap ?_ ?_ ?_ ?_ ?_ ?_ ?_
 ·intro m o hm hnew
  rcases hSo m o hm with ⟨rfl,_⟩|⟨h1,h2,o1,h3,_⟩
  ·simp[lk]at hnew
  ·exact⟨h2,o1,h3⟩
 ·intro m o1 hm hnt
  have h1:=hne m hnt ⟨o1,hm⟩
  exact⟨by simp[lk,h1],_,hSl m h1 hnt o1 hm⟩
 ·intro m hm
  exact hρo m fun e1=>by simp[lk,e1]at hm
 ·intro m o b hm hb
  have h1:m=nn:=by
   by_cases h1:m=nn
   ·exact h1
   ·simp[lk,h1]at hm
  rw[h1,hρn]at hb
  exact hloc b hb
 ·intro m m' o o' b hm hm' _ _
  have key:∀j o,lk j [(nn,ob)]=some o→j=nn:=fun j o hj=>by
   by_cases h1:j=nn
   ·exact h1
   ·simp[lk,h1]at hj
  rw[key m o hm,key m' o' hm']
 ·intro m o hm
  rcases hSo m o hm with ⟨rfl,rfl⟩|⟨h1,h2,o1,h3,rfl⟩
  ·rw[hρn]
   refine hob _ rfl hk0 fun b m hm hb hnl hO=>?_
   obtain⟨o2,h5⟩:=hT m hm
   rcases hO with h0|⟨m',⟨o3,h6⟩,h7⟩
   ·exact(h.free m b ⟨o2,h5⟩ hb).2 h0
   ·rcases hSo m' o3 h6 with ⟨rfl,_⟩|⟨g1,g2,o1,g3,_⟩
    ·rw[hρn]at h7;exact hnl h7
    ·rw[hρo m' g1]at h7
     exact g2 ((h.dist m' m b ⟨_,g3⟩ ⟨_,h5⟩ h7 hb)▸hm)
  ·rw[hρo m h1]
   refine RJ hk (fun b hb=>hheap b ((h.objs m o1 h3).block_lt hb) fun n hn hbn=>?_) (h.objs m o1 h3)
   obtain⟨o2,h5⟩:=hT n hn
   exact h2 ((h.dist m n b ⟨_,h3⟩ ⟨_,h5⟩ hb hbn)▸hn)
 ·intro s x hs
  rw[JA a d u s (by rw[h.nt];exact hd)]
  simp only[S,lk]at hs
  split at hs
  ·rename_i es
   cases hs
   rw[if_pos es]
   exact hav _ ⟨ob,by simp[S,lk]⟩ hρn
  ·rename_i es
   rw[if_neg es]
   rw[Dd]at hs
   simp only[Option.map_eq_some_iff]at hs
   obtain⟨y,hy,rfl⟩:=hs
   exact(NV (h.env s y hy)).keeps hk
end
/-! ### A range over a map -/
theorem Yo {P:Program} (w:World) (ty:TypeId) (r bm since c0:Nat) (seen:Array Nat) (es:Array MapEntry) (clock:Nat) (hr:w.heap[r]?=some (.mapIter (some bm) since seen c0)) (hb:w.heap[bm]?=some (.map es clock)) (hold:∀x∈es.toList,x.born<since) (hsc:since≤c0) :
  ((leftOf es seen).size=0∧(Instr.next (.pointer (some ⟨r,0,none⟩)) false ty).run P w=.ok (.tuple #[.bool false]) w) ∨
  ∃e∈(leftOf es seen).toList,∃w1:World,(w1=w∨w1=w.drew)∧(Instr.next (.pointer (some ⟨r,0,none⟩)) false ty).run P w=.ok (.tuple #[.bool true,e.key,e.val]) { w1 with heap:=w1.heap.setIfInBounds r (.mapIter (some bm) since (seen.push e.born) clock) }:=by
 simp only[Instr.next,getObj,Sem.run_bind,Sem.run,hr,hb,Result.andThen,next_test_false seen es since c0 hold hsc,Bool.false_eq_true,if_false]
 unfold leftOf
 have hmem:∀x∈(Array.filter (fun e=>!seen.contains e.born) es).toList,x.born<since:=fun x hx=>hold x (by simp at hx ⊢;exact hx.1)
 generalize Array.filter (fun e=>!seen.contains e.born) es=L at hmem ⊢
 have e1:L.filter (fun x=>decide (x.born<since))=L:=Array.filter_eq_self.2 (fun x hx=>by simpa using hmem x (by simpa using hx))
 have e2:L.filter (fun x=>decide (x.born≥since))=#[]:=by
  rw[Array.filter_eq_empty_iff]
  intro x hx
  have:=hmem x (by simpa using hx)
  simp
  omega
 simp only[e1,e2,Array.append_empty]
 by_cases h0:L.size=0
 ·left
  have:L=#[]:=Array.eq_empty_of_size_eq_zero h0
  subst this
  refine⟨rfl,?_⟩
  simp[choose,Sem.run,Question.forced]
 ·right
  have hne:L.isEmpty=false:=by simp[Array.isEmpty,h0]
  simp only[hne,Bool.false_eq_true,if_false,Array.empty_append,Array.size_map]
  have hch:∃(j:Nat) (w1:World),j<L.size∧(w1=w∨w1=w.drew)∧(choose (Question.mapNext L.size)).run P w=.ok j w1:=by
   by_cases hf:L.size≤1
   ·exact⟨0,w,by omega,.inl rfl,by simp[choose,Sem.run,Question.forced,hf]⟩
   ·exact⟨_,w.drew,Nat.mod_lt _ (by omega),.inr rfl,by
     simp only[choose,Sem.run,Question.forced,decide_eq_true_eq,hf,if_false,Question.cut]
     rfl⟩
  obtain⟨j,w1,hj,hal,hrun⟩:=hch
  refine⟨L[j],by simp,w1,hal,?_⟩
  have hset:∀(o':_root_.Go.Obj),(setObj r o').run P w1=.ok () { w1 with heap:=w1.heap.setIfInBounds r o' }:=fun o'=>by
   have hr1:w1.heap[r]?=some (.mapIter (some bm) since seen c0):=by rcases hal with rfl|rfl<;>exact hr
   simp only[setObj,Sem.run,hr1]
  simp only[hrun,Array.getElem?_map,Array.getElem?_eq_getElem hj,Option.map_some,Sem.run_bind,hset,Result.andThen]
  rfl
theorem W9 {P:Program} (w:World) (r bm since:Nat) (seen:Array Nat) (es:Array MapEntry) (clock:Nat) (e:MapEntry) (hr:w.heap[r]?=some (.mapIter (some bm) since seen clock)) (hs:seen.back?=some e.born) (hb:w.heap[bm]?=some (.map es clock)) (he:e∈es.toList) (hn:(es.toList.map (·.born)).Nodup) :
  (Instr.entry (.pointer (some ⟨r,0,none⟩))).run P w=.ok (.tuple #[e.key,e.val]) w:=by
 have hf:es.find? (·.born==e.born)=some e:=by rw[←Array.find?_toList];exact find_born e es.toList hn he
 simp only[Instr.entry,getObj,Sem.run_bind,Sem.run,hr,hb,Result.andThen,hs,bne_self_eq_false,Bool.false_eq_true,if_false,hf]
 rfl
theorem Nu {w:World} {O:Nat→Prop} {k v:Ty}:∀ {es:List MapEntry} {l:List (k.den×v.den)},Lp w O k v es l→es.length=l.length∧∀(i:Nat) (e:MapEntry),es[i]?=some e→∃x,l[i]?=some x∧Bh w O k e.key x.1∧Bh w O v e.val x.2
 | [],[],_=>⟨rfl,fun i e h=>by simp at h⟩
 | [],_ :: _,h=>h.elim
 | _ :: _,[],h=>h.elim
 | e :: es,x :: l,⟨h1,h2,h3⟩=>by
  obtain⟨g1,g2⟩:=Nu h3
  refine⟨by simp[g1],fun i e' h=>?_⟩
  cases i with
  | zero=>simp at h;subst h;exact⟨x,by simp,h1,h2⟩
  | succ i=>simp at h;simpa using g2 i e' h
section
variable {c:Cx} {R:Exit→Act→World→Prop} {k:List DW} {σ:St}
theorem nN (hc:c.Ok) {ops:Array Oper} {rest:List Oper} {d n:Nat} {T:TypeId} {x:Operand} {ty:TypeId} {pos:String} {after:Array Edge}
  (hx:Aq σ x=some (.mp n)) {kt vt:Ty} {l:List (kt.den×vt.den)} (hn:lk n σ.objs=some (.mapo kt vt l)) {ki ei:TypeId} (hT:c.P.underlying T=some (.map ki ei)) (hpin:(c.ds.pin.all fun p=>!AW p.1 [n])=true) (hfr:lk d σ.objs=none)
  (hk:GK c R k ops rest ⟨(d,.bp d [] 0) :: Bi [n] σ.env,(d,.itr kt vt l (List.range l.length) none) :: Ak [n] [n] σ.objs⟩) :
  GK c R k ops (⟨some d,.range T x,ty,pos,after,none⟩ :: rest) σ:=by
 intro hd hko a w hsat
 unfold wpListIn
 rw[if_pos (by simp[Region.wanted])]
 obtain⟨ρ,hsr⟩:=hsat
 have hev:Ff (vw w c.O0 σ ρ) σ a.eval:=Di hsr.env
 obtain⟨hL,b,hρ,hxv⟩:=hev x _ hx
 have hρ:ρ n=_:=hρ
 obtain⟨b',ms,cl,hloc,hh,hes,hbn⟩:=hsr.objs n _ hn
 rw[hρ]at hloc
 injection hloc with hloc
 injection hloc with hloc
 subst hloc
 have hh:w.heap[b]?=some (.map ms cl):=hh
 have hblt:=BG hh
 have hrun:=run_range_map (P:=c.P) w T ki ei b ms cl hT hh
 have hdn:d<c.nt:=Bd (hd _ List.mem_cons_self) d rfl
 have hdd:d ∉ [n]:=by
  intro h
  have:d=n:=by simpa using h
  subst this
  rw[hfr]at hn;cases hn
 refine Am (u:=.pointer (some ⟨w.heap.size,0,none⟩)) (w':=w.alloc (.mapIter (some b) cl #[] cl)) (by simp[execOp,hxv,hrun]) (hk (fun o ho=>hd o (by simp[ho])) hko _ _ ⟨Dg ρ d (.pointer (some ⟨w.heap.size,0,none⟩)),?_⟩)
 refine hsr.swap1P hc.K hc.O (tl:=[n]) (w':=w.alloc (.mapIter (some b) cl #[] cl)) (u:=.pointer (some ⟨w.heap.size,0,none⟩)) (loc:=.pointer (some ⟨w.heap.size,0,none⟩)) (by simpa using ⟨_,hn⟩) (fun p hp hm=>?_) (.inr hfr) rfl rfl rfl ?_ ?_ ?_ ?_ hdn ?_
 ·have:=(List.all_eq_true.1 hpin) p hp
  rw[(AZ _ _).2 hm]at this
  cases this
 ·show w.heap.size≤(w.heap.push _).size
  simp
 ·intro b2 hb2 _
  exact heap_alloc_old w _ hb2
 ·intro b2 hb2
  simp[bk,blk]at hb2
  exact .inr (by omega)
 ·intro V' hV hK hown
  have hnO:¬V'.O b:=hown b n (by simp) (by rw[hρ];simp[bk,blk]) (by simp[bk,blk];omega)
  ·refine⟨w.heap.size,rfl,b,ms,cl,cl,#[],?_,hnO,?_,?_,hbn,?_,Nat.le_refl _,List.nodup_range,fun i=>?_,fun i hi=>by cases hi⟩
   ·rw[hV];exact heap_alloc_new w _
   ·rw[hV,heap_alloc_old w _ hblt];exact hh
   ·rw[hV]
    exact hes.mono hK.O (fun b2 hb2 _=>heap_alloc_old w _ hb2)
   ·intro s hs;exact hbn.2 s hs
   ·have:=(Nu hes).1
    simp only[List.mem_range]
    constructor
    ·intro hi
     have hi':i<ms.size:=by rw[←Array.length_toList,this];exact hi
     exact⟨ms[i],Array.getElem?_eq_getElem hi',by simp⟩
    ·rintro⟨e,he,_⟩
     have:=(Array.getElem?_eq_some_iff.1 he).1
     rw[←Array.length_toList]at this
     omega
 ·intro V' h1 h2
  exact⟨h1,w.heap.size,h2,rfl⟩
theorem sS (hc:c.Ok) {ops:Array Oper} {rest:List Oper} {d n:Nat} {x:Operand} {ty:TypeId} {pos:String} {after:Array Edge}
  (hx:Aq σ x=some (.bp n [] 0)) {kt vt:Ty} {l:List (kt.den×vt.den)} {left:List Nat} {cur:Option Nat} (hn:lk n σ.objs=some (.itr kt vt l left cur))
  (h0:left=[]→GK c R k ops rest ⟨(d,.tup [.p .bool false]) :: σ.env,σ.objs⟩)
  (h1:∀i∈left,∀e,l[i]?=some e→GK c R k ops rest ⟨(d,.tup [.p .bool true,.p kt e.1,.p vt e.2]) :: σ.env,upd n (.itr kt vt l (left.erase i) (some i)) σ.objs⟩) :
  GK c R k ops (⟨some d,.next x false,ty,pos,after,none⟩ :: rest) σ:=by
 intro hd hko a w hsat
 unfold wpListIn
 rw[if_pos (by simp[Region.wanted])]
 obtain⟨ρ,hsr⟩:=hsat
 have hev:Ff (vw w c.O0 σ ρ) σ a.eval:=Di hsr.env
 obtain⟨hL,b0,hρ,hxv⟩:=hev x _ hx
 have hρ:ρ n=_:=hρ
 obtain⟨r,hloc,b,ms,cl,si,se,g1,g2,g3,g4,g5,g6,g7,g8,g9,g10⟩:=hsr.objs n _ hn
 rw[hρ]at hloc
 injection hloc with hloc
 injection hloc with hloc
 injection hloc with hloc
 subst hloc
 have g1:w.heap[b0]?=some (.mapIter (some b) si se cl):=g1
 have g3:w.heap[b]?=some (.map ms cl):=g3
 have hdn:d<c.nt:=Bd (hd _ List.mem_cons_self) d rfl
 have hex:∀i,i∈left↔∃e,ms[i]?=some e∧e.born∉se:=g9
 rcases Yo (P:=c.P) w ty b0 b si cl se ms cl g1 g3 (fun x hx=>g6 _ (List.mem_map.2 ⟨x,hx,rfl⟩)) g7 with ⟨hz,hrun⟩|⟨e,he,w1,hw1,hrun⟩
 ·have hnil:left=[]:=by
   cases hl:left with
   | nil=>rfl
   | cons i r =>
    obtain⟨e,h2,h3⟩:=(hex i).1 (by rw[hl];simp)
    have:e∈leftOf ms se:=by
     unfold leftOf
     rw[Array.mem_filter]
     exact⟨Array.mem_of_getElem? h2,by simpa using h3⟩
    have:=Array.size_pos_of_mem this
    omega
  refine Am (u:=.tuple #[.bool false]) (w':=w) (by simp[execOp,hxv,hrun]) (h0 hnil (fun o ho=>hd o (by simp[ho])) hko _ _ ⟨ρ,?_⟩)
  refine hsr.add hc.K hc.O (dst:=some d) (fun d' e=>by injection e with e;omega) (v:=.tup [.p .bool false]) (obs:=[]) (ρ':=ρ) rfl (QS.still ?_)
  exact⟨[.bool false],rfl,.bool false,[],rfl,⟨[_],rfl,rfl⟩,rfl⟩
 ·have he':e∈ms∧e.born∉se:=by
   unfold leftOf at he
   simpa using he
  obtain⟨i,hi⟩:=Array.getElem?_of_mem he'.1
  obtain⟨x1,hx1,hk1,hv1⟩:=(Nu g4).2 i e (by simpa using hi)
  have hil:i∈left:=(hex i).2 ⟨e,hi,he'.2⟩
  have hw1h:w1.heap=w.heap:=by rcases hw1 with rfl|rfl<;>rfl
  let w2:World:={ w1 with heap:=w1.heap.setIfInBounds b0 (.mapIter (some b) si (se.push e.born) cl) }
  have hbne:b≠b0:=fun e2=>by subst e2;rw[g1]at g3;cases g3
  have hg:w.grownBy w2 (some b0):=by
   refine⟨?_,?_,?_,?_,fun b' hb' hne=>?_⟩
   ·rcases hw1 with rfl|rfl<;>rfl
   ·rcases hw1 with rfl|rfl<;>rfl
   ·rcases hw1 with rfl|rfl<;>rfl
   ·show w.heap.size≤(w1.heap.setIfInBounds b0 _).size
    rw[hw1h];simp
   ·show (w1.heap.setIfInBounds b0 _)[b']?=_
    rw[hw1h,Array.getElem?_setIfInBounds]
    rw[if_neg (fun e2=>hne (by rw[e2]))]
  have hlt0:=BG g1
  have hown0:own c.O0 σ ρ b0:=.inr ⟨n,⟨_,hn⟩,by rw[hρ];simp[bk,blk]⟩
  have hkeep:∀b':Nat,b'<w.heap.size→¬own c.O0 σ ρ b'→w2.heap[b']?=w.heap[b']?:=fun b' hb' hno=>hg.block b' hb' (fun e2=>by injection e2 with e2;subst e2;exact hno hown0)
  have hob:Av (vw w2 c.O0 σ ρ) (.itr kt vt l (left.erase i) (some i)) (ρ n):=by
   refine⟨b0,hρ,b,ms,cl,si,se.push e.born,?_,g2,?_,?_,g5,g6,g7,g8.erase i,fun j=>?_,fun j hj=>?_⟩
   ·show (w1.heap.setIfInBounds b0 _)[b0]?=_
    rw[hw1h,Array.getElem?_setIfInBounds]
    simp[hlt0]
   ·exact(hkeep b (BG g3) g2).trans g3
   ·exact g4.mono (fun _ _ h=>h) hkeep
   ·rw[g8.mem_erase_iff,hex]
    constructor
    ·rintro⟨hne,e2,h2,h3⟩
     refine⟨e2,h2,?_⟩
     rw[Array.mem_push]
     rintro (h4|h4)
     ·exact h3 h4
     ·have hnd:=g5.1
      have a1:(ms.toList.map (·.born))[j]?=some e2.born:=by simp[h2]
      have a2:(ms.toList.map (·.born))[i]?=some e2.born:=by simp[hi,h4]
      exact hne ((List.getElem?_inj (by
       have:=(List.getElem?_eq_some_iff.1 a1).1
       exact this) hnd).1 (a1.trans a2.symm))
    ·rintro⟨e2,h2,h3⟩
     rw[Array.mem_push]at h3
     refine⟨fun hji=>?_,e2,h2,fun h4=>h3 (.inl h4)⟩
     subst hji
     rw[hi]at h2
     injection h2 with h2
     exact h3 (.inr (by rw[h2]))
   ·injection hj with hj
    subst hj
    exact⟨e,hi,by simp⟩
  have hs2:=hsr.upd hc.K hn (g:=b0) (by rw[hρ];rfl) hg hob
  refine Am (u:=.tuple #[.bool true,e.key,e.val]) (w':=w2) (by simp[execOp,hxv,hrun,w2]) (h1 i hil x1 hx1 (fun o ho=>hd o (by simp[ho])) hko _ _ ⟨ρ,?_⟩)
  refine hs2.add hc.K hc.O (dst:=some d) (fun d' e=>by injection e with e;omega) (v:=.tup [.p .bool true,.p kt x1.1,.p vt x1.2]) (obs:=[]) (ρ':=ρ) rfl (QS.still ?_)
  have hown2:∀b',own c.O0 ⟨σ.env,upd n (.itr kt vt l (left.erase i) (some i)) σ.objs⟩ ρ b'→own c.O0 σ ρ b':=by
   rintro b' (h2|⟨m,h2,h3⟩)
   ·exact .inl h2
   ·exact .inr ⟨m,(fB m).1 h2,h3⟩
  have hO2:∀b',b'<w.heap.size→¬own c.O0 σ ρ b'→¬own c.O0 ⟨σ.env,upd n (.itr kt vt l (left.erase i) (some i)) σ.objs⟩ ρ b':=fun b' _ h2 h3=>h2 (hown2 b' h3)
  exact⟨[.bool true,e.key,e.val],rfl,.bool true,_,rfl,⟨[_],rfl,rfl⟩,e.key,_,rfl,hk1.mono hO2 hkeep,e.val,_,rfl,hv1.mono hO2 hkeep,rfl⟩
theorem nP (hc:c.Ok) {ops:Array Oper} {rest:List Oper} {d n:Nat} {x:Operand} {ty:TypeId} {pos:String} {after:Array Edge}
  (hx:Aq σ x=some (.bp n [] 0)) {kt vt:Ty} {l:List (kt.den×vt.den)} {left:List Nat} {i:Nat} (hn:lk n σ.objs=some (.itr kt vt l left (some i))) {e:kt.den×vt.den} (hi:l[i]?=some e)
  (h0:GK c R k ops rest ⟨(d,.tup [.p kt e.1,.p vt e.2]) :: σ.env,σ.objs⟩) :
  GK c R k ops (⟨some d,.entry x,ty,pos,after,none⟩ :: rest) σ:=by
 intro hd hko a w hsat
 unfold wpListIn
 rw[if_pos (by simp[Region.wanted])]
 obtain⟨ρ,hsr⟩:=hsat
 have hev:Ff (vw w c.O0 σ ρ) σ a.eval:=Di hsr.env
 obtain⟨hL,b0,hρ,hxv⟩:=hev x _ hx
 have hρ:ρ n=_:=hρ
 obtain⟨r,hloc,b,ms,cl,si,se,g1,g2,g3,g4,g5,g6,g7,g8,g9,g10⟩:=hsr.objs n _ hn
 rw[hρ]at hloc
 injection hloc with hloc
 injection hloc with hloc
 injection hloc with hloc
 subst hloc
 have g1:w.heap[b0]?=some (.mapIter (some b) si se cl):=g1
 have g3:w.heap[b]?=some (.map ms cl):=g3
 have hdn:d<c.nt:=Bd (hd _ List.mem_cons_self) d rfl
 obtain⟨e1,he1,hb1⟩:=g10 i rfl
 obtain⟨x1,hx1,hk1,hv1⟩:=(Nu g4).2 i e1 (by simpa using he1)
 rw[hi]at hx1
 injection hx1 with hx1
 subst hx1
 have hrun:=W9 (P:=c.P) w b0 b si se ms cl e1 g1 hb1 g3 (by simpa using Array.mem_of_getElem? he1) g5.1
 refine Am (u:=.tuple #[e1.key,e1.val]) (w':=w) (by simp[execOp,hxv,hrun]) (h0 (fun o ho=>hd o (by simp[ho])) hko _ _ ⟨ρ,?_⟩)
 refine hsr.add hc.K hc.O (dst:=some d) (fun d' e=>by injection e with e;omega) (v:=.tup [.p kt e.1,.p vt e.2]) (obs:=[]) (ρ':=ρ) rfl (QS.still ?_)
 exact⟨[e1.key,e1.val],rfl,e1.key,_,rfl,hk1,e1.val,_,rfl,hv1,rfl⟩
end
end
/- A field of a struct that is a value; the rules of a range over a map in short. -/
section
open Go Go.RowKit
section
variable {c:Cx} {R:Exit→Act→World→Prop} {k:List DW} {σ σ':St}
theorem nQ (hc:c.Ok) {ops:Array Oper} {rest:List Oper} {d f:Nat} {s:TypeId} {x:Operand} {ty:TypeId} {pos:String} {after:Array Edge} {u:Ty} {dd:u.den}
  (hx:Aq σ x=some (.p (.agg u) dd)) {fs:Array Field} {fl:Field} (hu:c.P.underlying s=some (.struct fs)) (hf:fs[f]?=some fl) {pv:PV} (hg:Fa u f dd=some pv) (ho:H4 u f=some fl.offset) {ti:TI} (hti:lk fl.type c.tb.ty=some ti) (hτ:ti.ty=pv.t)
  (hk:GK c R k ops rest ⟨(d,.p pv.t pv.d) :: σ.env,σ.objs⟩) :
  GK c R k ops (⟨some d,.field s x f,ty,pos,after,none⟩ :: rest) σ:=by
 intro hd hko a w hsat
 unfold wpListIn
 rw[if_pos (by simp[Region.wanted])]
 obtain⟨ρ,hsr⟩:=hsat
 have hev:Ff (vw w c.O0 σ ρ) σ a.eval:=Di hsr.env
 obtain⟨cs,hr,hxv⟩:=hev x _ hx
 have hr:Bj w (own c.O0 σ ρ) u cs dd:=hr
 have hdn:d<c.nt:=Bd (hd _ List.mem_cons_self) d rfl
 obtain⟨_,o,h1,h2,h3⟩:=KF hg hr
 rw[ho]at h1
 injection h1 with h1
 subst h1
 have hl:=hr.length
 have hT:=hc.T _ _ hti
 have hrun:(Instr.field s (.agg cs.toArray) f).run c.P w=.ok (pv.t.wrap ((cs.drop fl.offset).take pv.t.size)) w:=by
  simp only[Instr.field,Sem.run_bind,run_underlying hu,Result.andThen_ok,hf,asAgg,part,eX w hT,Ep w hT,hτ,Sem.run_pure]
  have hnp:=fun a b=>hT.noprod (a:=a) (b:=b)
  rw[hτ]at hnp
  cases ht:pv.t
  case prod a b=>exact absurd ht (hnp a b)
  case agg t =>
   simp only[Ty.isAgg,if_true,Sem.run_bind,Ep w hT,Result.andThen_ok,hτ,ht,Ty.wrap]
   have e:cs.toArray.extract fl.offset (fl.offset+t.size)=((cs.drop fl.offset).take t.size).toArray:=by
    apply Array.toList_inj.1
    simp[List.extract_eq_take_drop]
   simp only[Ty.size,e]
   rfl
  all_goals
   have hsz:pv.t.size=1:=by rw[ht];rfl
   have hlt:fl.offset<cs.length:=by omega
   have hcs:cs.toArray[fl.offset]?=some cs[fl.offset]:=by simp[hlt]
   simp only[Ty.isAgg,Bool.false_eq_true,if_false,hcs,Ty.wrap,Ty.size]
   rw[List.drop_eq_getElem_cons hlt]
   rfl
 refine Am (u:=pv.t.wrap ((cs.drop fl.offset).take pv.t.size)) (w':=w) (by simp[execOp,hxv,Ty.wrap,hrun]) (hk (fun o ho=>hd o (by simp[ho])) hko _ _ ⟨ρ,?_⟩)
 refine hsr.add hc.K hc.O (dst:=some d) (fun d' e=>by injection e with e;omega) (v:=.p pv.t pv.d) (obs:=[]) (ρ':=ρ) rfl (QS.still ?_)
 exact⟨_,h3,rfl⟩
theorem A4H (hc:c.Ok) {ops:Array Oper} {rest:List Oper} {d f:Nat} {s:TypeId} {x:Operand} {ty:TypeId} {pos:String} {after:Array Edge} {u:Ty} {dd:u.den} {fs:Array Field} {fl:Field} {pv:PV} {ti:TI}
  (hu:c.P.underlying s=some (.struct fs)) (hk:GK c R k ops rest ⟨(d,.p pv.t pv.d) :: σ.env,σ.objs⟩) (hx:Aq σ x=some (.p (.agg u) dd):=by simp only[go_sem,Nat.reduceEqDiff,reduceCtorEq,Nat.reduceAdd,Nat.reduceSub,Nat.reduceMul,Nat.reduceLeDiff,Nat.reduceLT,Int.reduceLE,Int.reduceToNat,Int.reduceNeg,↓reduceIte];rfl) (hf:fs[f]?=some fl:=by rfl) (hg:Fa u f dd=some pv:=by rfl) (ho:H4 u f=some fl.offset:=by rfl) (hti:lk fl.type c.tb.ty=some ti:=by rfl) (hτ:ti.ty=pv.t:=by rfl) :
  GK c R k ops (⟨some d,.field s x f,ty,pos,after,none⟩ :: rest) σ:=nQ hc hx hu hf hg ho hti hτ hk
theorem A4I (hc:c.Ok) {ops:Array Oper} {rest:List Oper} {d n:Nat} {T:TypeId} {x:Operand} {ty:TypeId} {pos:String} {after:Array Edge} {kt vt:Ty} {l:List (kt.den×vt.den)} {ki ei:TypeId} {σ1:St} (hT:c.P.underlying T=some (.map ki ei)) (hk:GK c R k ops rest σ1)
  (hx:Aq σ x=some (.mp n):=by simp only[go_sem,Nat.reduceEqDiff,reduceCtorEq,Nat.reduceAdd,Nat.reduceSub,Nat.reduceMul,Nat.reduceLeDiff,Nat.reduceLT,Int.reduceLE,Int.reduceToNat,Int.reduceNeg,↓reduceIte];rfl) (hn:lk n σ.objs=some (.mapo kt vt l):=by simp only[go_sem,Nat.reduceEqDiff,reduceCtorEq,Nat.reduceAdd,Nat.reduceSub,Nat.reduceMul,Nat.reduceLeDiff,Nat.reduceLT,Int.reduceLE,Int.reduceToNat,Int.reduceNeg,↓reduceIte];rfl) (hpin:(c.ds.pin.all fun p=>!AW p.1 [n])=true:=by rfl) (hfr:lk d σ.objs=none:=by simp only[go_sem,Nat.reduceEqDiff,reduceCtorEq,Nat.reduceAdd,Nat.reduceSub,Nat.reduceMul,Nat.reduceLeDiff,Nat.reduceLT,Int.reduceLE,Int.reduceToNat,Int.reduceNeg,↓reduceIte])
  (hσ:⟨(d,.bp d [] 0) :: Bi [n] σ.env,(d,.itr kt vt l (List.range l.length) none) :: Ak [n] [n] σ.objs⟩=σ1:=by simp only[go_sem,Nat.reduceEqDiff,reduceCtorEq,Nat.reduceAdd,Nat.reduceSub,Nat.reduceMul,Nat.reduceLeDiff,Nat.reduceLT,Int.reduceLE,Int.reduceToNat,Int.reduceNeg,↓reduceIte];rfl) :
  GK c R k ops (⟨some d,.range T x,ty,pos,after,none⟩ :: rest) σ:=nN hc hx hn hT hpin hfr (hσ▸hk)
theorem A4J (hc:c.Ok) {ops:Array Oper} {rest:List Oper} {d n:Nat} {x:Operand} {ty:TypeId} {pos:String} {after:Array Edge} {kt vt:Ty} {l:List (kt.den×vt.den)} {left:List Nat} {cur:Option Nat}
  (h0:left=[]→GK c R k ops rest ⟨(d,.tup [.p .bool false]) :: σ.env,σ.objs⟩)
  (h1:∀i∈left,∀e,l[i]?=some e→GK c R k ops rest ⟨(d,.tup [.p .bool true,.p kt e.1,.p vt e.2]) :: σ.env,upd n (.itr kt vt l (left.erase i) (some i)) σ.objs⟩)
  (hx:Aq σ x=some (.bp n [] 0):=by simp only[go_sem,Nat.reduceEqDiff,reduceCtorEq,Nat.reduceAdd,Nat.reduceSub,Nat.reduceMul,Nat.reduceLeDiff,Nat.reduceLT,Int.reduceLE,Int.reduceToNat,Int.reduceNeg,↓reduceIte];rfl) (hn:lk n σ.objs=some (.itr kt vt l left cur):=by simp only[go_sem,Nat.reduceEqDiff,reduceCtorEq,Nat.reduceAdd,Nat.reduceSub,Nat.reduceMul,Nat.reduceLeDiff,Nat.reduceLT,Int.reduceLE,Int.reduceToNat,Int.reduceNeg,↓reduceIte];rfl) :
  GK c R k ops (⟨some d,.next x false,ty,pos,after,none⟩ :: rest) σ:=sS hc hx hn h0 h1
theorem A4K (hc:c.Ok) {ops:Array Oper} {rest:List Oper} {d n:Nat} {x:Operand} {ty:TypeId} {pos:String} {after:Array Edge} {kt vt:Ty} {l:List (kt.den×vt.den)} {left:List Nat} {i:Nat} {e:kt.den×vt.den} (hi:l[i]?=some e)
  (h0:GK c R k ops rest ⟨(d,.tup [.p kt e.1,.p vt e.2]) :: σ.env,σ.objs⟩)
  (hx:Aq σ x=some (.bp n [] 0):=by simp only[go_sem,Nat.reduceEqDiff,reduceCtorEq,Nat.reduceAdd,Nat.reduceSub,Nat.reduceMul,Nat.reduceLeDiff,Nat.reduceLT,Int.reduceLE,Int.reduceToNat,Int.reduceNeg,↓reduceIte];rfl) (hn:lk n σ.objs=some (.itr kt vt l left (some i)):=by simp only[go_sem,Nat.reduceEqDiff,reduceCtorEq,Nat.reduceAdd,Nat.reduceSub,Nat.reduceMul,Nat.reduceLeDiff,Nat.reduceLT,Int.reduceLE,Int.reduceToNat,Int.reduceNeg,↓reduceIte];rfl) :
  GK c R k ops (⟨some d,.entry x,ty,pos,after,none⟩ :: rest) σ:=nP hc hx hn hi h0
end
end
end Go.Proofs.YtmejfnhmgbhkmabGreat.Fw
