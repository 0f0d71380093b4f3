/- Range over a function; scopes; several steps in one. -/
/- Range over a function: a call of yield; a round; the statement; the end of a function that holds one. -/
import Derived.Test.YtebfihindnhccaaGreatIZH
import Derived.RangeFuncFrom
import Derived.Scope
set_option linter.unusedVariables false
set_option linter.unusedSimpArgs false
namespace Go.Proofs.YtebfihindnhccaaGreat.Fw
section
open Go Go.RowKit
theorem ZK {V:Vw} {f:FuncId} {ns:List Nat} {v:Value} (h:B5 V (.clo f ns) v):v=.func (.func f) #[] (ns.map V.ρ).toArray∧QQQ V (ns.map fun n=>AV.bp n [] 0) (ns.map V.ρ):=by
 refine⟨h.1,?_⟩
 have h0:∀l:List Nat,(∀n∈l,n∈ns)→QQQ V (l.map fun n=>AV.bp n [] 0) (l.map V.ρ):=by
  intro l
  induction l with
  | nil=>intro _;exact rfl
  | cons n r ih =>
   intro hl
   obtain⟨g1,b,g2⟩:=h.2 n (hl n (by simp))
   exact⟨V.ρ n,r.map V.ρ,rfl,⟨g1,b,g2,g2⟩,ih fun x hx=>hl x (by simp[hx])⟩
 exact h0 ns fun _ h=>h
/-! ### A call of yield -/
def ZL (P:Program) (yn:Nat) (A:List AV) (objs:List (Nat×Obj)) (stay:List Nat) (post:AV→List (Nat×Obj)→Prop):Prop :=
 ∀(w:World) (K O0:Nat→Prop) (ρ:Nat→Value) (vs:List Value) (b:Nat),(∀b,K b→b<w.heap.size)→(∀b,O0 b→b<w.heap.size)→p6 K O0 objs ρ w→QQQ (vw w O0 ⟨[],objs⟩ ρ) A vs →
  ρ yn=.pointer (some ⟨b,0,none⟩)→YieldAt (FR none) 0 P b vs.toArray w fun e w'=>∃u,e=.returned u∧OI K O0 stay w ρ post u w'
section
variable {c:Cx} {R:Exit→Act→World→Prop} {k:List D0} {σ:St}
def XQ (n:Nat):Option AV→Bool
 | some (.yl m)=>m==n
 | _=>false
theorem vJ (hc:c.Ok) (hr0:c.r=none) {o:Oper} {dst:Option Nat} {g:Operand} {xs:List Operand} {ts:Array TypeId} (ho:o.op=.call { callee:=.value g,args:=xs.toArray,argTypes:=ts }) (hdst:o.dst=dst)
  {n yn:Nat} (hg:XQ n (Av σ g)=true) {as:List AV} (has:Hk σ xs=some as)
  {A:List AV} {objs:List (Nat×Obj)} {stay:List Nat} {post:AV→List (Nat×Obj)→Prop} (hM:ZL c.P yn A objs stay post)
  (ren:List (Nat×Br)) (hyn:lk yn ren=some (.nm n)) (h1:Bv ren=true) (h2:CG objs ren=true) (hA:BF σ ren as A) (hO:Ae σ.objs ren objs)
  (hs:List Nat) (hpin:(c.ds.pin.all fun p=>!Aa p.1 hs)=true) {next:Act→World→Prop} {Q:Exit→Act→World→Prop} {a:Act} {w:World} (hsat:c.sat σ a w) (hd:∀d,dst=some d→d<c.nt)
  (hk:∀res objs',post res objs'→∃(ren2:List (Nat×Br)) (res2:AV) (objs2:List (Nat×Obj)),Bv ren2=true∧CG objs2 ren2=true∧Ae objs' ren2 objs2∧BD ren2 res res2 ∧
   Hz ren ren2 stay hs=true∧Ez (Aj ren) objs2 σ.objs=true∧∀a' w',c.sat (B9 σ (Aj ren) hs dst res2 objs2) a' w'→next a' w'):o.wpIn (FR c.r) 0 c.P a w next Q:=by
 obtain⟨ρ,hsr⟩:=hsat
 have hev:Hj (vw w c.O0 σ ρ) σ a.eval:=F1 hsr.env
 obtain⟨b,hρ,hge⟩:∃b:Nat,ρ n=.pointer (some ⟨b,0,none⟩)∧a.eval g=.func (.yield b) #[] #[]:=by
  cases hgv:Av σ g with
  | none=>rw[hgv]at hg;simp[XQ]at hg
  | some gv =>
   rw[hgv]at hg
   have hgr:=hev g gv hgv
   cases gv<;>simp only[XQ]at hg<;>try(cases hg;done)
   rename_i m
   have hm:m=n:=by simpa using hg
   subst hm
   obtain⟨_,b,h3,h4⟩:=hgr
   exact⟨b,h3,h4⟩
 obtain⟨Kc,O0c,ρc,hK1,hO1,hmem,hav,hρc,hpost⟩:=PQ hc hsr (XG hev has) stay post ren h1 h2 hA hO hs hpin hd hk
 obtain⟨fn,tmps,assign,body,hy,hR⟩:=hM w Kc O0c ρc (xs.map a.eval) b hK1 hO1 hmem hav ((hρc _ _ hyn).trans hρ)
 have hrun:(execOp a.eval o).run c.P w=.ok (.round b fn tmps assign body) w:=by
  simp[execOp,ho,resolve,Deferred.ofValue,hge,invoke]
  simpa using hy
 refine⟨fun _ _=>trivial,?_⟩
 rw[GJ _ _ _ (fun cl e=>by rw[ho]at e;cases e),hrun,Oper.uponIn_round]
 refine⟨fun h=>(by simp[FR]at h),?_⟩
 rw[hr0]
 refine hR.mono fun e w' hh=>?_
 obtain⟨u,rfl,hh⟩:=hh
 rw[hdst]
 exact hpost u w' hh
theorem qH (hc:c.Ok) (hr0:c.r=none) {ops:Array Oper} {rest:List Oper} {dst:Option Nat} {g:Operand} {xs:List Operand} {ts:Array TypeId} {ty:TypeId} {pos:String} {after:Array Edge}
  {n yn:Nat} (hg:XQ n (Av σ g)=true) {as:List AV} (has:Hk σ xs=some as)
  {A:List AV} {objs:List (Nat×Obj)} {stay:List Nat} {post:AV→List (Nat×Obj)→Prop} (hM:ZL c.P yn A objs stay post)
  (ren:List (Nat×Br)) (hs:List Nat) (hyn:lk yn ren=some (.nm n)) (h1:Bv ren=true) (h2:CG objs ren=true) (hpin:(c.ds.pin.all fun p=>!Aa p.1 hs)=true) (hA:BF σ ren as A) (hO:Ae σ.objs ren objs)
  (hk:∀res objs',post res objs'→∃(ren2:List (Nat×Br)) (res2:AV) (objs2:List (Nat×Obj)),Bv ren2=true∧CG objs2 ren2=true∧Ae objs' ren2 objs2∧BD ren2 res res2 ∧
   Hz ren ren2 stay hs=true∧Ez (Aj ren) objs2 σ.objs=true∧NY c R k ops rest (B9 σ (Aj ren) hs dst res2 objs2)) :
  NY c R k ops (⟨dst,.call ⟨.value g,xs.toArray,ts⟩,ty,pos,after,none⟩ :: rest) σ:=by
 intro hd hko a w hsat
 unfold wpListIn
 rw[if_pos (by simp[Region.wanted])]
 refine vJ hc hr0 (xs:=xs) (ts:=ts) rfl rfl hg has hM ren hyn h1 h2 hA hO hs hpin hsat (Cb (hd _ (by simp))) fun res objs' hp=>?_
 obtain⟨ren2,res2,objs2,g1,g2,g3,g4,g5,g6,hE⟩:=hk res objs' hp
 exact⟨ren2,res2,objs2,g1,g2,g3,g4,g5,g6,fun a' w' hs'=>hE (fun o ho=>hd o (by simp[ho])) hko a' w' hs'⟩
end
/-! ### A round -/
def HN:List Nat→List AV→List (Nat×AV)→List (Nat×AV)
 | p :: ps,x :: xs,e=>HN ps xs ((p,x) :: e)
 | _,_,e=>e
def cY (P:Program) (tb:Tb) (w0:World) (K O0:Nat→Prop) (nt l:Nat) (pin:List (Nat×Value)):Cx:={ P:=P,tb:=tb,w0:=w0,K:=K,O0:=O0,nt:=nt,ds:={ pin:=pin },r:=some l }
theorem gX {P:Program} {tb:Tb} {w0:World} {K O0:Nat→Prop} {nt l:Nat} {pin:List (Nat×Value)}:(cY P tb w0 K O0 nt l pin).tb=tb:=rfl
def vK (P:Program) (l:Nat) (w0:World) (K O0:Nat→Prop) (stay:List Nat) (ρ0:Nat→Value) (post:AV→List (Nat×Obj)→Prop):Exit→Act→World→Prop :=
 roundPost P l fun e w'=>∃u,e=.returned u∧OI K O0 stay w0 ρ0 post u w'
theorem gY {V:Vw}:∀(ps:List Nat) (A:List AV) (vs:List Value) (e:List (Nat×AV)) (tm:Array Value),QQQ V A vs→(∀p∈ps,p<tm.size)→A.length=ps.length→(∀s x,lk s e=some x→B5 V x (tm.getD s undef)) →
  (∀s x,lk s (HN ps A e)=some x→B5 V x (((ps.zip vs).foldl (fun t (p,v)=>t.setIfInBounds p v) tm).getD s undef))∧((ps.zip vs).foldl (fun t (p,v)=>t.setIfInBounds p v) tm).size=tm.size
 | [],_,_,e,tm,_,_,_,h=>by simpa[HN] using h
 | p :: ps,[],_,e,tm,_,_,hl,_=>by simp at hl
 | p :: ps,x :: A,vs,e,tm,⟨v,r,hv,h1,h2⟩,hp,hl,h=>by
  subst hv
  simp only[List.zip_cons_cons,List.foldl_cons,HN]
  have h3:=gY ps A r ((p,x) :: e) (tm.setIfInBounds p v) h2 (fun q hq=>by simpa using hp q (by simp[hq])) (by simpa using hl) (fun s y hs=>by
   have hpg:=Lg { tmps:=tm,defers:=[] } p v s (hp p (by simp))
   have hpg:(tm.setIfInBounds p v).getD s undef=if s=p then v else tm.getD s undef:=hpg
   rw[hpg]
   simp only[lk]at hs
   split at hs
   ·rename_i e';cases hs;rw[if_pos e'];exact h1
   ·rename_i hne;rw[if_neg hne];exact h s y hs)
  exact⟨h3.1,by rw[h3.2];simp⟩
section
variable {P:Program} {tb:Tb} {w0:World} {K O0:Nat→Prop} {nt l:Nat} {stay:List Nat} {ρ0:Nat→Value} {post:AV→List (Nat×Obj)→Prop} {σ:St} {pin:List (Nat×Value)}
theorem Sp {c:Cx} (hc:c.Ok) {σ:St} {a:Act} {w:World} {ρ:Nat→Value} (hs:Bq c.w0 c.K c.O0 c.nt c.ds σ ρ a w) {yn b:Nat} {L:Go.Loop} (hl:lk yn σ.objs=some (.loop L)) (hb:ρ yn=.pointer (some ⟨b,0,none⟩)) (L':Go.Loop) :
  w.heap[b]?=some (.loop L)∧Bq c.w0 c.K c.O0 c.nt c.ds ⟨σ.env,upd yn (.loop L') σ.objs⟩ ρ a (w.putObj b (.loop L')):=by
 obtain⟨b',h1,h2⟩:=hs.objs yn _ hl
 rw[hb]at h1
 injection h1 with h1
 injection h1 with h1
 injection h1 with h1
 subst h1
 have hlt:b<w.heap.size:=Cq h2
 refine⟨h2,hs.upd hc.K hl (g:=b) (by rw[hb];rfl) (grownBy_putObj' w b _) ?_⟩
 exact⟨b,hb,World.putObj_heap_same hlt⟩
theorem qI (hc:(cY P tb w0 K O0 nt l pin).Ok) {yn:Nat} {L:Go.Loop} (hl:lk yn σ.objs=some (.loop L)) (hpin:pin=stay.map fun n=>(n,ρ0 n)) (hyn:yn∈stay) (hb:ρ0 yn=.pointer (some ⟨l,0,none⟩))
  (hp:post (.p .bool true) (upd yn (.loop { L with state:=.ready,pending:=none }) σ.objs)) :
  Ev (cY P tb w0 K O0 nt l pin) (vK P l w0 K O0 stay ρ0 post) (.out .normal) [] σ:=by
 intro _ _ a w hs
 obtain⟨ρ,hs⟩:=hs
 have hρ:∀n∈stay,ρ n=ρ0 n:=fun n hn=>(hs.pin (n,ρ0 n) (by rw[show (cY P tb w0 K O0 nt l pin).ds.pin=pin from rfl,hpin];exact List.mem_map.2 ⟨n,hn,rfl⟩)).2.1
 obtain⟨h2,hs2⟩:=Sp hc hs hl ((hρ _ hyn).trans hb) { L with state:=.ready,pending:=none }
 refine⟨_,_,run_endRound none h2,.bool true,rfl,.p .bool true,_,ρ,hp,hs2.frm,⟨hs2.objs,hs2.free,hs2.dist⟩,⟨_,rfl,rfl⟩,hρ⟩
def A4s (c:Cx) (R:Exit→Act→World→Prop) (yn:Nat) (L:Go.Loop) (bd:Code) (σ:St):Prop :=
 lk yn σ.objs=some (.loop L)∧Ev c R (.run bd) [] ⟨σ.env,upd yn (.loop { L with state:=.busy }) σ.objs⟩
theorem vL {yn fr:Nat} {A:List AV} {objs:List (Nat×Obj)} {L:Go.Loop} {ps:List Nat} {asg bd:Code} {fs:List (Nat×AV)} {tm:Array Value}
  (hl:lk yn objs=some (.loop L)) (hf:lk fr objs=some (.frame tm fs)) (h1:L.state=.ready) (h2:L.params=ps.toArray) (h3:L.assign=asg) (h4:L.body=bd) (h5:L.tmps=tm) (hsz:tm.size=nt)
  (hlen:A.length=ps.length) (hps:(ps.all fun p=>decide (p<nt))=true) (hyn:yn∈stay) (hst:stay.all (VN objs)=true) (hkeys:PI objs=true) (hcode:Bz nt asg=true) (hcode2:Bz nt bd=true) (hT:Dp P tb) (hF:MY P tb)
  (h:∀(w0:World) (K O0:Nat→Prop) (ρ0:Nat→Value) (l:Nat),(cY P tb w0 K O0 nt l (stay.map fun n=>(n,ρ0 n))).Ok→SY A→SZ objs→ρ0 yn=.pointer (some ⟨l,0,none⟩) →
   Ev (cY P tb w0 K O0 nt l (stay.map fun n=>(n,ρ0 n))) (fun _ _ _=>False) (.run asg) [.inv (A4s (cY P tb w0 K O0 nt l (stay.map fun n=>(n,ρ0 n))) (vK P l w0 K O0 stay ρ0 post) yn L bd)] ⟨HN ps A fs,objs⟩) :
  ZL P yn A objs stay post:=by
 intro w K O0 ρ vs b hK hO hm hv hb
 have hvl:=Hy hv
 obtain⟨b',hb',hh⟩:=hm.obj yn _ hl
 rw[hb]at hb'
 injection hb' with hb'
 injection hb' with hb'
 injection hb' with hb'
 subst hb'
 have hrun:=run_yield (P:=P) (args:=vs.toArray) hh (by rw[h2];simp[hvl,hlen])
 refine⟨_,_,_,_,hrun,roundIn_of_wpIn trivial ?_⟩
 have hc:(cY P tb w K O0 nt b (stay.map fun n=>(n,ρ n))).Ok:=⟨hK,hO,hT,hF⟩
 have hframe:=hm.obj fr _ hf
 have hpe:=gY (V:=vw w O0 ⟨[],objs⟩ ρ) ps A vs fs tm hv (fun p hp=>by have:=(List.all_eq_true.1 hps) p hp;rw[hsz];simpa using this) hlen hframe.2
 have htm:(L.params.zip vs.toArray).foldl (fun t (p,v)=>t.setIfInBounds p v) L.tmps=(ps.zip vs).foldl (fun t (p,v)=>t.setIfInBounds p v) tm:=by
  rw[h2,h5,List.zip_toArray]
  simp
 rw[h3,h4,htm]
 have hsat:(cY P tb w K O0 nt b (stay.map fun n=>(n,ρ n))).sat ⟨HN ps A fs,objs⟩ { tmps:=(ps.zip vs).foldl (fun t (p,v)=>t.setIfInBounds p v) tm,defers:=[] } w:=by
  refine⟨ρ,⟨rfl,rfl,rfl,Nat.le_refl _,fun _ _=>rfl⟩,by rw[hpe.2];exact hsz,rfl,fun p hp=>?_,hm.obj,hm.free,hm.dist,hpe.1⟩
  obtain⟨n,hn,rfl⟩:=List.mem_map.1 hp
  have:=(List.all_eq_true.1 hst) n hn
  unfold VN at this
  cases ho:lk n objs with
  | none=>rw[ho]at this;cases this
  | some o =>
   rw[ho]at this
   refine⟨⟨o,ho⟩,rfl,?_⟩
   have hob:=hm.obj n o ho
   cases o with
   | arr et e xs=>exact .inr this
   | nest et iet k e xs hl=>exact .inr this
   | box et st fs=>obtain⟨_,b,cs,he,_⟩:=hob;rw[he];exact .inl rfl
   | mapo k v l=>obtain⟨b,es,cl,he,_⟩:=hob;rw[he];exact .inl rfl
   | frame tm fs=>obtain⟨he,_⟩:=hob;rw[he];exact .inl rfl
   | loop L=>obtain⟨b,he,_⟩:=hob;rw[he];exact .inl rfl
   | dfr=>obtain⟨b,he,_⟩:=hob;rw[he];exact .inl rfl
 have hEv:=h w K O0 ρ b hc (Rf hv) (Rg hkeys fun n o ho=>XF (hm.obj n o ho)) hb (by simpa[Hv,cY] using hcode) rfl _ _ hsat
 refine wpIn_mono (F:=FR (some b)) hEv ?_
 intro e a' w' hq
 cases e with
 | normal =>
  obtain⟨σ',⟨ρ',hs'⟩,hl',hbody⟩:=hq
  have hρ':ρ' yn=.pointer (some ⟨b,0,none⟩):=(hs'.pin (yn,ρ yn) (List.mem_map.2 ⟨yn,hyn,rfl⟩)).2.1.trans hb
  obtain⟨g1,g2⟩:=Sp hc hs' hl' hρ' { L with state:=.busy }
  exact⟨_,run_beginRound g1 h1,hbody (by simpa[Hv,cY] using hcode2) rfl _ _ ⟨ρ',g2⟩⟩
 | exit id=>exact hq.elim
 | goto t=>exact hq.elim
 | ret=>exact hq.elim
 | panic ch=>exact hq.elim
 | outgrown=>exact hq.elim
end
end
/- Range over a function, second part: the statement; the end of a function that holds one. -/
section
open Go Go.RowKit
def Cx.marked (c:Cx) (dn b:Nat):Cx:={ c with ds:={ ds:=⟨.collected b,#[]⟩ :: c.ds.ds,pin:=(dn,.pointer (some ⟨b,0,none⟩)) :: c.ds.pin } }
def Cx.marked2 (c:Cx) (yn dn b:Nat):Cx:={ c with ds:={ ds:=⟨.collected b,#[]⟩ :: c.ds.ds,pin:=(yn,.pointer (some ⟨b+1,0,none⟩)) :: (dn,.pointer (some ⟨b,0,none⟩)) :: c.ds.pin } }
theorem dI {c:Cx} {yn dn b:Nat} (h:c.Ok):(c.marked2 yn dn b).Ok:=⟨h.K,h.O,h.T,h.F⟩
theorem Lx {c:Cx} {dn b:Nat}:(c.marked dn b).tb=c.tb:=rfl
theorem qJ {c:Cx} {dn b:Nat} (h:c.Ok):(c.marked dn b).Ok:=⟨h.K,h.O,h.T,h.F⟩
theorem qK (ren:List (Nat×Br)) (x:AV):BD ren x .top:=by
 unfold BD
 split<;>simp_all
def ZM:List D0→Bool
 | []=>true
 | .inv _ :: _=>false
 | _ :: k=>ZM k
theorem M0 {c:Cx} {R:Exit→Act→World→Prop} {dn b:Nat}:∀ {k:List D0},ZM k=true→RZ (c.marked dn b) R k=RZ c R k
 | [],_=>by funext e a w;simp[RZ]
 | .inv _ :: _,h=>by simp[ZM]at h
 | .seq y :: k,h=>by
  have ih:=M0 (c:=c) (R:=R) (dn:=dn) (b:=b) (k:=k) h
  funext e a w
  cases e<;>simp only[RZ,ih]<;>rfl
 | .blk id :: k,h=>by
  have ih:=M0 (c:=c) (R:=R) (dn:=dn) (b:=b) (k:=k) h
  funext e a w
  cases e<;>simp only[RZ,ih]
def Bh (σ:St) (yn dn fr:Nat) (L:Go.Loop) (tm:Array Value):St:=⟨σ.env,(yn,.loop L) :: (dn,.dfr) :: (fr,.frame tm σ.env) :: σ.objs⟩
section
variable {c:Cx} {R:Exit→Act→World→Prop} {k:List D0} {σ:St}
theorem qL (hc:c.Ok) {a:Act} {w:World} {ρ:Nat→Value} (hs:Bq c.w0 c.K c.O0 c.nt c.ds σ ρ a w) {yn dn fr:Nat} (hd1:yn≠dn) (hd2:yn≠fr) (hd3:dn≠fr) (hf1:lk yn σ.objs=none) (hf2:lk dn σ.objs=none) (hf3:lk fr σ.objs=none) (L:Go.Loop) :
  ∃ρ1,Bq c.w0 c.K c.O0 c.nt (c.marked2 yn dn w.heap.size).ds (Bh σ yn dn fr L a.tmps) ρ1 { a with defers:=[{ target:=.collected w.heap.size,args:=#[] }]++a.defers } ((w.alloc (.deferred (some []))).alloc (.loop L))∧ρ1 yn=.pointer (some ⟨w.heap.size+1,0,none⟩):=by
 let ρ1:Nat→Value:=fun m=>if m=yn then .pointer (some ⟨w.heap.size+1,0,none⟩) else if m=dn then .pointer (some ⟨w.heap.size,0,none⟩) else if m=fr then .pointer none else ρ m
 have e1:ρ1 yn=.pointer (some ⟨w.heap.size+1,0,none⟩):=by simp[ρ1]
 have e2:ρ1 dn=.pointer (some ⟨w.heap.size,0,none⟩):=by simp[ρ1,Ne.symm hd1]
 have e3:ρ1 fr=.pointer none:=by simp[ρ1,Ne.symm hd2,Ne.symm hd3]
 obtain⟨W1,hW1⟩:∃W1,(w.alloc (.deferred (some []))).alloc (.loop L)=W1:=⟨_,rfl⟩
 have hL1:W1.heap[w.heap.size+1]?=some (.loop L):=by
  rw[←hW1];have:=World.alloc_heap_new (w.alloc (.deferred (some []))) (.loop L);rwa [World.size_alloc]at this
 have hK1:W1.heap[w.heap.size]?=some (.deferred (some [])):=by
  rw[←hW1];exact(Below.heap_alloc _ _ _ (by simp)).trans (World.alloc_heap_new w _)
 have hb1:Below w.heap.size w W1:=by
  rw[←hW1];exact((Below.refl _ w).alloc (Nat.le_refl _) _).alloc (by simp) _
 rw[hW1]
 have hfresh:BT [(yn,Obj.loop L),(dn,.dfr),(fr,.frame a.tmps σ.env)] σ=true:=by simp[BT,hf1,hf2,hf3]
 have hrho:∀n,lk n [(yn,Obj.loop L),(dn,Obj.dfr),(fr,.frame a.tmps σ.env)]=none→ρ1 n=ρ n:=fun n hn=>by
  simp only[lk]at hn
  split at hn
  ·cases hn
  ·split at hn
   ·cases hn
   ·split at hn
    ·cases hn
    ·rename_i g1 g2 g3;simp[ρ1,g1,g2,g3]
 have hnew:∀n o b,lk n [(yn,Obj.loop L),(dn,Obj.dfr),(fr,.frame a.tmps σ.env)]=some o→bk (ρ1 n) b→w.heap.size≤b:=fun n o b hn hb=>by
  simp only[lk]at hn
  split at hn
  ·rename_i g;subst g;rw[e1]at hb;simp[bk,blk]at hb;omega
  ·split at hn
   ·rename_i g;subst g;rw[e2]at hb;simp[bk,blk]at hb;omega
   ·split at hn
    ·rename_i g;subst g;rw[e3]at hb;simp[bk,blk]at hb
    ·cases hn
 have hkeeps:=HA (O0:=c.O0) (ρ:=ρ) (ρ':=ρ1) hfresh hb1 hrho hnew
 have hq:QS w c.O0 σ ρ .top [(yn,Obj.loop L),(dn,.dfr),(fr,.frame a.tmps σ.env)] undef ρ1 W1:=by
  refine⟨hb1,hrho,trivial,fun n o hn=>?_,hnew,fun n m o o' b hn hm hb hb'=>?_⟩
  ·simp only[lk]at hn
   split at hn
   ·rename_i g;cases hn;subst g;exact⟨_,e1,hL1⟩
   ·split at hn
    ·rename_i g;cases hn;subst g;exact⟨_,e2,hK1⟩
    ·split at hn
     ·rename_i g;cases hn;subst g
      exact⟨e3,fun s x hx=>(hs.env s x hx).keeps hkeeps⟩
     ·cases hn
  ·simp only[lk]at hn hm
   split at hn
   ·rename_i g
    rw[g,e1]at hb
    simp[bk,blk]at hb
    split at hm
    ·rename_i g';rw[g,g']
    ·split at hm
     ·rename_i g';rw[g',e2]at hb';simp[bk,blk]at hb';omega
     ·split at hm
      ·rename_i g';rw[g',e3]at hb';simp[bk,blk]at hb'
      ·cases hm
   ·split at hn
    ·rename_i g
     rw[g,e2]at hb
     simp[bk,blk]at hb
     split at hm
     ·rename_i g';rw[g',e1]at hb';simp[bk,blk]at hb';omega
     ·split at hm
      ·rename_i g';rw[g,g']
      ·split at hm
       ·rename_i g';rw[g',e3]at hb';simp[bk,blk]at hb'
       ·cases hm
    ·split at hn
     ·rename_i g;rw[g,e3]at hb;simp[bk,blk]at hb
     ·cases hn
 have h:=hs.add hc.K hc.O (dst:=none) (fun d hd=>by cases hd) hfresh hq
 refine⟨ρ1,⟨h.frm,h.nt,?_,fun p hp=>?_,h.objs,h.free,h.dist,h.env⟩,e1⟩
 ·show _=_ :: c.ds.ds
  rw[←hs.defers];rfl
 ·rcases List.mem_cons.1 hp with rfl|hp
  ·exact⟨⟨.loop L,by simp[Bh,lk]⟩,e1,.inl rfl⟩
  rcases List.mem_cons.1 hp with rfl|hp
  ·exact⟨⟨.dfr,by simp[Bh,lk,Ne.symm hd1]⟩,e2,.inl rfl⟩
  ·exact h.pin p hp
def EvJ (c:Cx) (R:Exit→Act→World→Prop) (k:List D0) (σ:St):Option Code→Prop
 | none=>Ev c R (.out .normal) k σ
 | some c'=>match c' with
  | .ret=>Ev c R (.out .ret) k σ
  | .exit id=>Ev c R (.out (.exit id)) k σ
  | _=>False
def A7z (c:Cx) (R:Exit→Act→World→Prop) (k:List D0) (a:Act) (w:World):Option Code→Prop
 | none=>RZ c R k .normal a w
 | some cd=>cd.wpIn (FR c.r) 0 c.P (RZ c R k) a w
theorem A0l {dn b:Nat} (hk0:ZM k=true) (h2:Cr c.nt k=true) {p:Option Code} (hj:EvJ (c.marked dn b) R k σ p) {a:Act} {w:World} (hs:(c.marked dn b).sat σ a w) :
  A7z c R k a w p:=by
 have hkm:=M0 (c:=c) (R:=R) (dn:=dn) (b:=b) hk0
 cases p with
 | none =>
  have:=hj rfl h2 _ _ hs
  show RZ c R k .normal a w
  rw[←hkm]
  exact this
 | some cd =>
  cases cd<;>try exact hj.elim
  ·have:=hj rfl h2 _ _ hs
   refine wpIn_exit ?_
   rw[←hkm]
   exact this
  ·have:=hj rfl h2 _ _ hs
   refine wpIn_ret ?_
   rw[←hkm]
   exact this
theorem vM (hc:c.Ok) (hr0:c.r=none) (hk0:ZM k=true) {g:Operand} {ps:Array Tmp} {asg bd:Code} {gf:FuncId} {capn:List Nat} (hg:Av σ g=some (.clo gf capn))
  (yn dn fr:Nat) (hd:(yn != dn&&yn != fr&&dn != fr)=true) (hf1:lk yn σ.objs=none) (hf2:lk dn σ.objs=none) (hf3:lk fr σ.objs=none)
  (hM:∀(L:Go.Loop) (tm:Array Value),L.state=.ready→L.pending=none→L.tmps=tm→L.params=ps→L.assign=asg→L.body=bd→tm.size=c.nt →
   ∃(A:List AV) (objs:List (Nat×Obj)) (stay:List Nat) (post:AV→List (Nat×Obj)→Prop) (ren:List (Nat×Br)) (hs:List Nat),B8 c.P gf A objs stay post ∧
    Bv ren=true∧CG objs ren=true∧BF (Bh σ yn dn fr L tm) ren (.yl yn :: capn.map fun n=>AV.bp n [] 0) A∧Ae (Bh σ yn dn fr L tm).objs ren objs ∧
    (((yn,undef) :: (dn,undef) :: c.ds.pin).all fun p=>!Aa p.1 hs)=true ∧
    ∀res objs',post res objs'→∃(ren2:List (Nat×Br)) (objs2:List (Nat×Obj)) (L':Go.Loop),Bv ren2=true∧CG objs2 ren2=true∧Ae objs' ren2 objs2∧Hz ren ren2 stay hs=true∧Ez (Aj ren) objs2 (Bh σ yn dn fr L tm).objs=true ∧
     lk yn objs2=some (.loop L')∧(L'.state == .busy)=false ∧
     ∀b,EvJ (c.marked dn b) R k ⟨(B9 (Bh σ yn dn fr L tm) (Aj ren) hs none .top objs2).env,upd yn (.loop { L' with state:=.exhausted }) (B9 (Bh σ yn dn fr L tm) (Aj ren) hs none .top objs2).objs⟩ L'.pending) :
  Ev c R (.run (.rangeFunc g ps asg bd)) k σ:=by
 intro h1 h2 a w hsat
 obtain⟨ρ,hs⟩:=hsat
 have hev:Hj (vw w c.O0 σ ρ) σ a.eval:=F1 hs.env
 obtain⟨hge,_⟩:=ZK (hev g _ hg)
 simp only[Bool.and_eq_true,bne_iff_ne,ne_eq]at hd
 obtain⟨⟨hd1,hd2⟩,hd3⟩:=hd
 refine wpIn_rangeFunc (F:=FR c.r) ?_
 intro fn _
 have hround:(FR c.r).round=none:=by rw[hr0];rfl
 rw[hround]
 obtain⟨L,hL⟩:∃L:Go.Loop,L={ state:=.ready,pending:=none,fn,tmps:=a.tmps,params:=ps,assign:=asg,body:=bd,defers:=w.heap.size }:=⟨_,rfl⟩
 obtain⟨ρ1,hs1,hy1⟩:=qL hc hs hd1 hd2 hd3 hf1 hf2 hf3 L
 obtain⟨A,objs,stay,post,ren,hss,hCM,g1,g2,g3,g4,g5,g6⟩:=hM L a.tmps (by rw[hL]) (by rw[hL]) (by rw[hL]) (by rw[hL]) (by rw[hL]) (by rw[hL]) hs.nt
 obtain⟨⟨cf,hcf,hname,hbody⟩,hCM⟩:=hCM
 obtain⟨W1,hW1⟩:∃W1,(w.alloc (.deferred (some []))).alloc (.loop L)=W1:=⟨_,rfl⟩
 rw[hW1]at hs1
 have hc1:(c.marked2 yn dn w.heap.size).Ok:=dI hc
 have hcap1:QQQ (vw W1 c.O0 (Bh σ yn dn fr L a.tmps) ρ1) (.yl yn :: capn.map fun n=>AV.bp n [] 0) (.func (.yield (w.heap.size+1)) #[] #[] :: capn.map ρ):=by
  refine⟨_,_,rfl,⟨⟨_,by simp[Bh,lk];rfl⟩,_,hy1,rfl⟩,?_⟩
  have hcl:=ZK (V:=vw W1 c.O0 (Bh σ yn dn fr L a.tmps) ρ1) (f:=gf) (ns:=capn) (v:=a.eval g) (by
   have:=F1 hs1.env
   have ho:Av (Bh σ yn dn fr L a.tmps) g=some (.clo gf capn):=by
    cases g with
    | tmp t=>exact hg
    | _=>exact hg
   have h3:=this g _ ho
   have he:({ a with defers:=[{ target:=.collected w.heap.size,args:=#[] }]++a.defers }:Act).eval g=a.eval g:=by cases g<;>rfl
   rw[he]at h3
   exact h3)
  have e:=hcl.1
  rw[hge]at e
  have e2:capn.map ρ=capn.map ρ1:=by
   have e:=congrArg (fun v:Value=>match v with|.func _ _ cs=>cs.toList|_=>[]) e
   simpa[vw] using e
  rw[e2]
  exact hcl.2
 have hk1:∀res objs',post res objs'→∃(ren2:List (Nat×Br)) (res2:AV) (objs2:List (Nat×Obj)),Bv ren2=true∧CG objs2 ren2=true∧Ae objs' ren2 objs2∧BD ren2 res res2 ∧
   Hz ren ren2 stay hss=true∧Ez (Aj ren) objs2 (Bh σ yn dn fr L a.tmps).objs=true∧∀a' w',(c.marked2 yn dn w.heap.size).sat (B9 (Bh σ yn dn fr L a.tmps) (Aj ren) hss none res2 objs2) a' w' →
    rangePost (FR c.r) 0 c.P (w.heap.size+1) (RZ c R k) a' (.returned undef) w':=by
  intro res objs' hp
  obtain⟨ren2,objs2,L',q1,q2,q3,q4,q5,q6,q7,q8⟩:=g6 res objs' hp
  refine⟨ren2,.top,objs2,q1,q2,q3,qK ren2 res,q4,q5,fun a' w' hs'=>?_⟩
  obtain⟨ρ',hs'⟩:=hs'
  have hyl:lk yn (B9 (Bh σ yn dn fr L a.tmps) (Aj ren) hss none .top objs2).objs=some (.loop L'):=by
   simp only[B9,Ax,q6];rfl
  have hyp:=(hs'.pin (yn,.pointer (some ⟨w.heap.size+1,0,none⟩)) (by simp[Cx.marked2])).2.1
  obtain⟨r1,r2⟩:=Sp hc1 hs' hyl hyp { L' with state:=.exhausted }
  refine⟨_,_,run_endLoop r1 (by intro e;rw[e]at q7;cases q7),?_⟩
  have hsat2:(c.marked dn w.heap.size).sat ⟨(B9 (Bh σ yn dn fr L a.tmps) (Aj ren) hss none .top objs2).env,upd yn (.loop { L' with state:=.exhausted }) (B9 (Bh σ yn dn fr L a.tmps) (Aj ren) hss none .top objs2).objs⟩ a' (w'.putObj (w.heap.size+1) (.loop { L' with state:=.exhausted })) :=
   ⟨ρ',r2.frm,r2.nt,r2.defers,fun p hp=>r2.pin p (List.mem_cons_of_mem _ hp),r2.objs,r2.free,r2.dist,r2.env⟩
  have hout:=A0l hk0 h2 (q8 w.heap.size) hsat2
  revert hout
  generalize L'.pending=p
  intro hout
  cases p<;>exact hout
 obtain⟨Kc,O0c,ρc,hK1,hO1,hmem,hav,_,hpost⟩:=PQ hc1 hs1 hcap1 stay post ren g1 g2 g3 g4 hss (by simpa[Cx.marked2] using g5) (dst:=none) (fun d hd=>by cases hd) hk1
 have hcall:=hCM W1 Kc O0c ρc _ hK1 hO1 hmem hav
 refine⟨w.heap.size+1,[{ target:=.collected w.heap.size,args:=#[] }],W1,{ target:=.fn (.func gf) (capn.map ρ).toArray,args:=#[.func (.yield (w.heap.size+1)) #[] #[]] },W1,gf,
  (.func (.yield (w.heap.size+1)) #[] #[] :: capn.map ρ).toArray,W1,?_,?_,fun _ _=>trivial,?_,fun h=>by simp[FR]at h,?_⟩
 ·rw[←hW1,hL];exact run_enterLoop_outer _ _ _ _ _
 ·have hge':a.eval g=.func (.func gf) #[] (capn.map ρ).toArray:=hge
  simp only[resolve,hge']
  simp[go_sem]
 ·have e1 : ¬ cf.name = "runtime.NumGoroutine" := by simpa using hname
  have e2:¬cf.body=none:=by intro e;simp[e]at hbody
  simp[invoke,callFunc,hcf,e1,e2]
 ·refine Ms (hcall.mono fun e w' hh=>?_)
  obtain⟨u,rfl,hh⟩:=hh
  exact hpost u w' hh
/-! ### The end of a function that holds such a loop -/
theorem vN (hc:c.Ok) {a:Act} {w:World} {ρ:Nat→Value} (hs:Bq c.w0 c.K c.O0 c.nt c.ds σ ρ a w) {dn b:Nat} (hl:lk dn σ.objs=some .dfr) (hb:ρ dn=.pointer (some ⟨b,0,none⟩)) (X:_root_.Go.Obj) (pin:List (Nat×Value)) (hpin:∀p∈pin,p∈c.ds.pin∧p.1≠dn) :
  w.heap[b]?=some (.deferred (some []))∧Bq c.w0 c.K c.O0 c.nt { ds:=c.ds.ds,pin:=pin } ⟨B7 [dn] σ.env,Au [dn] [dn] σ.objs⟩ ρ a (w.putObj b X):=by
 obtain⟨b',h1,h2⟩:=hs.objs dn _ hl
 rw[hb]at h1
 injection h1 with h1
 injection h1 with h1
 injection h1 with h1
 subst h1
 have hlt:b<w.heap.size:=Cq h2
 refine⟨h2,?_⟩
 have hbo:own c.O0 σ ρ b:=.inr ⟨dn,⟨_,hl⟩,by rw[hb];exact .inl rfl⟩
 have hliv:∀n,GZ ⟨B7 [dn] σ.env,Au [dn] [dn] σ.objs⟩ n→GZ σ n∧n≠dn:=by
  rintro n ⟨o,hn⟩
  have hn:lk n (Au [dn] [dn] σ.objs)=some o:=hn
  rw[Bp]at hn
  split at hn
  ·cases hn
  ·rename_i hne
   simp only[Option.map_eq_some_iff]at hn
   obtain⟨y,hy,_⟩:=hn
   exact⟨⟨y,hy⟩,fun e=>hne (by subst e;simp[Aa])⟩
 have hhp:∀k,k≠b→(w.putObj b X).heap[k]?=w.heap[k]?:=fun k hk=>World.putObj_heap_other hk
 have hkeep:Ck ((vw w c.O0 σ ρ).buts [dn]) (vw (w.putObj b X) c.O0 ⟨B7 [dn] σ.env,Au [dn] [dn] σ.objs⟩ ρ):=by
  refine⟨fun k _ hk hk'=>?_,fun n hn=>?_,fun _ _=>rfl,fun k _ hk=>hhp k (fun e=>?_)⟩
  ·rcases hk' with h0|⟨n,hn,hnb⟩
   ·exact hk (.inl h0)
   ·exact hk (.inr ⟨n,(hliv n hn).1,hnb⟩)
  ·obtain⟨⟨o,ho⟩,hm⟩:=hn
   exact⟨_,by show lk n (Au [dn] [dn] σ.objs)=_;rw[Bp,if_neg (by rw[hm];simp),ho];rfl⟩
  ·subst e;exact hk hbo
 refine⟨⟨hs.frm.os,hs.frm.tape,hs.frm.output,by simpa using hs.frm.size,fun k hk=>?_⟩,hs.nt,hs.defers,fun p hp=>?_,fun n x hn=>?_,fun n k hl' hk=>hs.free n k (hliv n hl').1 hk,fun n m k h1 h2 h3 h4=>hs.dist n m k (hliv n h1).1 (hliv m h2).1 h3 h4,fun s v hv=>?_⟩
 ·refine(hhp k fun e=>?_).trans (hs.frm.block k hk)
  subst e
  exact(hs.free dn k ⟨_,hl⟩ (by rw[hb];exact .inl rfl)).1 hk
 ·obtain⟨q1,q2⟩:=hpin p hp
  obtain⟨q3,q4,q5⟩:=hs.pin p q1
  exact⟨hkeep.L p.1 ⟨q3,by simp[Aa,q2]⟩,q4,q5⟩
 ·have hn':lk n (Au [dn] [dn] σ.objs)=some x:=hn
  have hne:=(hliv n ⟨x,hn⟩).2
  rw[Bp]at hn'
  split at hn'
  ·cases hn'
  ·simp only[Option.map_eq_some_iff]at hn'
   obtain⟨y,hy,rfl⟩:=hn'
   refine W9 hkeep (fun k hk=>hhp k fun e=>?_) (hs.objs n y hy)
   subst e
   exact hne (hs.dist n dn k ⟨y,hy⟩ ⟨_,hl⟩ hk (by rw[hb];exact .inl rfl))
 ·rw[EW]at hv
  simp only[Option.map_eq_some_iff]at hv
  obtain⟨y,hy,rfl⟩:=hv
  exact(RW (hs.env s y hy)).keeps hkeep
end
def A2T (P:Program) (fn:Func) (w0:World) (K O0:Nat→Prop) (stay:List Nat) (ρ0:Nat→Value) (post:AV→List (Nat×Obj)→Prop):Exit→Act→World→Prop :=
 bodyPostM (FR none) 0 P fn fun e w'=>∃u,e=.returned u∧OI K O0 stay w0 ρ0 post u w'
theorem A0m {P:Program} {tb:Tb} {f:FuncId} {fn:Func} {cd:Code} {nt:Nat} {args:List AV} {objs:List (Nat×Obj)} {stay:List Nat} {post:AV→List (Nat×Obj)→Prop}
  (hfn : P.funcs[f]? = some fn) (hname : (fn.name == "runtime.NumGoroutine") = false) (hbody : fn.body = some cd) (hnt : fn.ntmps = nt) (hlen : args.length ≤ nt)
  (hcode:Bz nt cd=true) (hst:stay.all (VN objs)=true) (hkeys:PI objs=true) (hT:Dp P tb) (hF:MY P tb)
  (h:∀(w0:World) (K O0:Nat→Prop) (ρ0:Nat→Value),(cm P tb w0 K O0 nt (stay.map fun n=>(n,ρ0 n))).Ok→SY args→SZ objs →
   Ev (cm P tb w0 K O0 nt (stay.map fun n=>(n,ρ0 n))) (A2T P fn w0 K O0 stay ρ0 post) (.run cd) [] ⟨BG 0 args,objs⟩):B8 P f args objs stay post:=by
 refine⟨⟨fn,hfn,hname,by simp[hbody]⟩,fun w K O0 ρ vs hK hO hm hv=>?_⟩
 refine callsIn_wide.1 (callsIn_of_wp_marks (F:=FR none) (n:=0) hfn hbody trivial ?_ rfl)
 have hvl:=Hy hv
 rw[hnt]
 exact h w K O0 ρ ⟨hK,hO,hT,hF⟩ (Rf hv) (Rg hkeys fun n o ho=>XF (hm.obj n o ho)) hcode rfl _ _ (Sa hm hv hst (by omega))
theorem vO {P:Program} {tb:Tb} {w0:World} {K O0:Nat→Prop} {nt:Nat} {stay:List Nat} {ρ0:Nat→Value} {fn:Func} {post:AV→List (Nat×Obj)→Prop} {σ:St} {e:Exit} {dn b:Nat} (hc:((cm P tb w0 K O0 nt (stay.map fun n=>(n,ρ0 n))).marked dn b).Ok)
  (rs:List ResultVar) (hr:fn.results.toList=rs) (he:e=.ret∨e=.normal) (hl:lk dn σ.objs=some .dfr) (hdn:Aa dn stay=false) (res:AV) (h:VP tb ⟨B7 [dn] σ.env,Au [dn] [dn] σ.objs⟩ rs res) (hp:post res (Au [dn] [dn] σ.objs)) :
  Ev ((cm P tb w0 K O0 nt (stay.map fun n=>(n,ρ0 n))).marked dn b) (A2T P fn w0 K O0 stay ρ0 post) (.out e) [] σ:=by
 intro _ _ a w hs
 obtain⟨ρ,hs⟩:=hs
 have hbd:=(hs.pin (dn,.pointer (some ⟨b,0,none⟩)) (by simp[Cx.marked])).2.1
 obtain⟨h1,h2⟩:=vN hc hs hl hbd (.deferred none) (stay.map fun n=>(n,ρ0 n)) (fun p hp=>⟨List.mem_cons_of_mem _ hp,fun e=>by
  obtain⟨n,hn,rfl⟩:=List.mem_map.1 hp
  have e:n=dn:=e
  subst e
  rw[(Ag _ _).2 hn]at hdn
  cases hdn⟩)
 have h2':Bq w0 K O0 nt { ds:=[⟨.collected b,#[]⟩],pin:=stay.map fun n=>(n,ρ0 n) } ⟨B7 [dn] σ.env,Au [dn] [dn] σ.objs⟩ ρ a (w.putObj b (.deferred none)):=h2
 obtain⟨u,h3,h4⟩:=ZA hc.T h2' (fn:=fn) (by rw[hr];exact h)
 have hpost:OI K O0 stay w0 ρ0 post u (w.putObj b (.deferred none)):=by
  refine⟨res,_,ρ,hp,h2'.frm,⟨h2'.objs,h2'.free,h2'.dist⟩,h4,fun n hn=>?_⟩
  exact(h2'.pin (n,ρ0 n) (List.mem_map.2 ⟨n,hn,rfl⟩)).2.1
 have hdf:a.defers=[⟨.collected b,#[]⟩]:=hs.defers
 have key:LeavesInM (FR none) 0 P fn a.tmps (fun e w'=>∃u,e=.returned u∧OI K O0 stay w0 ρ0 post u w') a.defers .returning w:=by
  rw[hdf]
  exact⟨by simp,.inl ⟨b,_,rfl,run_takeDeferred h1,u,h3,u,rfl,hpost⟩⟩
 rcases he with rfl|rfl
 ·exact key
 ·exact key
end
/- The rules in their shortest form: what is reckoned is reckoned by themselves. -/
section
open Go Go.RowKit
section
variable {c:Cx} {R:Exit→Act→World→Prop} {k:List D0} {σ σ':St}
theorem rP (lv:List Nat) (hc:c.Ok) {id:Nat} {l:List Oper} {vc:Prop} (hvc:vc) (hk:Ev c R (.out .normal) k σ') (h0:(l.all fun o=>o.guard.isNone)=true:=by rfl)
  (h:Db lv (Bi c.tb l l σ)=some (vc,σ'):=by simp only[go_sem,Nat.reduceEqDiff,reduceCtorEq,Nat.reduceAdd,Nat.reduceSub,Nat.reduceMul,Nat.reduceLeDiff,Nat.reduceLT,Int.reduceLE,Int.reduceToNat,Int.reduceNeg,↓reduceIte];rfl):Ev c R (.run (.region id l.toArray false)) k σ:=Ko lv hc h0 h hvc hk
theorem rC {o:Operand} {x y:Code} {b:Bool} {p q:Prop} (ht:p→Ev c R (.run x) k σ) (hf:q→Ev c R (.run y) k σ) (h:Av σ o=some (.p .bool b):=by simp only[go_sem,Nat.reduceEqDiff,reduceCtorEq,Nat.reduceAdd,Nat.reduceSub,Nat.reduceMul,Nat.reduceLeDiff,Nat.reduceLT,Int.reduceLE,Int.reduceToNat,Int.reduceNeg,↓reduceIte];rfl)
  (hp:(b=true)=p:=by first|(simp only[decide_eq_true_eq,decide_eq_false_iff_not,Bool.and_eq_true,Bool.or_eq_true,Bool.and_eq_false_imp,Bool.or_eq_false_iff,Bool.not_eq_true',Bool.not_eq_false',beq_iff_eq,beq_eq_false_iff_ne,bne_iff_ne,Bool.not_eq_eq_eq_not,Bool.not_true,Bool.not_false,Int.not_lt,Int.not_le,ne_eq];rfl)|rfl) (hq:(b=false)=q:=by first|(simp only[decide_eq_true_eq,decide_eq_false_iff_not,Bool.and_eq_true,Bool.or_eq_true,Bool.and_eq_false_imp,Bool.or_eq_false_iff,Bool.not_eq_true',Bool.not_eq_false',beq_iff_eq,beq_eq_false_iff_ne,bne_iff_ne,Bool.not_eq_eq_eq_not,Bool.not_true,Bool.not_false,Int.not_lt,Int.not_le,ne_eq];rfl)|rfl):Ev c R (.run (.cond o x y)) k σ :=
 Yy h (fun e=>ht (hp▸e)) (fun e=>hf (hq▸e))
theorem rL (lv:List Nat) (hc:c.Ok) {ops:List Oper} {l:List Oper} {vc:Prop} (hvc:vc) (hk:Ev c R (.out .normal) k σ') (h:Db lv (Bi c.tb ops l σ)=some (vc,σ'):=by simp only[go_sem,Nat.reduceEqDiff,reduceCtorEq,Nat.reduceAdd,Nat.reduceSub,Nat.reduceMul,Nat.reduceLeDiff,Nat.reduceLT,Int.reduceLE,Int.reduceToNat,Int.reduceNeg,↓reduceIte];rfl):NY c R k ops.toArray l σ:=GN lv hc h hvc hk
theorem rN (n:Nat) (hc:c.Ok) {ops:List Oper} {l:List Oper} {vc:Prop} (hvc:vc) (hk:NY c R k ops.toArray (l.drop n) σ') (h:Bi c.tb ops (l.take n) σ=some (vc,σ'):=by simp only[List.take_succ_cons,List.take_zero,go_sem,Nat.reduceEqDiff,reduceCtorEq,Nat.reduceAdd,Nat.reduceSub,Nat.reduceMul,Nat.reduceLeDiff,Nat.reduceLT,Int.reduceLE,Int.reduceToNat,Int.reduceNeg,↓reduceIte];rfl):NY c R k ops.toArray l σ:=Re hc n (by simpa using h) hvc hk
theorem cP (n:Nat) (hc:c.Ok) {id:Nat} {l:List Oper} {vc:Prop} (hvc:vc) (hk:NY c R k l.toArray (l.drop n) σ') (h0:(l.all fun o=>o.guard.isNone)=true:=by rfl) (h:Bi c.tb l (l.take n) σ=some (vc,σ'):=by simp only[List.take_succ_cons,List.take_zero,go_sem,Nat.reduceEqDiff,reduceCtorEq,Nat.reduceAdd,Nat.reduceSub,Nat.reduceMul,Nat.reduceLeDiff,Nat.reduceLT,Int.reduceLE,Int.reduceToNat,Int.reduceNeg,↓reduceIte];rfl) :
  Ev c R (.run (.region id l.toArray false)) k σ:=u3 hc n h0 h hvc hk
theorem rM (hc:c.Ok) {ops:Array Oper} {rest:List Oper} {dst:Option Nat} {g:Operand} {xs:List Operand} {ts:Array TypeId} {ty:TypeId} {pos:String} {after:Array Edge}
  {f:FuncId} {capn:List Nat} {as:List AV} {A:List AV} {objs:List (Nat×Obj)} {stay:List Nat} {post:AV→List (Nat×Obj)→Prop} (hM:B8 c.P f A objs stay post)
  (ren:List (Nat×Br)) (hs:List Nat) (hA:BF σ ren (as++capn.map fun n=>AV.bp n [] 0) A) (hO:Ae σ.objs ren objs)
  (hk:∀res objs',post res objs'→∃(ren2:List (Nat×Br)) (res2:AV) (objs2:List (Nat×Obj)),Bv ren2=true∧CG objs2 ren2=true∧Ae objs' ren2 objs2∧BD ren2 res res2 ∧
   Hz ren ren2 stay hs=true∧Ez (Aj ren) objs2 σ.objs=true∧NY c R k ops rest (B9 σ (Aj ren) hs dst res2 objs2))
  (hg:Ct (Av σ g)=some (f,capn):=by simp only[go_sem,Nat.reduceEqDiff,reduceCtorEq,Nat.reduceAdd,Nat.reduceSub,Nat.reduceMul,Nat.reduceLeDiff,Nat.reduceLT,Int.reduceLE,Int.reduceToNat,Int.reduceNeg,↓reduceIte];rfl) (has:Hk σ xs=some as:=by simp only[go_sem,Nat.reduceEqDiff,reduceCtorEq,Nat.reduceAdd,Nat.reduceSub,Nat.reduceMul,Nat.reduceLeDiff,Nat.reduceLT,Int.reduceLE,Int.reduceToNat,Int.reduceNeg,↓reduceIte];rfl)
  (h1:Bv ren=true:=by rfl) (h2:CG objs ren=true:=by rfl) (hpin:(c.ds.pin.all fun p=>!Aa p.1 hs)=true:=by rfl) :
  NY c R k ops (⟨dst,.call ⟨.value g,xs.toArray,ts⟩,ty,pos,after,none⟩ :: rest) σ:=uZ hc hg has hM ren hs h1 h2 hpin hA hO hk
theorem rY (n yn:Nat) (hc:c.Ok) {ops:Array Oper} {rest:List Oper} {dst:Option Nat} {g:Operand} {xs:List Operand} {ts:Array TypeId} {ty:TypeId} {pos:String} {after:Array Edge}
  {as:List AV} {A:List AV} {objs:List (Nat×Obj)} {stay:List Nat} {post:AV→List (Nat×Obj)→Prop} (hM:ZL c.P yn A objs stay post)
  (ren:List (Nat×Br)) (hs:List Nat) (hA:BF σ ren as A) (hO:Ae σ.objs ren objs)
  (hk:∀res objs',post res objs'→∃(ren2:List (Nat×Br)) (res2:AV) (objs2:List (Nat×Obj)),Bv ren2=true∧CG objs2 ren2=true∧Ae objs' ren2 objs2∧BD ren2 res res2 ∧
   Hz ren ren2 stay hs=true∧Ez (Aj ren) objs2 σ.objs=true∧NY c R k ops rest (B9 σ (Aj ren) hs dst res2 objs2))
  (hr0:c.r=none:=by rfl) (hg:XQ n (Av σ g)=true:=by simp only[go_sem,Nat.reduceEqDiff,reduceCtorEq,Nat.reduceAdd,Nat.reduceSub,Nat.reduceMul,Nat.reduceLeDiff,Nat.reduceLT,Int.reduceLE,Int.reduceToNat,Int.reduceNeg,↓reduceIte]) (has:Hk σ xs=some as:=by simp only[go_sem,Nat.reduceEqDiff,reduceCtorEq,Nat.reduceAdd,Nat.reduceSub,Nat.reduceMul,Nat.reduceLeDiff,Nat.reduceLT,Int.reduceLE,Int.reduceToNat,Int.reduceNeg,↓reduceIte];rfl)
  (hyn:lk yn ren=some (.nm n):=by rfl) (h1:Bv ren=true:=by rfl) (h2:CG objs ren=true:=by rfl) (hpin:(c.ds.pin.all fun p=>!Aa p.1 hs)=true:=by rfl) :
  NY c R k ops (⟨dst,.call ⟨.value g,xs.toArray,ts⟩,ty,pos,after,none⟩ :: rest) σ:=qH hc hr0 hg has hM ren hs hyn h1 h2 hpin hA hO hk
end
end
/- Code with labels that nothing jumps to: a scope, a label. -/
section
open Go Go.RowKit
section
variable {P:Program} {b:Frame} {a:Act} {k:List Item} {cs:List Frame} {w:World}
theorem FD {c:Code}:step P (lone (b.atR a (.code (.scope c) :: k)) cs w)=.next (lone (b.atR a (.code c :: .inScope c :: k)) cs w) :=
 step_lone_go (by simp[stepG,stepG.exec,Frame.atR])
theorem Uj {c:Code}:step P (lone (b.atR a (.inScope c :: k)) cs w)=.next (lone (b.atR a k) cs w) :=
 step_lone_go (by simp[stepG,stepG.exec,Frame.atR])
end
theorem MP {F:Fence} {n:Nat} {P:Program} {Q:Exit→Act→World→Prop} {a:Act} {w:World} {c:Code} (h:c.wpIn F n P (Exit.noGoto Q) a w):(Code.scope c).wpIn F n P Q a w:=by
 intro b k cs hro hb hr
 have h0:(lone (b.atR a (.code (.scope c) :: k)) cs w).fenced P F:=fenced_calm hb hr rfl
 obtain⟨e,a₁,w₁,hq,harr⟩:=h b (.inScope c :: k) cs hro hb hr
 cases e with
 | normal=>exact⟨.normal,a₁,w₁,hq,.head h0 FD (StepsIn.trans harr (.one (fenced_calm hb hr rfl) Uj))⟩
 | exit id =>
  have hx:exitTo id (.inScope c :: k)=exitTo id k:=by simp[exitTo]
  exact⟨.exit id,a₁,w₁,hq,fun k' hk=>.head h0 FD (harr.1 k' (by rw[hx];exact hk)),
   fun hr' hk=>let ⟨k₁,h1,h2⟩:=harr.2 hr' (by rw[hx];exact hk);⟨k₁,h1,.head h0 FD h2⟩⟩
 | goto l=>exact hq.elim
 | ret=>exact⟨_,a₁,w₁,hq,.of_steps (.one h0 FD) harr⟩
 | panic ch=>exact⟨_,a₁,w₁,hq,.of_steps (.one h0 FD) harr⟩
 | outgrown=>exact⟨_,a₁,w₁,hq,.of_steps (.one h0 FD) harr⟩
section
variable {c:Cx} {R:Exit→Act→World→Prop} {k:List D0} {σ:St}
theorem OM (hR:∀l a w,¬R (.goto l) a w):∀(k:List D0) (l:Nat) (a:Act) (w:World),¬RZ c R k (.goto l) a w
 | [],l,a,w=>hR l a w
 | .seq _ :: k,l,a,w=>OM hR k l a w
 | .blk _ :: k,l,a,w=>OM hR k l a w
 | .inv _ :: k,l,a,w=>OM hR k l a w
theorem vP (hR:∀l a w,¬R (.goto l) a w) {b:Code} (h:Ev c R (.run b) k σ):Ev c R (.run (.scope b)) k σ:=by
 intro h1 h2 a w hs
 have h1:Bz c.nt b=true:=by simpa[Hv,Bz] using h1
 refine MP (wpIn_mono (h h1 h2 a w hs) ?_)
 intro e a' w' hq
 cases e with
 | goto l=>exact absurd hq (OM hR k l a' w')
 | _=>exact hq
theorem vQ {l:Nat} (h:Ev c R (.out .normal) k σ):Ev c R (.run (.label l)) k σ:=fun _ h2 a w hs=>wpIn_label (h rfl h2 a w hs)
theorem vR {P:Program} {fn:Func} {w0:World} {O0:Nat→Prop} {outs:List RV}:∀l a w,¬Yw P fn w0 O0 outs (.goto l) a w:=fun _ _ _ h=>h
end
end
/- Several steps of control in one. -/
section
open Go Go.RowKit
def gZ:gJ→List D0→Option (gJ×List D0)
 | .run (.seq x y),k=>some (.run x,.seq y :: k)
 | .run .skip,k=>some (.out .normal,k)
 | .run .ret,k=>some (.out .ret,k)
 | .run (.exit id),k=>some (.out (.exit id),k)
 | .run (.block id b),k=>some (.run b,.blk id :: k)
 | .out .normal,.seq y :: k=>some (.run y,k)
 | .out .normal,.blk _ :: k=>some (.out .normal,k)
 | .out (.exit id),.seq _ :: k=>some (.out (.exit id),k)
 | .out (.exit id'),.blk id :: k=>if id'=id then some (.out .normal,k) else some (.out (.exit id'),k)
 | .out (.exit id),.inv _ :: k=>some (.out (.exit id),k)
 | .out .ret,.seq _ :: k=>some (.out .ret,k)
 | .out .ret,.blk _ :: k=>some (.out .ret,k)
 | .out .ret,.inv _ :: k=>some (.out .ret,k)
 | _,_=>none
def Sq:Nat→gJ→List D0→gJ×List D0
 | 0,n,k=>(n,k)
 | m+1,n,k=>match gZ n k with
  | some (n',k')=>Sq m n' k'
  | none=>(n,k)
def g9 (n:gJ) (k:List D0):Option (gJ×List D0):=match gZ n k with
 | some (n',k')=>some (Sq 200 n' k')
 | none=>none
section
variable {c:Cx} {R:Exit→Act→World→Prop} {σ:St}
theorem ZN {n n':gJ} {k k':List D0} (e:gZ n k=some (n',k')) (h:Ev c R n' k' σ):Ev c R n k σ:=by
 unfold gZ at e
 split at e<;>first
  | (cases e;done)
  | (split at e<;>(cases e;first|(rename_i hid;rw[hid];exact cW h)|exact cX (by assumption) h))
  | (cases e;first|exact A3k h|exact A0d h|exact A3l h|exact A0e h|exact uL h|exact cO h|exact cR h|exact Yu h|exact Yv h|exact cQ h|exact cS h|exact cU h)
theorem VY:∀(m:Nat) {n:gJ} {k:List D0},Ev c R (Sq m n k).1 (Sq m n k).2 σ→Ev c R n k σ
 | 0,_,_,h=>h
 | m+1,n,k,h=>by
  unfold Sq at h
  split at h
  ·rename_i n' k' e
   exact ZN e (VY m h)
  ·exact h
theorem eS {n n':gJ} {k k':List D0} (e:g9 n k=some (n',k')) (h:Ev c R n' k' σ):Ev c R n k σ:=by
 unfold g9 at e
 split at e
 ·rename_i n1 k1 e1
  refine ZN e1 (VY 200 ?_)
  have:=Option.some.inj e
  rw[this]
  exact h
 ·cases e
end
inductive RX (c:Cx) (lv:List Nat) (σ:St) (vc:Prop) (σ':St):Array Oper→Bool→Prop
 | p {l:List Oper} (h0:(l.all fun o=>o.guard.isNone)=true) (h:Db lv (Bi c.tb l l σ)=some (vc,σ')):RX c lv σ vc σ' l.toArray false
 | a {l:List Oper} (h0:pY l l.length=true) (h:Db lv (Kl c.tb l true σ.objs [] l 0 [] [] σ)=some (vc,σ')):RX c lv σ vc σ' l.toArray false
 | d {l:List Oper} (h0:OA l l.length=true) (hm:c.P.follows .mixedOrders=true) (h:Db lv (Kl c.tb l false σ.objs [] l 0 [] [] σ)=some (vc,σ')):RX c lv σ vc σ' l.toArray true
 | t {l:List Oper} (m:Nat) (h0:OA l (l.take (l.length-m)).length=true) (hm:c.P.follows .mixedOrders=true) (h:Db lv (Kl c.tb l false σ.objs (l.drop (l.length-m)) (l.take (l.length-m)) 0 [] [] σ)=some (vc,σ')):RX c lv σ vc σ' l.toArray true
theorem A4t {c:Cx} {R:Exit→Act→World→Prop} {k:List D0} {σ σ':St} {lv:List Nat} (hc:c.Ok) {id:Nat} {ops:Array Oper} {dr:Bool} {vc:Prop} (hvc:vc) (hk:Ev c R (.out .normal) k σ') (h:RX c lv σ vc σ' ops dr):Ev c R (.run (.region id ops dr)) k σ:=by
 cases h with
 | p h0 h=>exact Ko lv hc h0 h hvc hk
 | a h0 h=>exact ZB lv hc h0 h hvc hk
 | d h0 hm h=>exact p8 lv hm hc h0 h hvc hk
 | t m h0 hm h=>exact p9 lv m hm hc h0 h hvc hk
theorem rX {c:Cx} {R:Exit→Act→World→Prop} {k:List D0} {σ σ':St} (lv:List Nat) (hc:c.Ok) {id:Nat} {ops:Array Oper} {dr:Bool} {vc:Prop} (hvc:vc) (hk:Ev c R (.out .normal) k σ')
  (h:RX c lv σ vc σ' ops dr:=by
   first
   | exact .p rfl (by simp only[go_sem,Nat.reduceEqDiff,reduceCtorEq,Nat.reduceAdd,Nat.reduceSub,Nat.reduceMul,Nat.reduceLeDiff,Nat.reduceLT,Int.reduceLE,Int.reduceToNat,Int.reduceNeg,↓reduceIte];rfl)
   | exact .a (by kernel_rfl) (by simp only[go_sem,Nat.reduceEqDiff,reduceCtorEq,Nat.reduceAdd,Nat.reduceSub,Nat.reduceMul,Nat.reduceLeDiff,Nat.reduceLT,Int.reduceLE,Int.reduceToNat,Int.reduceNeg,↓reduceIte];rfl)
   | exact .d (by kernel_rfl) (by exact drawsAny) (by simp only[go_sem,Nat.reduceEqDiff,reduceCtorEq,Nat.reduceAdd,Nat.reduceSub,Nat.reduceMul,Nat.reduceLeDiff,Nat.reduceLT,Int.reduceLE,Int.reduceToNat,Int.reduceNeg,↓reduceIte];rfl)
   | exact .t 1 (by kernel_rfl) (by exact drawsAny) (by simp only[List.take_succ_cons,List.drop_succ_cons,List.take_zero,List.drop_zero,go_sem,Nat.reduceEqDiff,reduceCtorEq,Nat.reduceAdd,Nat.reduceSub,Nat.reduceMul,Nat.reduceLeDiff,Nat.reduceLT,Int.reduceLE,Int.reduceToNat,Int.reduceNeg,↓reduceIte];rfl)
   | exact .t 2 (by kernel_rfl) (by exact drawsAny) (by simp only[List.take_succ_cons,List.drop_succ_cons,List.take_zero,List.drop_zero,go_sem,Nat.reduceEqDiff,reduceCtorEq,Nat.reduceAdd,Nat.reduceSub,Nat.reduceMul,Nat.reduceLeDiff,Nat.reduceLT,Int.reduceLE,Int.reduceToNat,Int.reduceNeg,↓reduceIte];rfl)
   | exact .t 3 (by kernel_rfl) (by exact drawsAny) (by simp only[List.take_succ_cons,List.drop_succ_cons,List.take_zero,List.drop_zero,go_sem,Nat.reduceEqDiff,reduceCtorEq,Nat.reduceAdd,Nat.reduceSub,Nat.reduceMul,Nat.reduceLeDiff,Nat.reduceLT,Int.reduceLE,Int.reduceToNat,Int.reduceNeg,↓reduceIte];rfl)):Ev c R (.run (.region id ops dr)) k σ:=A4t hc hvc hk h
/-! What is reckoned, in one word -/
theorem eN {p:Prop} (h:p:=by simp only[go_sem,Nat.reduceEqDiff,reduceCtorEq,Nat.reduceAdd,Nat.reduceSub,Nat.reduceMul,Nat.reduceLeDiff,Nat.reduceLT,Int.reduceLE,Int.reduceToNat,Int.reduceNeg,↓reduceIte]<;>fail):p:=h
theorem eM {p q:Prop} (hq:q) (h:p=q:=by simp only[go_sem,Nat.reduceEqDiff,reduceCtorEq,Nat.reduceAdd,Nat.reduceSub,Nat.reduceMul,Nat.reduceLeDiff,Nat.reduceLT,Int.reduceLE,Int.reduceToNat,Int.reduceNeg,↓reduceIte];rfl):p:=h▸hq
theorem eR {p:Prop} (h:p:=by simp only[Nx,Kh,Iq,JY,Lm,IM,Ir,go_sem,Nat.reduceEqDiff,reduceCtorEq,Nat.reduceAdd,Nat.reduceSub,Nat.reduceMul,Nat.reduceLeDiff,Nat.reduceLT,Int.reduceLE,Int.reduceToNat,Int.reduceNeg,↓reduceIte]<;>fail):p:=h
theorem Aw {p q:Prop} (hq:q) (h:p=q:=by simp only[Nx,Kh,Iq,JY,Lm,IM,Ir,go_sem,Nat.reduceEqDiff,reduceCtorEq,Nat.reduceAdd,Nat.reduceSub,Nat.reduceMul,Nat.reduceLeDiff,Nat.reduceLT,Int.reduceLE,Int.reduceToNat,Int.reduceNeg,↓reduceIte];rfl):p:=h▸hq
theorem eV {p:Prop} (h:p:=by (try dsimp only[Ty.den]at *)<;>(repeat'(first|apply And.intro|intro _))<;>omega):p:=h
end
/- A call by contract under a guard that holds. -/
section
open Go Go.RowKit
section
variable {c:Cx} {R:Exit→Act→World→Prop} {k:List D0} {σ σ':St}
theorem vS (hc:c.Ok) {id:Nat} {l:List Oper} (n:Nat) {vc:Prop} (h:Bi c.tb l (l.take n) σ=some (vc,σ')) (hvc:vc) (hk:NY c R k l.toArray (l.drop n) σ') :
  Ev c R (.run (.region id l.toArray false)) k σ:=by
 intro h1 h2 a w hs
 simp only[Hv,Bz,List.all_eq_true]at h1
 exact wpIn_region_list (Re hc n (by simpa using h) hvc hk (fun o ho=>h1 o ho) h2 a w hs)
theorem qM (hc:c.Ok) {ops:Array Oper} {rest:List Oper} {dst:Option Nat} {g:Operand} {xs:List Operand} {ts:Array TypeId} {ty:TypeId} {pos:String} {after:Array Edge} {gd:Option (Nat×Bool)}
  (hgd:EU ops.toList σ gd=some true)
  {f:FuncId} {capn:List Nat} (hg:Ct (Av σ g)=some (f,capn)) {as:List AV} (has:Hk σ xs=some as)
  {A:List AV} {objs:List (Nat×Obj)} {stay:List Nat} {post:AV→List (Nat×Obj)→Prop} (hM:B8 c.P f A objs stay post)
  (ren:List (Nat×Br)) (hs:List Nat) (h1:Bv ren=true) (h2:CG objs ren=true) (hpin:(c.ds.pin.all fun p=>!Aa p.1 hs)=true) (hA:BF σ ren (as++capn.map fun n=>AV.bp n [] 0) A) (hO:Ae σ.objs ren objs)
  (hk:∀res objs',post res objs'→∃(ren2:List (Nat×Br)) (res2:AV) (objs2:List (Nat×Obj)),Bv ren2=true∧CG objs2 ren2=true∧Ae objs' ren2 objs2∧BD ren2 res res2 ∧
   Hz ren ren2 stay hs=true∧Ez (Aj ren) objs2 σ.objs=true∧NY c R k ops rest (B9 σ (Aj ren) hs dst res2 objs2)) :
  NY c R k ops (⟨dst,.call ⟨.value g,xs.toArray,ts⟩,ty,pos,after,gd⟩ :: rest) σ:=by
 intro hd hko a w hsat
 unfold wpListIn
 rw[if_pos (Gq (o:=⟨dst,.call ⟨.value g,xs.toArray,ts⟩,ty,pos,after,gd⟩) hsat hgd)]
 refine XH hc (xs:=xs) (ts:=ts) rfl rfl hg has hM ren h1 h2 hA hO hs hpin hsat (Cb (hd _ (by simp))) fun res objs' hp=>?_
 obtain⟨ren2,res2,objs2,g1,g2,g3,g4,g5,g6,hE⟩:=hk res objs' hp
 exact⟨ren2,res2,objs2,g1,g2,g3,g4,g5,g6,fun a' w' hs'=>hE (fun o ho=>hd o (by simp[ho])) hko a' w' hs'⟩
end
end
/- The rules of mixed and guarded regions in their shortest form. -/
section
open Go Go.RowKit
section
variable {c:Cx} {ops:List Oper} {Kf:St→Prop} {τ:St} {ens:EN} {vc:Prop}
theorem YV {A D:List Nat} {l:Nat} {ps:List (List Nat×Nat)} {o:Oper} {σ1:St} {ens1:EN} (hvc:vc) (hL:XK c o σ1 ens1 (fun τ'=>u4 c ops Kf ps D ens1 τ')) (h:dC c.tb ops τ.objs (A++qs ps D) [] τ.env=some (vc,ens):=by simp only[go_sem,Nat.reduceEqDiff,reduceCtorEq,Nat.reduceAdd,Nat.reduceSub,Nat.reduceMul,Nat.reduceLeDiff,Nat.reduceLT,Int.reduceLE,Int.reduceToNat,Int.reduceNeg,↓reduceIte];rfl) (hfr:PR ens τ.objs=true:=by rfl) (ho:ops[l]?=some o:=by rfl)
  (hσ:Kp (ens.take A.length) τ=σ1:=by simp only[go_sem,Nat.reduceEqDiff,reduceCtorEq,Nat.reduceAdd,Nat.reduceSub,Nat.reduceMul,Nat.reduceLeDiff,Nat.reduceLT,Int.reduceLE,Int.reduceToNat,Int.reduceNeg,↓reduceIte];rfl) (he:ens.drop A.length=ens1:=by simp only[go_sem,Nat.reduceEqDiff,reduceCtorEq,Nat.reduceAdd,Nat.reduceSub,Nat.reduceMul,Nat.reduceLeDiff,Nat.reduceLT,Int.reduceLE,Int.reduceToNat,Int.reduceNeg,↓reduceIte];rfl):u4 c ops Kf ((A,l) :: ps) D ens τ:=vI h hvc hfr ho hσ he hL
theorem zO {R:Exit→Act→World→Prop} {k:List D0} {σ':St} (lv:List Nat) (hc:c.Ok) {D:List Nat} {l:List Oper} {vc2:Prop} (hvc:vc) (hvc2:vc2) (hk:Ev c R (.out .normal) k σ') (h:dC c.tb ops τ.objs D [] τ.env=some (vc,ens):=by simp only[go_sem,Nat.reduceEqDiff,reduceCtorEq,Nat.reduceAdd,Nat.reduceSub,Nat.reduceMul,Nat.reduceLeDiff,Nat.reduceLT,Int.reduceLE,Int.reduceToNat,Int.reduceNeg,↓reduceIte];rfl) (hfr:PR ens τ.objs=true:=by rfl)
  (h2:Db lv (Bi c.tb ops l (Kp ens τ))=some (vc2,σ'):=by simp only[go_sem,Nat.reduceEqDiff,reduceCtorEq,Nat.reduceAdd,Nat.reduceSub,Nat.reduceMul,Nat.reduceLeDiff,Nat.reduceLT,Int.reduceLE,Int.reduceToNat,Int.reduceNeg,↓reduceIte];rfl):u4 c ops (fun τ=>NY c R k ops.toArray l τ) [] D ens τ:=vH h hvc hfr (GN lv hc h2 hvc2 hk)
end
section
variable {c:Cx} {o:Oper} {σ:St} {ens:EN} {N:St→Prop} {R:Exit→Act→World→Prop} {k:List D0} {σ':St}
theorem hC (hc:c.Ok) {τ:St} {vc:Prop} (ns:List Nat) (hvc:vc) (hN:N τ) (h:Fq c.tb o σ=some (vc,τ):=by simp only[go_sem,Nat.reduceEqDiff,reduceCtorEq,Nat.reduceAdd,Nat.reduceSub,Nat.reduceMul,Nat.reduceLeDiff,Nat.reduceLT,Int.reduceLE,Int.reduceToNat,Int.reduceNeg,↓reduceIte];rfl) (hns:tn σ o.op=ns:=by simp only[go_sem,Nat.reduceEqDiff,reduceCtorEq,Nat.reduceAdd,Nat.reduceSub,Nat.reduceMul,Nat.reduceLeDiff,Nat.reduceLT,Int.reduceLE,Int.reduceToNat,Int.reduceNeg,↓reduceIte]) (hsl:Jg o ens=true:=by rfl) (hn:IR ns σ.objs ens=true:=by rfl) (hfr:OK τ.objs ens=true:=by rfl)
  (hf:I1 ns ens=ens:=by simp only[go_sem,Nat.reduceEqDiff,reduceCtorEq,Nat.reduceAdd,Nat.reduceSub,Nat.reduceMul,Nat.reduceLeDiff,Nat.reduceLT,Int.reduceLE,Int.reduceToNat,Int.reduceNeg,↓reduceIte]) (hd:HD c.nt o=true:=by rfl):XK c o σ ens N:=qF hc ns h hns hsl hn hfr hf hd hvc hN
theorem mxC (hc:c.Ok) {dst:Option Nat} {g:Operand} {xs:List Operand} {ts:Array TypeId} {ty:TypeId} {pos:String} {after:Array Edge} {f:FuncId} {capn:List Nat} {as:List AV}
  {A:List AV} {objs:List (Nat×Obj)} {stay:List Nat} {post:AV→List (Nat×Obj)→Prop} (hM:B8 c.P f A objs stay post) (ren:List (Nat×Br)) (hs:List Nat)
  (hA:BF σ ren (as++capn.map fun n=>AV.bp n [] 0) A) (hO:Ae σ.objs ren objs)
  (hk:∀res objs',post res objs'→∃(ren2:List (Nat×Br)) (res2:AV) (objs2:List (Nat×Obj)),Bv ren2=true∧CG objs2 ren2=true∧Ae objs' ren2 objs2∧BD ren2 res res2 ∧
   Hz ren ren2 stay hs=true∧Ez (Aj ren) objs2 σ.objs=true∧OK objs2 ens=true∧N (B9 σ (Aj ren) hs dst res2 objs2))
  (hg:Ct (Av σ g)=some (f,capn):=by simp only[go_sem,Nat.reduceEqDiff,reduceCtorEq,Nat.reduceAdd,Nat.reduceSub,Nat.reduceMul,Nat.reduceLeDiff,Nat.reduceLT,Int.reduceLE,Int.reduceToNat,Int.reduceNeg,↓reduceIte];rfl) (has:Hk σ xs=some as:=by simp only[go_sem,Nat.reduceEqDiff,reduceCtorEq,Nat.reduceAdd,Nat.reduceSub,Nat.reduceMul,Nat.reduceLeDiff,Nat.reduceLT,Int.reduceLE,Int.reduceToNat,Int.reduceNeg,↓reduceIte];rfl) (h1:Bv ren=true:=by rfl) (h2:CG objs ren=true:=by rfl) (hpin:(c.ds.pin.all fun p=>!Aa p.1 hs)=true:=by rfl)
  (hsl:Jg ⟨dst,.call ⟨.value g,xs.toArray,ts⟩,ty,pos,after,none⟩ ens=true:=by rfl) (hn:IR (Aj ren) σ.objs ens=true:=by rfl) (hf:I1 hs ens=ens:=by simp only[go_sem,Nat.reduceEqDiff,reduceCtorEq,Nat.reduceAdd,Nat.reduceSub,Nat.reduceMul,Nat.reduceLeDiff,Nat.reduceLT,Int.reduceLE,Int.reduceToNat,Int.reduceNeg,↓reduceIte]) (hd:HD c.nt ⟨dst,.call ⟨.value g,xs.toArray,ts⟩,ty,pos,after,none⟩=true:=by rfl) :
  XK c ⟨dst,.call ⟨.value g,xs.toArray,ts⟩,ty,pos,after,none⟩ σ ens N:=qG hc hg has hM ren hs h1 h2 hpin hsl hn hf hd hA hO hk
theorem evP (hc:c.Ok) {id:Nat} {l:List Oper} (n:Nat) {vc:Prop} (hvc:vc) (hk:NY c R k l.toArray (l.drop n) σ') (h:Bi c.tb l (l.take n) σ=some (vc,σ'):=by simp only[List.take_succ_cons,List.take_zero,go_sem,Nat.reduceEqDiff,reduceCtorEq,Nat.reduceAdd,Nat.reduceSub,Nat.reduceMul,Nat.reduceLeDiff,Nat.reduceLT,Int.reduceLE,Int.reduceToNat,Int.reduceNeg,↓reduceIte];rfl):Ev c R (.run (.region id l.toArray false)) k σ:=vS hc n h hvc hk
theorem clG (hc:c.Ok) {ops:Array Oper} {rest:List Oper} {dst:Option Nat} {g:Operand} {xs:List Operand} {ts:Array TypeId} {ty:TypeId} {pos:String} {after:Array Edge} {gd:Option (Nat×Bool)} {f:FuncId} {capn:List Nat} {as:List AV}
  {A:List AV} {objs:List (Nat×Obj)} {stay:List Nat} {post:AV→List (Nat×Obj)→Prop} (hM:B8 c.P f A objs stay post) (ren:List (Nat×Br)) (hs:List Nat) (hA:BF σ ren (as++capn.map fun n=>AV.bp n [] 0) A) (hO:Ae σ.objs ren objs)
  (hk:∀res objs',post res objs'→∃(ren2:List (Nat×Br)) (res2:AV) (objs2:List (Nat×Obj)),Bv ren2=true∧CG objs2 ren2=true∧Ae objs' ren2 objs2∧BD ren2 res res2 ∧
   Hz ren ren2 stay hs=true∧Ez (Aj ren) objs2 σ.objs=true∧NY c R k ops rest (B9 σ (Aj ren) hs dst res2 objs2))
  (hgd:EU ops.toList σ gd=some true:=by simp only[go_sem,Nat.reduceEqDiff,reduceCtorEq,Nat.reduceAdd,Nat.reduceSub,Nat.reduceMul,Nat.reduceLeDiff,Nat.reduceLT,Int.reduceLE,Int.reduceToNat,Int.reduceNeg,↓reduceIte]) (hg:Ct (Av σ g)=some (f,capn):=by simp only[go_sem,Nat.reduceEqDiff,reduceCtorEq,Nat.reduceAdd,Nat.reduceSub,Nat.reduceMul,Nat.reduceLeDiff,Nat.reduceLT,Int.reduceLE,Int.reduceToNat,Int.reduceNeg,↓reduceIte];rfl) (has:Hk σ xs=some as:=by simp only[go_sem,Nat.reduceEqDiff,reduceCtorEq,Nat.reduceAdd,Nat.reduceSub,Nat.reduceMul,Nat.reduceLeDiff,Nat.reduceLT,Int.reduceLE,Int.reduceToNat,Int.reduceNeg,↓reduceIte];rfl) (h1:Bv ren=true:=by rfl) (h2:CG objs ren=true:=by rfl) (hpin:(c.ds.pin.all fun p=>!Aa p.1 hs)=true:=by rfl) :
  NY c R k ops (⟨dst,.call ⟨.value g,xs.toArray,ts⟩,ty,pos,after,gd⟩ :: rest) σ:=qM hc hgd hg has hM ren hs h1 h2 hpin hA hO hk
theorem Gr (l:List Nat) {n:gJ} {σ1:St} (hk:Ev c R n k σ1) (h:CZ l σ=σ1:=by simp only[go_sem,Nat.reduceEqDiff,reduceCtorEq,Nat.reduceAdd,Nat.reduceSub,Nat.reduceMul,Nat.reduceLeDiff,Nat.reduceLT,Int.reduceLE,Int.reduceToNat,Int.reduceNeg,↓reduceIte];rfl):Ev c R n k σ:=Ev.ent hk (gP l h fun _ _ h=>h)
theorem A4u (l:List Nat) {σ1:St} (he:Ent c σ1 σ') (h:CZ l σ=σ1:=by simp only[go_sem,Nat.reduceEqDiff,reduceCtorEq,Nat.reduceAdd,Nat.reduceSub,Nat.reduceMul,Nat.reduceLeDiff,Nat.reduceLT,Int.reduceLE,Int.reduceToNat,Int.reduceNeg,↓reduceIte];rfl):Ent c σ σ':=gP l h he
end
theorem eT {p:Prop} (h:p:=by simp only[VP,p7,PP,VO,Iq,JY,IM,go_sem,Nat.reduceEqDiff,reduceCtorEq,Nat.reduceAdd,Nat.reduceSub,Nat.reduceMul,Nat.reduceLeDiff,Nat.reduceLT,Int.reduceLE,Int.reduceToNat,Int.reduceNeg,↓reduceIte]<;>fail):p:=h
end
/- append to a nested array's row in the midst of a statement: what looks at the rows from outside may float around it. -/
section
open Go Go.RowKit
structure Sr (X σ:St) (n:Nat):Prop where
 env:∀s v,lk s X.env=some v→v.trn n []=v
 arr:∀m o,lk m X.objs=some o→Kr o=true
 new:∀m o,lk m X.objs=some o→lk m σ.objs=none
 nm:∀m o,lk m X.objs=some o→m≠n
section
variable {σ σ' X:St} {n:Nat}
theorem Sr.obs (hx:MO σ σ' X) (ha:Sr X σ n):YU σ σ':=by
 intro m o hn
 rw[hx.objs]
 cases hX:lk m X.objs with
 | none=>exact hn
 | some o'=>rw[ha.new m o' hX]at hn;cases hn
theorem A7B (hx:MO σ σ' X) (ha:Sr X σ n) {en:List (Nat×AV)} {new:List (Nat×Obj)} (hd:∀s v,lk s en=some v→lk s X.env=none) (hnn:∀m o,lk m new=some o→lk m X.objs=none) :
  MO ⟨en++Dy n [] σ.env,new++CO n [] σ.objs⟩ ⟨en++Dy n [] σ'.env,new++CO n [] σ'.objs⟩ X:=by
 refine⟨fun s=>?_,fun m=>?_⟩
 ·simp only[Ax]
  cases hs:lk s en with
  | some v=>rw[hd s v hs];rfl
  | none =>
   rw[E9,E9,hx.env]
   cases hX:lk s X.env with
   | none=>rfl
   | some w=>simp[ha.env s w hX]
 ·simp only[Ax]
  cases hm:lk m new with
  | some o=>rw[hnn m o hm];rfl
  | none =>
   rw[DD,DD,hx.objs]
   cases hX:lk m X.objs with
   | none=>rfl
   | some w =>
    rw[if_neg fun h=>ha.nm m w hX (by simpa using (Ag _ _).1 h)]
    exact congrArg some (VX (ha.arr m w hX))
def qN (σ:St):Op→Option Nat
 | .call c=>match c.callee,c.args.toList,c.argTypes.toList with
  | .builtin .append,[x,_],[_,_]=>(match Av σ x with|some (.nin n _ _ _)=>some n|_=>none)
  | _,_,_=>none
 | _=>none
theorem A0n {tb:Tb} {op:Op} {d:Option Nat} {vc:Prop} {τ:St} (hx:MO σ σ' X) (ha:Sr X σ n) (hops:dG σ σ' op.operands.toList) (hnn:qN σ op=some n) (hd:∀t,d=some t→lk t X.env=none) (hXt:∀n,(∃u,lk n τ.objs=some u)→lk n X.objs=none) (h:E7 tb σ d op=some (vc,τ)) :
  (∃τ',E7 tb σ' d op=some (vc,τ')∧MO τ τ' X)∧(∀k,aq tb σ' k op=none)∧(∀k,aq tb σ k op=none)∧B4 σ op=[]∧B4 σ' op=[]:=by
 have hobs:=ha.obs hx
 cases op<;>try(cases hnn;done)
 rename_i cl
 obtain⟨callee,⟨args⟩,⟨argTypes⟩⟩:=cl
 simp only[qN]at hnn
 split at hnn
 ·rename_i x y t u
  cases hxv:Av σ x with
  | none=>rw[hxv]at hnn;cases hnn
  | some xv =>
   rw[hxv]at hnn
   cases xv<;>try(cases hnn;done)
   rename_i n' e i len
   cases hnn
   have hx1:Av σ' x=Av σ x:=hops x (by simp[Op.operands,Call.operands])
   have hy1:Av σ' y=Av σ y:=hops y (by simp[Op.operands,Call.operands])
   refine⟨?_,fun k=>by simp[aq,Cg,Cn,CP,hx1,hxv],fun k=>by simp[aq,Cg,Cn,CP,hxv],rfl,rfl⟩
   simp only[E7,Cp,DK,hxv]at h
   simp only[E7,Cp,DK,Co,hx1,hxv,hy1]
   cases hyv:Av σ y with
   | none=>rw[hyv]at h;unfold Co at h;cases h
   | some v =>
    rw[hyv]at h
    simp only[Co]at h
    split at h
    ·rename_i d'
     have hd':=hd d' rfl
     simp only
     split at h
     ·rename_i htu
      rw[if_pos htu]
      unfold MT at h ⊢
      split at h
      ·rename_i e2 o2 el b2 htb
       try rw[htb]
       try simp only
       split at h
       ·rename_i hee
        rw[if_pos hee]
        unfold Nf at h ⊢
        split at h
        ·rename_i ti et iet k e1 xs h1 hl
         try rw[h1]
         try rw[hobs _ _ hl]
         try simp only
         split at h
         ·rename_i hc
          rw[if_pos hc]
          unfold KV at h ⊢
          split at h
          ·rename_i ys h3
           rw[Nz hobs h3]
           try simp only
           split at h
           ·rename_i hdn
            have hXd:lk d' X.objs=none:=by
             refine hXt d' ?_
             cases h
             exact⟨_,by simp only[lk,if_true];rfl⟩
            have hdn':(lk d' σ'.objs).isNone=true:=by rw[hx.objs,hXd];exact hdn
            rw[if_pos hdn']
            cases h
            refine⟨_,rfl,A7B (en:=[(d',_)]) (new:=[(d',_),(n,_)]) hx ha (fun s v h=>?_) (fun q o hq=>?_)⟩
            ·simp only[lk]at h
             split at h
             ·rename_i e1;rw[e1];exact hd'
             ·cases h
            ·simp only[lk]at hq
             split at hq
             ·rename_i e1;rw[e1];exact hXd
             ·split at hq
              ·rename_i e1
               rw[e1]
               cases hX:lk n X.objs with
               | none=>rfl
               | some w=>exact absurd rfl (ha.nm n w hX)
              ·cases hq
           ·cases h
          ·cases h
         ·cases h
        ·cases h
       ·cases h
      ·cases h
     ·cases h
    ·cases h
 ·cases hnn
end
def VZ (n:Nat):EN→EN
 | []=>[]
 | (d,v,obs) :: r=>(d,v.trn n [],obs) :: VZ n r
theorem Ss {n:Nat}:∀ {ens:EN},VZ n ens=ens→∀e∈ens,e.2.1.trn n []=e.2.1
 | [],_,e,he=>by cases he
 | (d,v,obs) :: r,h,e,he=>by
  simp only[VZ,List.cons.injEq,Prod.mk.injEq,and_true,true_and]at h
  rcases List.mem_cons.1 he with rfl|he
  ·exact h.1
  ·exact Ss h.2 e he
section
variable {c:Cx} {o:Oper} {σ:St} {ens:EN} {N:St→Prop}
theorem vT (hc:c.Ok) {τ:St} {vc:Prop} (n:Nat) (h:Fq c.tb o σ=some (vc,τ)) (hns:qN σ o.op=some n) (hsl:Jg o ens=true) (hn:IR [n] σ.objs ens=true) (hfr:OK τ.objs ens=true) (hf:VZ n ens=ens) (hd:HD c.nt o=true) (hvc:vc) (hN:N τ):XK c o σ ens N:=by
 intro X σ' hx hin a w next Q hs hk
 have ha:Sr X σ n:=by
  refine⟨fun s v hs=>?_,fun m o ho=>?_,fun m o ho=>?_,fun m o ho=>?_⟩
  ·obtain⟨obs,hm⟩:=hin.env s v hs
   exact Ss hf _ hm
  all_goals
   obtain⟨e,he,hp⟩:=hin.objs m o ho
   have:=FC hn e he _ hp
  ·exact this.2.2
  ·exact this.1
  ·exact fun e1=>this.2.1 (by simp[e1])
 have hXs:∀t∈GL o.op,lk t X.env=none:=fun t ht=>by
  cases hX:lk t X.env with
  | none=>rfl
  | some v=>obtain⟨obs,hm⟩:=hin.env t v hX;exact absurd ht (EK hsl _ hm).1
 have hXd:∀t,o.dst=some t→lk t X.env=none:=fun t ht=>by
  cases hX:lk t X.env with
  | none=>rfl
  | some v=>obtain⟨obs,hm⟩:=hin.env t v hX;exact absurd ht (EK hsl _ hm).2
 have hXt:∀n,(∃u,lk n τ.objs=some u)→lk n X.objs=none:=fun n hu=>by
  cases hX:lk n X.objs with
  | none=>rfl
  | some v =>
   obtain⟨e,he,hp⟩:=hin.objs n v hX
   obtain⟨u,hu⟩:=hu
   rw[Jh hfr e he _ hp]at hu;cases hu
 have hops:=Rh hx hXs
 have key:∃τ',Fq c.tb o σ'=some (vc,τ')∧MO τ τ' X:=by
  have hl:B4 σ o.op=[]∧B4 σ' o.op=[]:=by
   obtain⟨dst,op,ty,pos,after,gd⟩:=o
   simp only at hns ⊢
   cases op<;>first|exact⟨rfl,rfl⟩|cases hns
  unfold Fq Ni at h ⊢
  rw[hl.1]at h
  rw[hl.2]
  simp only[CZ]at h ⊢
  cases hq:aq c.tb σ (o.dst.getD 0) o.op with
  | some r =>
   obtain⟨dst,op,ty,pos,after,gd⟩:=o
   simp only at hns hq
   exfalso
   cases op<;>try(cases hns;done)
   rename_i cl
   obtain⟨callee,⟨args⟩,⟨argTypes⟩⟩:=cl
   simp only[qN]at hns
   split at hns
   ·rename_i x y t u
    cases hxv:Av σ x with
    | none=>rw[hxv]at hns;cases hns
    | some xv =>
     rw[hxv]at hns
     cases xv<;>try(cases hns;done)
     simp[aq,Cg,Cn,CP,hxv]at hq
   ·cases hns
  | none =>
   rw[hq]at h
   simp only[J4]at h
   obtain⟨⟨τ',h1,h2⟩,h3,_⟩:=A0n hx ha hops hns hXd hXt h
   rw[h3]
   simp only[J4]
   exact⟨τ',h1,h2⟩
 obtain⟨τ',h1,h2⟩:=key
 exact Nv hc hs h1 hvc (Cb hd) fun a' w' hs'=>hk τ hN a' w' τ' h2 hs'
theorem mxN (hc:c.Ok) {τ:St} {vc:Prop} (n:Nat) (hvc:vc) (hN:N τ) (h:Fq c.tb o σ=some (vc,τ):=by simp only[go_sem,Nat.reduceEqDiff,reduceCtorEq,Nat.reduceAdd,Nat.reduceSub,Nat.reduceMul,Nat.reduceLeDiff,Nat.reduceLT,Int.reduceLE,Int.reduceToNat,Int.reduceNeg,↓reduceIte];rfl) (hns:qN σ o.op=some n:=by simp only[go_sem,Nat.reduceEqDiff,reduceCtorEq,Nat.reduceAdd,Nat.reduceSub,Nat.reduceMul,Nat.reduceLeDiff,Nat.reduceLT,Int.reduceLE,Int.reduceToNat,Int.reduceNeg,↓reduceIte]) (hsl:Jg o ens=true:=by rfl) (hn:IR [n] σ.objs ens=true:=by rfl) (hfr:OK τ.objs ens=true:=by rfl)
  (hf:VZ n ens=ens:=by simp only[go_sem,Nat.reduceEqDiff,reduceCtorEq,Nat.reduceAdd,Nat.reduceSub,Nat.reduceMul,Nat.reduceLeDiff,Nat.reduceLT,Int.reduceLE,Int.reduceToNat,Int.reduceNeg,↓reduceIte]) (hd:HD c.nt o=true:=by rfl):XK c o σ ens N:=vT hc n h hns hsl hn hfr hf hd hvc hN
end
end
end Go.Proofs.YtebfihindnhccaaGreat.Fw
