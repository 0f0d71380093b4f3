/- Range over a function; scopes; several steps in one. -/
/- Range over a function: a call of yield; a round; the statement; the end of a function that holds one. -/
import Derived.Test.YtdapahgnpbehbaaGreatJZH
import Derived.RangeFuncFrom
import Derived.Scope
import Derived.Laws.IdiomRangeMap
import Derived.Laws.StructEq
set_option linter.unusedVariables false
set_option linter.unusedSimpArgs false
namespace Go.Proofs.YtdapahgnpbehbaaGreat.Fw
section
open Go Go.RowKit
theorem Wa {V:Vw} {f:FuncId} {ns:List Nat} {v:Value} (h:Bp V (.clo f ns) v):v=.func (.func f) #[] (ns.map V.ρ).toArray∧IB V (ns.map fun n=>AV.bp n [] 0) (ns.map V.ρ):=by
 refine⟨h.1,?_⟩
 have h0:∀l:List Nat,(∀n∈l,n∈ns)→IB V (l.map fun n=>AV.bp n [] 0) (l.map V.ρ):=by
  intro l
  induction l with
  | nil=>intro _;exact rfl
  | cons n r ih =>
   intro hl
   obtain⟨g1,b,g2⟩:=h.2 n (hl n (by simp))
   exact⟨V.ρ n,r.map V.ρ,rfl,⟨g1,b,g2,g2⟩,ih fun x hx=>hl x (by simp[hx])⟩
 exact h0 ns fun _ h=>h
/-! ### A call of yield -/
def Wb (P:Program) (yn:Nat) (A:List AV) (objs:List (Nat×Obj)) (stay:List Nat) (post:AV→List (Nat×Obj)→Prop):Prop :=
 ∀(w:World) (K O0:Nat→Prop) (ρ:Nat→Value) (vs:List Value) (b:Nat),(∀b,K b→b<w.heap.size)→(∀b,O0 b→b<w.heap.size)→Yi K O0 objs ρ w→IB (vw w O0 ⟨[],objs⟩ ρ) A vs →
  ρ yn=.pointer (some ⟨b,0,none⟩)→YieldAt (FR none) 0 P b vs.toArray w fun e w'=>∃u,e=.returned u∧NA K O0 stay w ρ post u w'
section
variable {c:Cx} {R:Exit→Act→World→Prop} {k:List DU} {σ:St}
def QB (n:Nat):Option AV→Bool
 | some (.yl m)=>m==n
 | _=>false
theorem mF (hc:c.Ok) (hr0:c.r=none) {o:Oper} {dst:Option Nat} {g:Operand} {xs:List Operand} {ts:Array TypeId} (ho:o.op=.call { callee:=.value g,args:=xs.toArray,argTypes:=ts }) (hdst:o.dst=dst)
  {n yn:Nat} (hg:QB n (Ae σ g)=true) {as:List AV} (has:JC σ xs=some as)
  {A:List AV} {objs:List (Nat×Obj)} {stay:List Nat} {post:AV→List (Nat×Obj)→Prop} (hM:Wb c.P yn A objs stay post)
  (ren:List (Nat×CD)) (hyn:lk yn ren=some (.nm n)) (h1:B2 ren=true) (h2:CR objs ren=true) (hA:BI σ ren as A) (hO:Ag σ.objs ren objs)
  (hs:List Nat) (hpin:(c.ds.pin.all fun p=>!AX p.1 hs)=true) {next:Act→World→Prop} {Q:Exit→Act→World→Prop} {a:Act} {w:World} (hsat:c.sat σ a w) (hd:∀d,dst=some d→d<c.nt)
  (hk:∀res objs',post res objs'→∃(ren2:List (Nat×CD)) (res2:AV) (objs2:List (Nat×Obj)),B2 ren2=true∧CR objs2 ren2=true∧Ag objs' ren2 objs2∧BV ren2 res res2 ∧
   KG ren ren2 stay hs=true∧Gq (Ak ren) objs2 σ.objs=true∧∀a' w',c.sat (CO σ (Ak ren) hs dst res2 objs2) a' w'→next a' w'):o.wpIn (FR c.r) 0 c.P a w next Q:=by
 obtain⟨ρ,hsr⟩:=hsat
 have hev:Fy (vw w c.O0 σ ρ) σ a.eval:=Df hsr.env
 obtain⟨b,hρ,hge⟩:∃b:Nat,ρ n=.pointer (some ⟨b,0,none⟩)∧a.eval g=.func (.yield b) #[] #[]:=by
  cases hgv:Ae σ g with
  | none=>rw[hgv]at hg;simp[QB]at hg
  | some gv =>
   rw[hgv]at hg
   have hgr:=hev g gv hgv
   cases gv<;>simp only[QB]at hg<;>try(cases hg;done)
   rename_i m
   have hm:m=n:=by simpa using hg
   subst hm
   obtain⟨_,b,h3,h4⟩:=hgr
   exact⟨b,h3,h4⟩
 obtain⟨Kc,O0c,ρc,hK1,hO1,hmem,hav,hρc,hpost⟩:=OI hc hsr (VA hev has) stay post ren h1 h2 hA hO hs hpin hd hk
 obtain⟨fn,tmps,assign,body,hy,hR⟩:=hM w Kc O0c ρc (xs.map a.eval) b hK1 hO1 hmem hav ((hρc _ _ hyn).trans hρ)
 have hrun:(execOp a.eval o).run c.P w=.ok (.round b fn tmps assign body) w:=by
  simp[execOp,ho,resolve,Deferred.ofValue,hge,invoke]
  simpa using hy
 refine⟨fun _ _=>trivial,?_⟩
 rw[E6 _ _ _ (fun cl e=>by rw[ho]at e;cases e),hrun,Oper.uponIn_round]
 refine⟨fun h=>(by simp[FR]at h),?_⟩
 rw[hr0]
 refine hR.mono fun e w' hh=>?_
 obtain⟨u,rfl,hh⟩:=hh
 rw[hdst]
 exact hpost u w' hh
theorem iD (hc:c.Ok) (hr0:c.r=none) {ops:Array Oper} {rest:List Oper} {dst:Option Nat} {g:Operand} {xs:List Operand} {ts:Array TypeId} {ty:TypeId} {pos:String} {after:Array Edge}
  {n yn:Nat} (hg:QB n (Ae σ g)=true) {as:List AV} (has:JC σ xs=some as)
  {A:List AV} {objs:List (Nat×Obj)} {stay:List Nat} {post:AV→List (Nat×Obj)→Prop} (hM:Wb c.P yn A objs stay post)
  (ren:List (Nat×CD)) (hs:List Nat) (hyn:lk yn ren=some (.nm n)) (h1:B2 ren=true) (h2:CR objs ren=true) (hpin:(c.ds.pin.all fun p=>!AX p.1 hs)=true) (hA:BI σ ren as A) (hO:Ag σ.objs ren objs)
  (hk:∀res objs',post res objs'→∃(ren2:List (Nat×CD)) (res2:AV) (objs2:List (Nat×Obj)),B2 ren2=true∧CR objs2 ren2=true∧Ag objs' ren2 objs2∧BV ren2 res res2 ∧
   KG ren ren2 stay hs=true∧Gq (Ak ren) objs2 σ.objs=true∧HB c R k ops rest (CO σ (Ak ren) hs dst res2 objs2)) :
  HB c R k ops (⟨dst,.call ⟨.value g,xs.toArray,ts⟩,ty,pos,after,none⟩ :: rest) σ:=by
 intro hd hko a w hsat
 unfold wpListIn
 rw[if_pos (by simp[Region.wanted])]
 refine mF hc hr0 (xs:=xs) (ts:=ts) rfl rfl hg has hM ren hyn h1 h2 hA hO hs hpin hsat (Bh (hd _ (by simp))) fun res objs' hp=>?_
 obtain⟨ren2,res2,objs2,g1,g2,g3,g4,g5,g6,hE⟩:=hk res objs' hp
 exact⟨ren2,res2,objs2,g1,g2,g3,g4,g5,g6,fun a' w' hs'=>hE (fun o ho=>hd o (by simp[ho])) hko a' w' hs'⟩
end
/-! ### A round -/
def Fk:List Nat→List AV→List (Nat×AV)→List (Nat×AV)
 | p :: ps,x :: xs,e=>Fk ps xs ((p,x) :: e)
 | _,_,e=>e
def cY (P:Program) (tb:Tb) (w0:World) (K O0:Nat→Prop) (nt l:Nat) (pin:List (Nat×Value)):Cx:={ P:=P,tb:=tb,w0:=w0,K:=K,O0:=O0,nt:=nt,ds:={ pin:=pin },r:=some l }
theorem RS {P:Program} {tb:Tb} {w0:World} {K O0:Nat→Prop} {nt l:Nat} {pin:List (Nat×Value)}:(cY P tb w0 K O0 nt l pin).tb=tb:=rfl
def mG (P:Program) (l:Nat) (w0:World) (K O0:Nat→Prop) (stay:List Nat) (ρ0:Nat→Value) (post:AV→List (Nat×Obj)→Prop):Exit→Act→World→Prop :=
 roundPost P l fun e w'=>∃u,e=.returned u∧NA K O0 stay w0 ρ0 post u w'
theorem aK {V:Vw}:∀(ps:List Nat) (A:List AV) (vs:List Value) (e:List (Nat×AV)) (tm:Array Value),IB V A vs→(∀p∈ps,p<tm.size)→A.length=ps.length→(∀s x,lk s e=some x→Bp V x (tm.getD s undef)) →
  (∀s x,lk s (Fk ps A e)=some x→Bp V x (((ps.zip vs).foldl (fun t (p,v)=>t.setIfInBounds p v) tm).getD s undef))∧((ps.zip vs).foldl (fun t (p,v)=>t.setIfInBounds p v) tm).size=tm.size
 | [],_,_,e,tm,_,_,_,h=>by simpa[Fk] using h
 | p :: ps,[],_,e,tm,_,_,hl,_=>by simp at hl
 | p :: ps,x :: A,vs,e,tm,⟨v,r,hv,h1,h2⟩,hp,hl,h=>by
  subst hv
  simp only[List.zip_cons_cons,List.foldl_cons,Fk]
  have h3:=aK ps A r ((p,x) :: e) (tm.setIfInBounds p v) h2 (fun q hq=>by simpa using hp q (by simp[hq])) (by simpa using hl) (fun s y hs=>by
   have hpg:=JU { tmps:=tm,defers:=[] } p v s (hp p (by simp))
   have hpg:(tm.setIfInBounds p v).getD s undef=if s=p then v else tm.getD s undef:=hpg
   rw[hpg]
   simp only[lk]at hs
   split at hs
   ·rename_i e';cases hs;rw[if_pos e'];exact h1
   ·rename_i hne;rw[if_neg hne];exact h s y hs)
  exact⟨h3.1,by rw[h3.2];simp⟩
section
variable {P:Program} {tb:Tb} {w0:World} {K O0:Nat→Prop} {nt l:Nat} {stay:List Nat} {ρ0:Nat→Value} {post:AV→List (Nat×Obj)→Prop} {σ:St} {pin:List (Nat×Value)}
theorem RT {c:Cx} (hc:c.Ok) {σ:St} {a:Act} {w:World} {ρ:Nat→Value} (hs:Be c.w0 c.K c.O0 c.nt c.ds σ ρ a w) {yn b:Nat} {L:Go.Loop} (hl:lk yn σ.objs=some (.loop L)) (hb:ρ yn=.pointer (some ⟨b,0,none⟩)) (L':Go.Loop) :
  w.heap[b]?=some (.loop L)∧Be c.w0 c.K c.O0 c.nt c.ds ⟨σ.env,upd yn (.loop L') σ.objs⟩ ρ a (w.putObj b (.loop L')):=by
 obtain⟨b',h1,h2⟩:=hs.objs yn _ hl
 rw[hb]at h1
 injection h1 with h1
 injection h1 with h1
 injection h1 with h1
 subst h1
 have hlt:b<w.heap.size:=B6 h2
 refine⟨h2,hs.upd hc.K hl (g:=b) (by rw[hb];rfl) (grownBy_putObj' w b _) ?_⟩
 exact⟨b,hb,World.putObj_heap_same hlt⟩
theorem iE (hc:(cY P tb w0 K O0 nt l pin).Ok) {yn:Nat} {L:Go.Loop} (hl:lk yn σ.objs=some (.loop L)) (hpin:pin=stay.map fun n=>(n,ρ0 n)) (hyn:yn∈stay) (hb:ρ0 yn=.pointer (some ⟨l,0,none⟩))
  (hp:post (.p .bool true) (upd yn (.loop { L with state:=.ready,pending:=none }) σ.objs)) :
  Ev (cY P tb w0 K O0 nt l pin) (mG P l w0 K O0 stay ρ0 post) (.out .normal) [] σ:=by
 intro _ _ a w hs
 obtain⟨ρ,hs⟩:=hs
 have hρ:∀n∈stay,ρ n=ρ0 n:=fun n hn=>(hs.pin (n,ρ0 n) (by rw[show (cY P tb w0 K O0 nt l pin).ds.pin=pin from rfl,hpin];exact List.mem_map.2 ⟨n,hn,rfl⟩)).2.1
 obtain⟨h2,hs2⟩:=RT hc hs hl ((hρ _ hyn).trans hb) { L with state:=.ready,pending:=none }
 refine⟨_,_,run_endRound none h2,.bool true,rfl,.p .bool true,_,ρ,hp,hs2.frm,⟨hs2.objs,hs2.free,hs2.dist⟩,⟨_,rfl,rfl⟩,hρ⟩
def yY (c:Cx) (R:Exit→Act→World→Prop) (yn:Nat) (L:Go.Loop) (bd:Code) (σ:St):Prop :=
 lk yn σ.objs=some (.loop L)∧Ev c R (.run bd) [] ⟨σ.env,upd yn (.loop { L with state:=.busy }) σ.objs⟩
theorem mH {yn fr:Nat} {A:List AV} {objs:List (Nat×Obj)} {L:Go.Loop} {ps:List Nat} {asg bd:Code} {fs:List (Nat×AV)} {tm:Array Value}
  (hl:lk yn objs=some (.loop L)) (hf:lk fr objs=some (.frame tm fs)) (h1:L.state=.ready) (h2:L.params=ps.toArray) (h3:L.assign=asg) (h4:L.body=bd) (h5:L.tmps=tm) (hsz:tm.size=nt)
  (hlen:A.length=ps.length) (hps:(ps.all fun p=>decide (p<nt))=true) (hyn:yn∈stay) (hst:stay.all (TQ objs)=true) (hkeys:OC objs=true) (hcode:CC nt asg=true) (hcode2:CC nt bd=true) (hT:DT P tb) (hF:Lt P tb)
  (h:∀(w0:World) (K O0:Nat→Prop) (ρ0:Nat→Value) (l:Nat),(cY P tb w0 K O0 nt l (stay.map fun n=>(n,ρ0 n))).Ok→Q8 A→Q9 objs→ρ0 yn=.pointer (some ⟨l,0,none⟩) →
   Ev (cY P tb w0 K O0 nt l (stay.map fun n=>(n,ρ0 n))) (fun _ _ _=>False) (.run asg) [.inv (yY (cY P tb w0 K O0 nt l (stay.map fun n=>(n,ρ0 n))) (mG P l w0 K O0 stay ρ0 post) yn L bd)] ⟨Fk ps A fs,objs⟩) :
  Wb P yn A objs stay post:=by
 intro w K O0 ρ vs b hK hO hm hv hb
 have hvl:=IV hv
 obtain⟨b',hb',hh⟩:=hm.obj yn _ hl
 rw[hb]at hb'
 injection hb' with hb'
 injection hb' with hb'
 injection hb' with hb'
 subst hb'
 have hrun:=run_yield (P:=P) (args:=vs.toArray) hh (by rw[h2];simp[hvl,hlen])
 refine⟨_,_,_,_,hrun,roundIn_of_wpIn trivial ?_⟩
 have hc:(cY P tb w K O0 nt b (stay.map fun n=>(n,ρ n))).Ok:=⟨hK,hO,hT,hF⟩
 have hframe:=hm.obj fr _ hf
 have hpe:=aK (V:=vw w O0 ⟨[],objs⟩ ρ) ps A vs fs tm hv (fun p hp=>by have:=(List.all_eq_true.1 hps) p hp;rw[hsz];simpa using this) hlen hframe.2
 have htm:(L.params.zip vs.toArray).foldl (fun t (p,v)=>t.setIfInBounds p v) L.tmps=(ps.zip vs).foldl (fun t (p,v)=>t.setIfInBounds p v) tm:=by
  rw[h2,h5,List.zip_toArray]
  simp
 rw[h3,h4,htm]
 have hsat:(cY P tb w K O0 nt b (stay.map fun n=>(n,ρ n))).sat ⟨Fk ps A fs,objs⟩ { tmps:=(ps.zip vs).foldl (fun t (p,v)=>t.setIfInBounds p v) tm,defers:=[] } w:=by
  refine⟨ρ,⟨rfl,rfl,rfl,Nat.le_refl _,fun _ _=>rfl⟩,by rw[hpe.2];exact hsz,rfl,fun p hp=>?_,hm.obj,hm.free,hm.dist,hpe.1⟩
  obtain⟨n,hn,rfl⟩:=List.mem_map.1 hp
  have:=(List.all_eq_true.1 hst) n hn
  unfold TQ at this
  cases ho:lk n objs with
  | none=>rw[ho]at this;cases this
  | some o =>
   rw[ho]at this
   refine⟨⟨o,ho⟩,rfl,?_⟩
   have hob:=hm.obj n o ho
   cases o with
   | arr et e xs=>exact .inr this
   | nest et iet k e xs hl=>exact .inr this
   | box et st fs=>obtain⟨_,b,cs,he,_⟩:=hob;rw[he];exact .inl rfl
   | mapo k v l=>obtain⟨b,es,cl,he,_⟩:=hob;rw[he];exact .inl rfl
   | frame tm fs=>obtain⟨he,_⟩:=hob;rw[he];exact .inl rfl
   | loop L=>obtain⟨b,he,_⟩:=hob;rw[he];exact .inl rfl
   | itr ik iv il ilf icu=>obtain⟨b,he,_⟩:=hob;rw[he];exact .inl rfl
   | dfr=>obtain⟨b,he,_⟩:=hob;rw[he];exact .inl rfl
 have hEv:=h w K O0 ρ b hc (QT hv) (QU hkeys fun n o ho=>U0 (hm.obj n o ho)) hb (by simpa[IL,cY] using hcode) rfl _ _ hsat
 refine wpIn_mono (F:=FR (some b)) hEv ?_
 intro e a' w' hq
 cases e with
 | normal =>
  obtain⟨σ',⟨ρ',hs'⟩,hl',hbody⟩:=hq
  have hρ':ρ' yn=.pointer (some ⟨b,0,none⟩):=(hs'.pin (yn,ρ yn) (List.mem_map.2 ⟨yn,hyn,rfl⟩)).2.1.trans hb
  obtain⟨g1,g2⟩:=RT hc hs' hl' hρ' { L with state:=.busy }
  exact⟨_,run_beginRound g1 h1,hbody (by simpa[IL,cY] using hcode2) rfl _ _ ⟨ρ',g2⟩⟩
 | exit id=>exact hq.elim
 | goto t=>exact hq.elim
 | ret=>exact hq.elim
 | panic ch=>exact hq.elim
 | outgrown=>exact hq.elim
end
end
/- Range over a function, second part: the statement; the end of a function that holds one. -/
section
open Go Go.RowKit
def Cx.marked (c:Cx) (dn b:Nat):Cx:={ c with ds:={ ds:=⟨.collected b,#[]⟩ :: c.ds.ds,pin:=(dn,.pointer (some ⟨b,0,none⟩)) :: c.ds.pin } }
def Cx.marked2 (c:Cx) (yn dn b:Nat):Cx:={ c with ds:={ ds:=⟨.collected b,#[]⟩ :: c.ds.ds,pin:=(yn,.pointer (some ⟨b+1,0,none⟩)) :: (dn,.pointer (some ⟨b,0,none⟩)) :: c.ds.pin } }
theorem Yn {c:Cx} {yn dn b:Nat} (h:c.Ok):(c.marked2 yn dn b).Ok:=⟨h.K,h.O,h.T,h.F⟩
theorem GE {c:Cx} {dn b:Nat}:(c.marked dn b).tb=c.tb:=rfl
theorem iG {c:Cx} {dn b:Nat} (h:c.Ok):(c.marked dn b).Ok:=⟨h.K,h.O,h.T,h.F⟩
theorem iH (ren:List (Nat×CD)) (x:AV):BV ren x .top:=by
 unfold BV
 split
 ·simp_all
 ·unfold Fa
  split
  ·simp_all
  ·unfold Cl
   split<;>simp_all
def Wc:List DU→Bool
 | []=>true
 | .inv _ :: _=>false
 | _ :: k=>Wc k
theorem MN {c:Cx} {R:Exit→Act→World→Prop} {dn b:Nat}:∀ {k:List DU},Wc k=true→Q0 (c.marked dn b) R k=Q0 c R k
 | [],_=>by funext e a w;simp[Q0]
 | .inv _ :: _,h=>by simp[Wc]at h
 | .seq y :: k,h=>by
  have ih:=MN (c:=c) (R:=R) (dn:=dn) (b:=b) (k:=k) h
  funext e a w
  cases e<;>simp only[Q0,ih]<;>rfl
 | .blk id :: k,h=>by
  have ih:=MN (c:=c) (R:=R) (dn:=dn) (b:=b) (k:=k) h
  funext e a w
  cases e<;>simp only[Q0,ih]
def BQ (σ:St) (yn dn fr:Nat) (L:Go.Loop) (tm:Array Value):St:=⟨σ.env,(yn,.loop L) :: (dn,.dfr) :: (fr,.frame tm σ.env) :: σ.objs⟩
section
variable {c:Cx} {R:Exit→Act→World→Prop} {k:List DU} {σ:St}
theorem iI (hc:c.Ok) {a:Act} {w:World} {ρ:Nat→Value} (hs:Be c.w0 c.K c.O0 c.nt c.ds σ ρ a w) {yn dn fr:Nat} (hd1:yn≠dn) (hd2:yn≠fr) (hd3:dn≠fr) (hf1:lk yn σ.objs=none) (hf2:lk dn σ.objs=none) (hf3:lk fr σ.objs=none) (L:Go.Loop) :
  ∃ρ1,Be c.w0 c.K c.O0 c.nt (c.marked2 yn dn w.heap.size).ds (BQ σ yn dn fr L a.tmps) ρ1 { a with defers:=[{ target:=.collected w.heap.size,args:=#[] }]++a.defers } ((w.alloc (.deferred (some []))).alloc (.loop L))∧ρ1 yn=.pointer (some ⟨w.heap.size+1,0,none⟩):=by
 let ρ1:Nat→Value:=fun m=>if m=yn then .pointer (some ⟨w.heap.size+1,0,none⟩) else if m=dn then .pointer (some ⟨w.heap.size,0,none⟩) else if m=fr then .pointer none else ρ m
 have e1:ρ1 yn=.pointer (some ⟨w.heap.size+1,0,none⟩):=by simp[ρ1]
 have e2:ρ1 dn=.pointer (some ⟨w.heap.size,0,none⟩):=by simp[ρ1,Ne.symm hd1]
 have e3:ρ1 fr=.pointer none:=by simp[ρ1,Ne.symm hd2,Ne.symm hd3]
 obtain⟨W1,hW1⟩:∃W1,(w.alloc (.deferred (some []))).alloc (.loop L)=W1:=⟨_,rfl⟩
 have hL1:W1.heap[w.heap.size+1]?=some (.loop L):=by
  rw[←hW1];have:=World.alloc_heap_new (w.alloc (.deferred (some []))) (.loop L);rwa [World.size_alloc]at this
 have hK1:W1.heap[w.heap.size]?=some (.deferred (some [])):=by
  rw[←hW1];exact(Below.heap_alloc _ _ _ (by simp)).trans (World.alloc_heap_new w _)
 have hb1:Below w.heap.size w W1:=by
  rw[←hW1];exact((Below.refl _ w).alloc (Nat.le_refl _) _).alloc (by simp) _
 rw[hW1]
 have hfresh:BJ [(yn,Obj.loop L),(dn,.dfr),(fr,.frame a.tmps σ.env)] σ=true:=by simp[BJ,hf1,hf2,hf3]
 have hrho:∀n,lk n [(yn,Obj.loop L),(dn,Obj.dfr),(fr,.frame a.tmps σ.env)]=none→ρ1 n=ρ n:=fun n hn=>by
  simp only[lk]at hn
  split at hn
  ·cases hn
  ·split at hn
   ·cases hn
   ·split at hn
    ·cases hn
    ·rename_i g1 g2 g3;simp[ρ1,g1,g2,g3]
 have hnew:∀n o b,lk n [(yn,Obj.loop L),(dn,Obj.dfr),(fr,.frame a.tmps σ.env)]=some o→bk (ρ1 n) b→w.heap.size≤b:=fun n o b hn hb=>by
  simp only[lk]at hn
  split at hn
  ·rename_i g;subst g;rw[e1]at hb;simp[bk,blk]at hb;omega
  ·split at hn
   ·rename_i g;subst g;rw[e2]at hb;simp[bk,blk]at hb;omega
   ·split at hn
    ·rename_i g;subst g;rw[e3]at hb;simp[bk,blk]at hb
    ·cases hn
 have hkeeps:=Hc (O0:=c.O0) (ρ:=ρ) (ρ':=ρ1) hfresh hb1 hrho hnew
 have hq:QS w c.O0 σ ρ .top [(yn,Obj.loop L),(dn,.dfr),(fr,.frame a.tmps σ.env)] undef ρ1 W1:=by
  refine⟨hb1,hrho,trivial,fun n o hn=>?_,hnew,fun n m o o' b hn hm hb hb'=>?_⟩
  ·simp only[lk]at hn
   split at hn
   ·rename_i g;cases hn;subst g;exact⟨_,e1,hL1⟩
   ·split at hn
    ·rename_i g;cases hn;subst g;exact⟨_,e2,hK1⟩
    ·split at hn
     ·rename_i g;cases hn;subst g
      exact⟨e3,fun s x hx=>(hs.env s x hx).keeps hkeeps⟩
     ·cases hn
  ·simp only[lk]at hn hm
   split at hn
   ·rename_i g
    rw[g,e1]at hb
    simp[bk,blk]at hb
    split at hm
    ·rename_i g';rw[g,g']
    ·split at hm
     ·rename_i g';rw[g',e2]at hb';simp[bk,blk]at hb';omega
     ·split at hm
      ·rename_i g';rw[g',e3]at hb';simp[bk,blk]at hb'
      ·cases hm
   ·split at hn
    ·rename_i g
     rw[g,e2]at hb
     simp[bk,blk]at hb
     split at hm
     ·rename_i g';rw[g',e1]at hb';simp[bk,blk]at hb';omega
     ·split at hm
      ·rename_i g';rw[g,g']
      ·split at hm
       ·rename_i g';rw[g',e3]at hb';simp[bk,blk]at hb'
       ·cases hm
    ·split at hn
     ·rename_i g;rw[g,e3]at hb;simp[bk,blk]at hb
     ·cases hn
 have h:=hs.add hc.K hc.O (dst:=none) (fun d hd=>by cases hd) hfresh hq
 refine⟨ρ1,⟨h.frm,h.nt,?_,fun p hp=>?_,h.objs,h.free,h.dist,h.env⟩,e1⟩
 ·show _=_ :: c.ds.ds
  rw[←hs.defers];rfl
 ·rcases List.mem_cons.1 hp with rfl|hp
  ·exact⟨⟨.loop L,by simp[BQ,lk]⟩,e1,.inl rfl⟩
  rcases List.mem_cons.1 hp with rfl|hp
  ·exact⟨⟨.dfr,by simp[BQ,lk,Ne.symm hd1]⟩,e2,.inl rfl⟩
  ·exact h.pin p hp
def EvJ (c:Cx) (R:Exit→Act→World→Prop) (k:List DU) (σ:St):Option Code→Prop
 | none=>Ev c R (.out .normal) k σ
 | some c'=>match c' with
  | .ret=>Ev c R (.out .ret) k σ
  | .exit id=>Ev c R (.out (.exit id)) k σ
  | _=>False
def A1C (c:Cx) (R:Exit→Act→World→Prop) (k:List DU) (a:Act) (w:World):Option Code→Prop
 | none=>Q0 c R k .normal a w
 | some cd=>cd.wpIn (FR c.r) 0 c.P (Q0 c R k) a w
theorem rG {dn b:Nat} (hk0:Wc k=true) (h2:Ck c.nt k=true) {p:Option Code} (hj:EvJ (c.marked dn b) R k σ p) {a:Act} {w:World} (hs:(c.marked dn b).sat σ a w) :
  A1C c R k a w p:=by
 have hkm:=MN (c:=c) (R:=R) (dn:=dn) (b:=b) hk0
 cases p with
 | none =>
  have:=hj rfl h2 _ _ hs
  show Q0 c R k .normal a w
  rw[←hkm]
  exact this
 | some cd =>
  cases cd<;>try exact hj.elim
  ·have:=hj rfl h2 _ _ hs
   refine wpIn_exit ?_
   rw[←hkm]
   exact this
  ·have:=hj rfl h2 _ _ hs
   refine wpIn_ret ?_
   rw[←hkm]
   exact this
theorem mI (hc:c.Ok) (hr0:c.r=none) (hk0:Wc k=true) {g:Operand} {ps:Array Tmp} {asg bd:Code} {gf:FuncId} {capn:List Nat} (hg:Ae σ g=some (.clo gf capn))
  (yn dn fr:Nat) (hd:(yn != dn&&yn != fr&&dn != fr)=true) (hf1:lk yn σ.objs=none) (hf2:lk dn σ.objs=none) (hf3:lk fr σ.objs=none)
  (hM:∀(L:Go.Loop) (tm:Array Value),L.state=.ready→L.pending=none→L.tmps=tm→L.params=ps→L.assign=asg→L.body=bd→tm.size=c.nt →
   ∃(A:List AV) (objs:List (Nat×Obj)) (stay:List Nat) (post:AV→List (Nat×Obj)→Prop) (ren:List (Nat×CD)) (hs:List Nat),BO c.P gf A objs stay post ∧
    B2 ren=true∧CR objs ren=true∧BI (BQ σ yn dn fr L tm) ren (.yl yn :: capn.map fun n=>AV.bp n [] 0) A∧Ag (BQ σ yn dn fr L tm).objs ren objs ∧
    (((yn,undef) :: (dn,undef) :: c.ds.pin).all fun p=>!AX p.1 hs)=true ∧
    ∀res objs',post res objs'→∃(ren2:List (Nat×CD)) (objs2:List (Nat×Obj)) (L':Go.Loop),B2 ren2=true∧CR objs2 ren2=true∧Ag objs' ren2 objs2∧KG ren ren2 stay hs=true∧Gq (Ak ren) objs2 (BQ σ yn dn fr L tm).objs=true ∧
     lk yn objs2=some (.loop L')∧(L'.state == .busy)=false ∧
     ∀b,EvJ (c.marked dn b) R k ⟨(CO (BQ σ yn dn fr L tm) (Ak ren) hs none .top objs2).env,upd yn (.loop { L' with state:=.exhausted }) (CO (BQ σ yn dn fr L tm) (Ak ren) hs none .top objs2).objs⟩ L'.pending) :
  Ev c R (.run (.rangeFunc g ps asg bd)) k σ:=by
 intro h1 h2 a w hsat
 obtain⟨ρ,hs⟩:=hsat
 have hev:Fy (vw w c.O0 σ ρ) σ a.eval:=Df hs.env
 obtain⟨hge,_⟩:=Wa (hev g _ hg)
 simp only[Bool.and_eq_true,bne_iff_ne,ne_eq]at hd
 obtain⟨⟨hd1,hd2⟩,hd3⟩:=hd
 refine wpIn_rangeFunc (F:=FR c.r) ?_
 intro fn _
 have hround:(FR c.r).round=none:=by rw[hr0];rfl
 rw[hround]
 obtain⟨L,hL⟩:∃L:Go.Loop,L={ state:=.ready,pending:=none,fn,tmps:=a.tmps,params:=ps,assign:=asg,body:=bd,defers:=w.heap.size }:=⟨_,rfl⟩
 obtain⟨ρ1,hs1,hy1⟩:=iI hc hs hd1 hd2 hd3 hf1 hf2 hf3 L
 obtain⟨A,objs,stay,post,ren,hss,hCM,g1,g2,g3,g4,g5,g6⟩:=hM L a.tmps (by rw[hL]) (by rw[hL]) (by rw[hL]) (by rw[hL]) (by rw[hL]) (by rw[hL]) hs.nt
 obtain⟨⟨cf,hcf,hname,hbody⟩,hCM⟩:=hCM
 obtain⟨W1,hW1⟩:∃W1,(w.alloc (.deferred (some []))).alloc (.loop L)=W1:=⟨_,rfl⟩
 rw[hW1]at hs1
 have hc1:(c.marked2 yn dn w.heap.size).Ok:=Yn hc
 have hcap1:IB (vw W1 c.O0 (BQ σ yn dn fr L a.tmps) ρ1) (.yl yn :: capn.map fun n=>AV.bp n [] 0) (.func (.yield (w.heap.size+1)) #[] #[] :: capn.map ρ):=by
  refine⟨_,_,rfl,⟨⟨_,by simp[BQ,lk];rfl⟩,_,hy1,rfl⟩,?_⟩
  have hcl:=Wa (V:=vw W1 c.O0 (BQ σ yn dn fr L a.tmps) ρ1) (f:=gf) (ns:=capn) (v:=a.eval g) (by
   have:=Df hs1.env
   have ho:Ae (BQ σ yn dn fr L a.tmps) g=some (.clo gf capn):=by
    cases g with
    | tmp t=>exact hg
    | _=>exact hg
   have h3:=this g _ ho
   have he:({ a with defers:=[{ target:=.collected w.heap.size,args:=#[] }]++a.defers }:Act).eval g=a.eval g:=by cases g<;>rfl
   rw[he]at h3
   exact h3)
  have e:=hcl.1
  rw[hge]at e
  have e2:capn.map ρ=capn.map ρ1:=by
   have e:=congrArg (fun v:Value=>match v with|.func _ _ cs=>cs.toList|_=>[]) e
   simpa[vw] using e
  rw[e2]
  exact hcl.2
 have hk1:∀res objs',post res objs'→∃(ren2:List (Nat×CD)) (res2:AV) (objs2:List (Nat×Obj)),B2 ren2=true∧CR objs2 ren2=true∧Ag objs' ren2 objs2∧BV ren2 res res2 ∧
   KG ren ren2 stay hss=true∧Gq (Ak ren) objs2 (BQ σ yn dn fr L a.tmps).objs=true∧∀a' w',(c.marked2 yn dn w.heap.size).sat (CO (BQ σ yn dn fr L a.tmps) (Ak ren) hss none res2 objs2) a' w' →
    rangePost (FR c.r) 0 c.P (w.heap.size+1) (Q0 c R k) a' (.returned undef) w':=by
  intro res objs' hp
  obtain⟨ren2,objs2,L',q1,q2,q3,q4,q5,q6,q7,q8⟩:=g6 res objs' hp
  refine⟨ren2,.top,objs2,q1,q2,q3,iH ren2 res,q4,q5,fun a' w' hs'=>?_⟩
  obtain⟨ρ',hs'⟩:=hs'
  have hyl:lk yn (CO (BQ σ yn dn fr L a.tmps) (Ak ren) hss none .top objs2).objs=some (.loop L'):=by
   simp only[CO,Ar,q6];rfl
  have hyp:=(hs'.pin (yn,.pointer (some ⟨w.heap.size+1,0,none⟩)) (by simp[Cx.marked2])).2.1
  obtain⟨r1,r2⟩:=RT hc1 hs' hyl hyp { L' with state:=.exhausted }
  refine⟨_,_,run_endLoop r1 (by intro e;rw[e]at q7;cases q7),?_⟩
  have hsat2:(c.marked dn w.heap.size).sat ⟨(CO (BQ σ yn dn fr L a.tmps) (Ak ren) hss none .top objs2).env,upd yn (.loop { L' with state:=.exhausted }) (CO (BQ σ yn dn fr L a.tmps) (Ak ren) hss none .top objs2).objs⟩ a' (w'.putObj (w.heap.size+1) (.loop { L' with state:=.exhausted })) :=
   ⟨ρ',r2.frm,r2.nt,r2.defers,fun p hp=>r2.pin p (List.mem_cons_of_mem _ hp),r2.objs,r2.free,r2.dist,r2.env⟩
  have hout:=rG hk0 h2 (q8 w.heap.size) hsat2
  revert hout
  generalize L'.pending=p
  intro hout
  cases p<;>exact hout
 obtain⟨Kc,O0c,ρc,hK1,hO1,hmem,hav,_,hpost⟩:=OI hc1 hs1 hcap1 stay post ren g1 g2 g3 g4 hss (by simpa[Cx.marked2] using g5) (dst:=none) (fun d hd=>by cases hd) hk1
 have hcall:=hCM W1 Kc O0c ρc _ hK1 hO1 hmem hav
 refine⟨w.heap.size+1,[{ target:=.collected w.heap.size,args:=#[] }],W1,{ target:=.fn (.func gf) (capn.map ρ).toArray,args:=#[.func (.yield (w.heap.size+1)) #[] #[]] },W1,gf,
  (.func (.yield (w.heap.size+1)) #[] #[] :: capn.map ρ).toArray,W1,?_,?_,fun _ _=>trivial,?_,fun h=>by simp[FR]at h,?_⟩
 ·rw[←hW1,hL];exact run_enterLoop_outer _ _ _ _ _
 ·have hge':a.eval g=.func (.func gf) #[] (capn.map ρ).toArray:=hge
  simp only[resolve,hge']
  simp[go_sem]
 ·have e1 : ¬ cf.name = "runtime.NumGoroutine" := by simpa using hname
  have e2:¬cf.body=none:=by intro e;simp[e]at hbody
  simp[invoke,callFunc,hcf,e1,e2]
 ·refine JY (hcall.mono fun e w' hh=>?_)
  obtain⟨u,rfl,hh⟩:=hh
  exact hpost u w' hh
/-! ### The end of a function that holds such a loop -/
theorem mJ (hc:c.Ok) {a:Act} {w:World} {ρ:Nat→Value} (hs:Be c.w0 c.K c.O0 c.nt c.ds σ ρ a w) {dn b:Nat} (hl:lk dn σ.objs=some .dfr) (hb:ρ dn=.pointer (some ⟨b,0,none⟩)) (X:_root_.Go.Obj) (pin:List (Nat×Value)) (hpin:∀p∈pin,p∈c.ds.pin∧p.1≠dn) :
  w.heap[b]?=some (.deferred (some []))∧Be c.w0 c.K c.O0 c.nt { ds:=c.ds.ds,pin:=pin } ⟨BP [dn] σ.env,Ab [dn] [dn] σ.objs⟩ ρ a (w.putObj b X):=by
 obtain⟨b',h1,h2⟩:=hs.objs dn _ hl
 rw[hb]at h1
 injection h1 with h1
 injection h1 with h1
 injection h1 with h1
 subst h1
 have hlt:b<w.heap.size:=B6 h2
 refine⟨h2,?_⟩
 have hbo:own c.O0 σ ρ b:=.inr ⟨dn,⟨_,hl⟩,by rw[hb];exact .inl rfl⟩
 have hliv:∀n,GN ⟨BP [dn] σ.env,Ab [dn] [dn] σ.objs⟩ n→GN σ n∧n≠dn:=by
  rintro n ⟨o,hn⟩
  have hn:lk n (Ab [dn] [dn] σ.objs)=some o:=hn
  rw[BU]at hn
  split at hn
  ·cases hn
  ·rename_i hne
   simp only[Option.map_eq_some_iff]at hn
   obtain⟨y,hy,_⟩:=hn
   exact⟨⟨y,hy⟩,fun e=>hne (by subst e;simp[AX])⟩
 have hhp:∀k,k≠b→(w.putObj b X).heap[k]?=w.heap[k]?:=fun k hk=>World.putObj_heap_other hk
 have hkeep:CB ((vw w c.O0 σ ρ).buts [dn]) (vw (w.putObj b X) c.O0 ⟨BP [dn] σ.env,Ab [dn] [dn] σ.objs⟩ ρ):=by
  refine⟨fun k _ hk hk'=>?_,fun n hn=>?_,fun _ _=>rfl,fun k _ hk=>hhp k (fun e=>?_)⟩
  ·rcases hk' with h0|⟨n,hn,hnb⟩
   ·exact hk (.inl h0)
   ·exact hk (.inr ⟨n,(hliv n hn).1,hnb⟩)
  ·obtain⟨⟨o,ho⟩,hm⟩:=hn
   exact⟨_,by show lk n (Ab [dn] [dn] σ.objs)=_;rw[BU,if_neg (by rw[hm];simp),ho];rfl⟩
  ·subst e;exact hk hbo
 refine⟨⟨hs.frm.os,hs.frm.tape,hs.frm.output,by simpa using hs.frm.size,fun k hk=>?_⟩,hs.nt,hs.defers,fun p hp=>?_,fun n x hn=>?_,fun n k hl' hk=>hs.free n k (hliv n hl').1 hk,fun n m k h1 h2 h3 h4=>hs.dist n m k (hliv n h1).1 (hliv m h2).1 h3 h4,fun s v hv=>?_⟩
 ·refine(hhp k fun e=>?_).trans (hs.frm.block k hk)
  subst e
  exact(hs.free dn k ⟨_,hl⟩ (by rw[hb];exact .inl rfl)).1 hk
 ·obtain⟨q1,q2⟩:=hpin p hp
  obtain⟨q3,q4,q5⟩:=hs.pin p q1
  exact⟨hkeep.L p.1 ⟨q3,by simp[AX,q2]⟩,q4,q5⟩
 ·have hn':lk n (Ab [dn] [dn] σ.objs)=some x:=hn
  have hne:=(hliv n ⟨x,hn⟩).2
  rw[BU]at hn'
  split at hn'
  ·cases hn'
  ·simp only[Option.map_eq_some_iff]at hn'
   obtain⟨y,hy,rfl⟩:=hn'
   refine QL hkeep (fun k hk=>hhp k fun e=>?_) (hs.objs n y hy)
   subst e
   exact hne (hs.dist n dn k ⟨y,hy⟩ ⟨_,hl⟩ hk (by rw[hb];exact .inl rfl))
 ·rw[D7]at hv
  simp only[Option.map_eq_some_iff]at hv
  obtain⟨y,hy,rfl⟩:=hv
  exact(Mx (hs.env s y hy)).keeps hkeep
end
def v8 (P:Program) (fn:Func) (w0:World) (K O0:Nat→Prop) (stay:List Nat) (ρ0:Nat→Value) (post:AV→List (Nat×Obj)→Prop):Exit→Act→World→Prop :=
 bodyPostM (FR none) 0 P fn fun e w'=>∃u,e=.returned u∧NA K O0 stay w0 ρ0 post u w'
theorem rH {P:Program} {tb:Tb} {f:FuncId} {fn:Func} {cd:Code} {nt:Nat} {args:List AV} {objs:List (Nat×Obj)} {stay:List Nat} {post:AV→List (Nat×Obj)→Prop}
  (hfn : P.funcs[f]? = some fn) (hname : (fn.name == "runtime.NumGoroutine") = false) (hbody : fn.body = some cd) (hnt : fn.ntmps = nt) (hlen : args.length ≤ nt)
  (hcode:CC nt cd=true) (hst:stay.all (TQ objs)=true) (hkeys:OC objs=true) (hT:DT P tb) (hF:Lt P tb)
  (h:∀(w0:World) (K O0:Nat→Prop) (ρ0:Nat→Value),(cm P tb w0 K O0 nt (stay.map fun n=>(n,ρ0 n))).Ok→Q8 args→Q9 objs →
   Ev (cm P tb w0 K O0 nt (stay.map fun n=>(n,ρ0 n))) (v8 P fn w0 K O0 stay ρ0 post) (.run cd) [] ⟨Al 0 args,objs⟩):BO P f args objs stay post:=by
 refine⟨⟨fn,hfn,hname,by simp[hbody]⟩,fun w K O0 ρ vs hK hO hm hv=>?_⟩
 refine callsIn_wide.1 (callsIn_of_wp_marks (F:=FR none) (n:=0) hfn hbody trivial ?_ rfl)
 have hvl:=IV hv
 rw[hnt]
 exact h w K O0 ρ ⟨hK,hO,hT,hF⟩ (QT hv) (QU hkeys fun n o ho=>U0 (hm.obj n o ho)) hcode rfl _ _ (RA hm hv hst (by omega))
theorem mK {P:Program} {tb:Tb} {w0:World} {K O0:Nat→Prop} {nt:Nat} {stay:List Nat} {ρ0:Nat→Value} {fn:Func} {post:AV→List (Nat×Obj)→Prop} {σ:St} {e:Exit} {dn b:Nat} (hc:((cm P tb w0 K O0 nt (stay.map fun n=>(n,ρ0 n))).marked dn b).Ok)
  (rs:List ResultVar) (hr:fn.results.toList=rs) (he:e=.ret∨e=.normal) (hl:lk dn σ.objs=some .dfr) (hdn:AX dn stay=false) (res:AV) (h:TS tb ⟨BP [dn] σ.env,Ab [dn] [dn] σ.objs⟩ rs res) (hp:post res (Ab [dn] [dn] σ.objs)) :
  Ev ((cm P tb w0 K O0 nt (stay.map fun n=>(n,ρ0 n))).marked dn b) (v8 P fn w0 K O0 stay ρ0 post) (.out e) [] σ:=by
 intro _ _ a w hs
 obtain⟨ρ,hs⟩:=hs
 have hbd:=(hs.pin (dn,.pointer (some ⟨b,0,none⟩)) (by simp[Cx.marked])).2.1
 obtain⟨h1,h2⟩:=mJ hc hs hl hbd (.deferred none) (stay.map fun n=>(n,ρ0 n)) (fun p hp=>⟨List.mem_cons_of_mem _ hp,fun e=>by
  obtain⟨n,hn,rfl⟩:=List.mem_map.1 hp
  have e:n=dn:=e
  subst e
  rw[(AY _ _).2 hn]at hdn
  cases hdn⟩)
 have h2':Be w0 K O0 nt { ds:=[⟨.collected b,#[]⟩],pin:=stay.map fun n=>(n,ρ0 n) } ⟨BP [dn] σ.env,Ab [dn] [dn] σ.objs⟩ ρ a (w.putObj b (.deferred none)):=h2
 obtain⟨u,h3,h4⟩:=WU hc.T h2' (fn:=fn) (by rw[hr];exact h)
 have hpost:NA K O0 stay w0 ρ0 post u (w.putObj b (.deferred none)):=by
  refine⟨res,_,ρ,hp,h2'.frm,⟨h2'.objs,h2'.free,h2'.dist⟩,h4,fun n hn=>?_⟩
  exact(h2'.pin (n,ρ0 n) (List.mem_map.2 ⟨n,hn,rfl⟩)).2.1
 have hdf:a.defers=[⟨.collected b,#[]⟩]:=hs.defers
 have key:LeavesInM (FR none) 0 P fn a.tmps (fun e w'=>∃u,e=.returned u∧NA K O0 stay w0 ρ0 post u w') a.defers .returning w:=by
  rw[hdf]
  exact⟨by simp,.inl ⟨b,_,rfl,run_takeDeferred h1,u,h3,u,rfl,hpost⟩⟩
 rcases he with rfl|rfl
 ·exact key
 ·exact key
end
/- The rules in their shortest form: what is reckoned is reckoned by themselves. -/
section
open Go Go.RowKit
section
variable {c:Cx} {R:Exit→Act→World→Prop} {k:List DU} {σ σ':St}
theorem rP (lv:List Nat) (hc:c.Ok) {id:Nat} {l:List Oper} {vc:Prop} (hvc:vc) (hk:Ev c R (.out .normal) k σ') (h0:(l.all fun o=>o.guard.isNone)=true:=by rfl)
  (h:Cc lv (BX c.tb l l σ)=some (vc,σ'):=by simp only[go_sem,Nat.reduceEqDiff,reduceCtorEq,Nat.reduceAdd,Nat.reduceSub,Nat.reduceMul,Nat.reduceLeDiff,Nat.reduceLT,Int.reduceLE,Int.reduceToNat,Int.reduceNeg,↓reduceIte];rfl):Ev c R (.run (.region id l.toArray false)) k σ:=Kl lv hc h0 h hvc hk
theorem rD (lv:List Nat) (hc:c.Ok) {id:Nat} {l:List Oper} {vc:Prop} (hvc:vc) (hk:Ev c R (.out .normal) k σ') (h0:KF l l.length=true:=by kernel_rfl) (hm:c.P.follows .mixedOrders=true:=by exact drawsAny)
  (h:Cc lv (JB c.tb l false σ.objs [] l 0 [] [] σ)=some (vc,σ'):=by simp only[go_sem,Nat.reduceEqDiff,reduceCtorEq,Nat.reduceAdd,Nat.reduceSub,Nat.reduceMul,Nat.reduceLeDiff,Nat.reduceLT,Int.reduceLE,Int.reduceToNat,Int.reduceNeg,↓reduceIte];rfl):Ev c R (.run (.region id l.toArray true)) k σ:=TV lv hm hc h0 h hvc hk
theorem rC {o:Operand} {x y:Code} {b:Bool} {p q:Prop} (ht:p→Ev c R (.run x) k σ) (hf:q→Ev c R (.run y) k σ) (h:Ae σ o=some (.p .bool b):=by simp only[go_sem,Nat.reduceEqDiff,reduceCtorEq,Nat.reduceAdd,Nat.reduceSub,Nat.reduceMul,Nat.reduceLeDiff,Nat.reduceLT,Int.reduceLE,Int.reduceToNat,Int.reduceNeg,↓reduceIte];rfl)
  (hp:(b=true)=p:=by first|(simp only[decide_eq_true_eq,decide_eq_false_iff_not,Bool.and_eq_true,Bool.or_eq_true,Bool.and_eq_false_imp,Bool.or_eq_false_iff,Bool.not_eq_true',Bool.not_eq_false',beq_iff_eq,beq_eq_false_iff_ne,bne_iff_ne,Bool.not_eq_eq_eq_not,Bool.not_true,Bool.not_false,Int.not_lt,Int.not_le,ne_eq];rfl)|rfl) (hq:(b=false)=q:=by first|(simp only[decide_eq_true_eq,decide_eq_false_iff_not,Bool.and_eq_true,Bool.or_eq_true,Bool.and_eq_false_imp,Bool.or_eq_false_iff,Bool.not_eq_true',Bool.not_eq_false',beq_iff_eq,beq_eq_false_iff_ne,bne_iff_ne,Bool.not_eq_eq_eq_not,Bool.not_true,Bool.not_false,Int.not_lt,Int.not_le,ne_eq];rfl)|rfl):Ev c R (.run (.cond o x y)) k σ :=
 DV h (fun e=>ht (hp▸e)) (fun e=>hf (hq▸e))
theorem rL (lv:List Nat) (hc:c.Ok) {ops:List Oper} {l:List Oper} {vc:Prop} (hvc:vc) (hk:Ev c R (.out .normal) k σ') (h:Cc lv (BX c.tb ops l σ)=some (vc,σ'):=by simp only[go_sem,Nat.reduceEqDiff,reduceCtorEq,Nat.reduceAdd,Nat.reduceSub,Nat.reduceMul,Nat.reduceLeDiff,Nat.reduceLT,Int.reduceLE,Int.reduceToNat,Int.reduceNeg,↓reduceIte];rfl):HB c R k ops.toArray l σ:=Hl lv hc h hvc hk
theorem rN (n:Nat) (hc:c.Ok) {ops:List Oper} {l:List Oper} {vc:Prop} (hvc:vc) (hk:HB c R k ops.toArray (l.drop n) σ') (h:BX c.tb ops (l.take n) σ=some (vc,σ'):=by simp only[List.take_succ_cons,List.take_zero,go_sem,Nat.reduceEqDiff,reduceCtorEq,Nat.reduceAdd,Nat.reduceSub,Nat.reduceMul,Nat.reduceLeDiff,Nat.reduceLT,Int.reduceLE,Int.reduceToNat,Int.reduceNeg,↓reduceIte];rfl):HB c R k ops.toArray l σ:=QR hc n (by simpa using h) hvc hk
theorem cP (n:Nat) (hc:c.Ok) {id:Nat} {l:List Oper} {vc:Prop} (hvc:vc) (hk:HB c R k l.toArray (l.drop n) σ') (h0:(l.all fun o=>o.guard.isNone)=true:=by rfl) (h:BX c.tb l (l.take n) σ=some (vc,σ'):=by simp only[List.take_succ_cons,List.take_zero,go_sem,Nat.reduceEqDiff,reduceCtorEq,Nat.reduceAdd,Nat.reduceSub,Nat.reduceMul,Nat.reduceLeDiff,Nat.reduceLT,Int.reduceLE,Int.reduceToNat,Int.reduceNeg,↓reduceIte];rfl) :
  Ev c R (.run (.region id l.toArray false)) k σ:=lY hc n h0 h hvc hk
theorem cD (n:Nat) (hc:c.Ok) {id:Nat} {l:List Oper} {vc:Prop} (hvc:vc) (hk:HB c R k l.toArray (l.drop n) σ') (hchk:KF l (l.take n).length=true:=by kernel_rfl) (hm:c.P.follows .mixedOrders=true:=by exact drawsAny)
  (h:JB c.tb l false σ.objs [] (l.take n) 0 [] [] σ=some (vc,σ'):=by simp only[List.take_succ_cons,List.take_zero,go_sem,Nat.reduceEqDiff,reduceCtorEq,Nat.reduceAdd,Nat.reduceSub,Nat.reduceMul,Nat.reduceLeDiff,Nat.reduceLT,Int.reduceLE,Int.reduceToNat,Int.reduceNeg,↓reduceIte];rfl):Ev c R (.run (.region id l.toArray true)) k σ:=lZ hm hc n hchk h hvc hk
theorem rM (hc:c.Ok) {ops:Array Oper} {rest:List Oper} {dst:Option Nat} {g:Operand} {xs:List Operand} {ts:Array TypeId} {ty:TypeId} {pos:String} {after:Array Edge}
  {f:FuncId} {capn:List Nat} {as:List AV} {A:List AV} {objs:List (Nat×Obj)} {stay:List Nat} {post:AV→List (Nat×Obj)→Prop} (hM:BO c.P f A objs stay post)
  (ren:List (Nat×CD)) (hs:List Nat) (hA:BI σ ren (as++capn.map fun n=>AV.bp n [] 0) A) (hO:Ag σ.objs ren objs)
  (hk:∀res objs',post res objs'→∃(ren2:List (Nat×CD)) (res2:AV) (objs2:List (Nat×Obj)),B2 ren2=true∧CR objs2 ren2=true∧Ag objs' ren2 objs2∧BV ren2 res res2 ∧
   KG ren ren2 stay hs=true∧Gq (Ak ren) objs2 σ.objs=true∧HB c R k ops rest (CO σ (Ak ren) hs dst res2 objs2))
  (hg:Cb (Ae σ g)=some (f,capn):=by simp only[go_sem,Nat.reduceEqDiff,reduceCtorEq,Nat.reduceAdd,Nat.reduceSub,Nat.reduceMul,Nat.reduceLeDiff,Nat.reduceLT,Int.reduceLE,Int.reduceToNat,Int.reduceNeg,↓reduceIte];rfl) (has:JC σ xs=some as:=by simp only[go_sem,Nat.reduceEqDiff,reduceCtorEq,Nat.reduceAdd,Nat.reduceSub,Nat.reduceMul,Nat.reduceLeDiff,Nat.reduceLT,Int.reduceLE,Int.reduceToNat,Int.reduceNeg,↓reduceIte];rfl)
  (h1:B2 ren=true:=by rfl) (h2:CR objs ren=true:=by rfl) (hpin:(c.ds.pin.all fun p=>!AX p.1 hs)=true:=by rfl) :
  HB c R k ops (⟨dst,.call ⟨.value g,xs.toArray,ts⟩,ty,pos,after,none⟩ :: rest) σ:=lX hc hg has hM ren hs h1 h2 hpin hA hO hk
theorem rY (n yn:Nat) (hc:c.Ok) {ops:Array Oper} {rest:List Oper} {dst:Option Nat} {g:Operand} {xs:List Operand} {ts:Array TypeId} {ty:TypeId} {pos:String} {after:Array Edge}
  {as:List AV} {A:List AV} {objs:List (Nat×Obj)} {stay:List Nat} {post:AV→List (Nat×Obj)→Prop} (hM:Wb c.P yn A objs stay post)
  (ren:List (Nat×CD)) (hs:List Nat) (hA:BI σ ren as A) (hO:Ag σ.objs ren objs)
  (hk:∀res objs',post res objs'→∃(ren2:List (Nat×CD)) (res2:AV) (objs2:List (Nat×Obj)),B2 ren2=true∧CR objs2 ren2=true∧Ag objs' ren2 objs2∧BV ren2 res res2 ∧
   KG ren ren2 stay hs=true∧Gq (Ak ren) objs2 σ.objs=true∧HB c R k ops rest (CO σ (Ak ren) hs dst res2 objs2))
  (hr0:c.r=none:=by rfl) (hg:QB n (Ae σ g)=true:=by simp only[go_sem,Nat.reduceEqDiff,reduceCtorEq,Nat.reduceAdd,Nat.reduceSub,Nat.reduceMul,Nat.reduceLeDiff,Nat.reduceLT,Int.reduceLE,Int.reduceToNat,Int.reduceNeg,↓reduceIte]) (has:JC σ xs=some as:=by simp only[go_sem,Nat.reduceEqDiff,reduceCtorEq,Nat.reduceAdd,Nat.reduceSub,Nat.reduceMul,Nat.reduceLeDiff,Nat.reduceLT,Int.reduceLE,Int.reduceToNat,Int.reduceNeg,↓reduceIte];rfl)
  (hyn:lk yn ren=some (.nm n):=by rfl) (h1:B2 ren=true:=by rfl) (h2:CR objs ren=true:=by rfl) (hpin:(c.ds.pin.all fun p=>!AX p.1 hs)=true:=by rfl) :
  HB c R k ops (⟨dst,.call ⟨.value g,xs.toArray,ts⟩,ty,pos,after,none⟩ :: rest) σ:=iD hc hr0 hg has hM ren hs hyn h1 h2 hpin hA hO hk
end
end
/- Code with labels that nothing jumps to: a scope, a label. -/
section
open Go Go.RowKit
section
variable {P:Program} {b:Frame} {a:Act} {k:List Item} {cs:List Frame} {w:World}
end
section
variable {c:Cx} {R:Exit→Act→World→Prop} {k:List DU} {σ:St}
end
end
/- Several steps of control in one. -/
section
open Go Go.RowKit
def aL:Z3→List DU→Option (Z3×List DU)
 | .run (.seq x y),k=>some (.run x,.seq y :: k)
 | .run .skip,k=>some (.out .normal,k)
 | .run .ret,k=>some (.out .ret,k)
 | .run (.exit id),k=>some (.out (.exit id),k)
 | .run (.block id b),k=>some (.run b,.blk id :: k)
 | .out .normal,.seq y :: k=>some (.run y,k)
 | .out .normal,.blk _ :: k=>some (.out .normal,k)
 | .out (.exit id),.seq _ :: k=>some (.out (.exit id),k)
 | .out (.exit id'),.blk id :: k=>if id'=id then some (.out .normal,k) else some (.out (.exit id'),k)
 | .out (.exit id),.inv _ :: k=>some (.out (.exit id),k)
 | .out .ret,.seq _ :: k=>some (.out .ret,k)
 | .out .ret,.blk _ :: k=>some (.out .ret,k)
 | .out .ret,.inv _ :: k=>some (.out .ret,k)
 | _,_=>none
def RU:Nat→Z3→List DU→Z3×List DU
 | 0,n,k=>(n,k)
 | m+1,n,k=>match aL n k with
  | some (n',k')=>RU m n' k'
  | none=>(n,k)
def aM (n:Z3) (k:List DU):Option (Z3×List DU):=match aL n k with
 | some (n',k')=>some (RU 200 n' k')
 | none=>none
section
variable {c:Cx} {R:Exit→Act→World→Prop} {σ:St}
theorem Wd {n n':Z3} {k k':List DU} (e:aL n k=some (n',k')) (h:Ev c R n' k' σ):Ev c R n k σ:=by
 unfold aL at e
 split at e<;>first
  | (cases e;done)
  | (split at e<;>(cases e;first|(rename_i hid;rw[hid];exact YZ h)|exact Ya (by assumption) h))
  | (cases e;first|exact w6 h|exact Z4 h|exact w7 h|exact qY h|exact lN h|exact He h|exact YV h|exact WJ h|exact WK h|exact YU h|exact YW h|exact YX h)
theorem Td:∀(m:Nat) {n:Z3} {k:List DU},Ev c R (RU m n k).1 (RU m n k).2 σ→Ev c R n k σ
 | 0,_,_,h=>h
 | m+1,n,k,h=>by
  unfold RU at h
  split at h
  ·rename_i n' k' e
   exact Wd e (Td m h)
  ·exact h
theorem eS {n n':Z3} {k k':List DU} (e:aM n k=some (n',k')) (h:Ev c R n' k' σ):Ev c R n k σ:=by
 unfold aM at e
 split at e
 ·rename_i n1 k1 e1
  refine Wd e1 (Td 200 ?_)
  have:=Option.some.inj e
  rw[this]
  exact h
 ·cases e
end
inductive RX (c:Cx) (lv:List Nat) (σ:St) (vc:Prop) (σ':St):Array Oper→Bool→Prop
 | p {l:List Oper} (h0:(l.all fun o=>o.guard.isNone)=true) (h:Cc lv (BX c.tb l l σ)=some (vc,σ')):RX c lv σ vc σ' l.toArray false
 | a {l:List Oper} (h0:gW l l.length=true) (h:Cc lv (JB c.tb l true σ.objs [] l 0 [] [] σ)=some (vc,σ')):RX c lv σ vc σ' l.toArray false
 | d {l:List Oper} (h0:KF l l.length=true) (hm:c.P.follows .mixedOrders=true) (h:Cc lv (JB c.tb l false σ.objs [] l 0 [] [] σ)=some (vc,σ')):RX c lv σ vc σ' l.toArray true
 | t {l:List Oper} (m:Nat) (h0:KF l (l.take (l.length-m)).length=true) (hm:c.P.follows .mixedOrders=true) (h:Cc lv (JB c.tb l false σ.objs (l.drop (l.length-m)) (l.take (l.length-m)) 0 [] [] σ)=some (vc,σ')):RX c lv σ vc σ' l.toArray true
theorem yZ {c:Cx} {R:Exit→Act→World→Prop} {k:List DU} {σ σ':St} {lv:List Nat} (hc:c.Ok) {id:Nat} {ops:Array Oper} {dr:Bool} {vc:Prop} (hvc:vc) (hk:Ev c R (.out .normal) k σ') (h:RX c lv σ vc σ' ops dr):Ev c R (.run (.region id ops dr)) k σ:=by
 cases h with
 | p h0 h=>exact Kl lv hc h0 h hvc hk
 | a h0 h=>exact WV lv hc h0 h hvc hk
 | d h0 hm h=>exact TV lv hm hc h0 h hvc hk
 | t m h0 hm h=>exact g9 lv m hm hc h0 h hvc hk
theorem rX {c:Cx} {R:Exit→Act→World→Prop} {k:List DU} {σ σ':St} (lv:List Nat) (hc:c.Ok) {id:Nat} {ops:Array Oper} {dr:Bool} {vc:Prop} (hvc:vc) (hk:Ev c R (.out .normal) k σ')
  (h:RX c lv σ vc σ' ops dr:=by
   first
   | exact .p rfl (by simp only[go_sem,Nat.reduceEqDiff,reduceCtorEq,Nat.reduceAdd,Nat.reduceSub,Nat.reduceMul,Nat.reduceLeDiff,Nat.reduceLT,Int.reduceLE,Int.reduceToNat,Int.reduceNeg,↓reduceIte];rfl)
   | exact .a (by kernel_rfl) (by simp only[go_sem,Nat.reduceEqDiff,reduceCtorEq,Nat.reduceAdd,Nat.reduceSub,Nat.reduceMul,Nat.reduceLeDiff,Nat.reduceLT,Int.reduceLE,Int.reduceToNat,Int.reduceNeg,↓reduceIte];rfl)
   | exact .d (by kernel_rfl) (by exact drawsAny) (by simp only[go_sem,Nat.reduceEqDiff,reduceCtorEq,Nat.reduceAdd,Nat.reduceSub,Nat.reduceMul,Nat.reduceLeDiff,Nat.reduceLT,Int.reduceLE,Int.reduceToNat,Int.reduceNeg,↓reduceIte];rfl)
   | exact .t 1 (by kernel_rfl) (by exact drawsAny) (by simp only[List.take_succ_cons,List.drop_succ_cons,List.take_zero,List.drop_zero,go_sem,Nat.reduceEqDiff,reduceCtorEq,Nat.reduceAdd,Nat.reduceSub,Nat.reduceMul,Nat.reduceLeDiff,Nat.reduceLT,Int.reduceLE,Int.reduceToNat,Int.reduceNeg,↓reduceIte];rfl)
   | exact .t 2 (by kernel_rfl) (by exact drawsAny) (by simp only[List.take_succ_cons,List.drop_succ_cons,List.take_zero,List.drop_zero,go_sem,Nat.reduceEqDiff,reduceCtorEq,Nat.reduceAdd,Nat.reduceSub,Nat.reduceMul,Nat.reduceLeDiff,Nat.reduceLT,Int.reduceLE,Int.reduceToNat,Int.reduceNeg,↓reduceIte];rfl)
   | exact .t 3 (by kernel_rfl) (by exact drawsAny) (by simp only[List.take_succ_cons,List.drop_succ_cons,List.take_zero,List.drop_zero,go_sem,Nat.reduceEqDiff,reduceCtorEq,Nat.reduceAdd,Nat.reduceSub,Nat.reduceMul,Nat.reduceLeDiff,Nat.reduceLT,Int.reduceLE,Int.reduceToNat,Int.reduceNeg,↓reduceIte];rfl)):Ev c R (.run (.region id ops dr)) k σ:=yZ hc hvc hk h
/-! What is reckoned, in one word -/
theorem eN {p:Prop} (h:p:=by simp only[go_sem,Nat.reduceEqDiff,reduceCtorEq,Nat.reduceAdd,Nat.reduceSub,Nat.reduceMul,Nat.reduceLeDiff,Nat.reduceLT,Int.reduceLE,Int.reduceToNat,Int.reduceNeg,↓reduceIte]<;>fail):p:=h
theorem eM {p q:Prop} (hq:q) (h:p=q:=by simp only[go_sem,Nat.reduceEqDiff,reduceCtorEq,Nat.reduceAdd,Nat.reduceSub,Nat.reduceMul,Nat.reduceLeDiff,Nat.reduceLT,Int.reduceLE,Int.reduceToNat,Int.reduceNeg,↓reduceIte];rfl):p:=h▸hq
theorem eR {p:Prop} (h:p:=by simp only[M6,IM,Hf,Ja,LM,Ih,GX,go_sem,Nat.reduceEqDiff,reduceCtorEq,Nat.reduceAdd,Nat.reduceSub,Nat.reduceMul,Nat.reduceLeDiff,Nat.reduceLT,Int.reduceLE,Int.reduceToNat,Int.reduceNeg,↓reduceIte]<;>fail):p:=h
theorem Av {p q:Prop} (hq:q) (h:p=q:=by simp only[M6,IM,Hf,Ja,LM,Ih,GX,go_sem,Nat.reduceEqDiff,reduceCtorEq,Nat.reduceAdd,Nat.reduceSub,Nat.reduceMul,Nat.reduceLeDiff,Nat.reduceLT,Int.reduceLE,Int.reduceToNat,Int.reduceNeg,↓reduceIte];rfl):p:=h▸hq
theorem eV {p:Prop} (h:p:=by (try dsimp only[Ty.den]at *)<;>(repeat'(first|apply And.intro|intro _))<;>omega):p:=h
end
/- A call by contract under a guard that holds. -/
section
open Go Go.RowKit
section
variable {c:Cx} {R:Exit→Act→World→Prop} {k:List DU} {σ σ':St}
theorem mL (hc:c.Ok) {id:Nat} {l:List Oper} (n:Nat) {vc:Prop} (h:BX c.tb l (l.take n) σ=some (vc,σ')) (hvc:vc) (hk:HB c R k l.toArray (l.drop n) σ') :
  Ev c R (.run (.region id l.toArray false)) k σ:=by
 intro h1 h2 a w hs
 simp only[IL,CC,List.all_eq_true]at h1
 exact wpIn_region_list (QR hc n (by simpa using h) hvc hk (fun o ho=>h1 o ho) h2 a w hs)
theorem iJ (hc:c.Ok) {ops:Array Oper} {rest:List Oper} {dst:Option Nat} {g:Operand} {xs:List Operand} {ts:Array TypeId} {ty:TypeId} {pos:String} {after:Array Edge} {gd:Option (Nat×Bool)}
  (hgd:DK ops.toList σ gd=some true)
  {f:FuncId} {capn:List Nat} (hg:Cb (Ae σ g)=some (f,capn)) {as:List AV} (has:JC σ xs=some as)
  {A:List AV} {objs:List (Nat×Obj)} {stay:List Nat} {post:AV→List (Nat×Obj)→Prop} (hM:BO c.P f A objs stay post)
  (ren:List (Nat×CD)) (hs:List Nat) (h1:B2 ren=true) (h2:CR objs ren=true) (hpin:(c.ds.pin.all fun p=>!AX p.1 hs)=true) (hA:BI σ ren (as++capn.map fun n=>AV.bp n [] 0) A) (hO:Ag σ.objs ren objs)
  (hk:∀res objs',post res objs'→∃(ren2:List (Nat×CD)) (res2:AV) (objs2:List (Nat×Obj)),B2 ren2=true∧CR objs2 ren2=true∧Ag objs' ren2 objs2∧BV ren2 res res2 ∧
   KG ren ren2 stay hs=true∧Gq (Ak ren) objs2 σ.objs=true∧HB c R k ops rest (CO σ (Ak ren) hs dst res2 objs2)) :
  HB c R k ops (⟨dst,.call ⟨.value g,xs.toArray,ts⟩,ty,pos,after,gd⟩ :: rest) σ:=by
 intro hd hko a w hsat
 unfold wpListIn
 rw[if_pos (HK (o:=⟨dst,.call ⟨.value g,xs.toArray,ts⟩,ty,pos,after,gd⟩) hsat hgd)]
 refine aG hc (xs:=xs) (ts:=ts) rfl rfl hg has hM ren h1 h2 hA hO hs hpin hsat (Bh (hd _ (by simp))) fun res objs' hp=>?_
 obtain⟨ren2,res2,objs2,g1,g2,g3,g4,g5,g6,hE⟩:=hk res objs' hp
 exact⟨ren2,res2,objs2,g1,g2,g3,g4,g5,g6,fun a' w' hs'=>hE (fun o ho=>hd o (by simp[ho])) hko a' w' hs'⟩
end
end
/- The rules of mixed and guarded regions in their shortest form. -/
section
open Go Go.RowKit
section
variable {c:Cx} {ops:List Oper} {Kf:St→Prop} {τ:St} {ens:EN} {vc:Prop}
theorem RW {A D:List Nat} {l:Nat} {ps:List (List Nat×Nat)} {o:Oper} {σ1:St} {ens1:EN} (hvc:vc) (hL:VB c o σ1 ens1 (fun τ'=>l0 c ops Kf ps D ens1 τ')) (h:Vo c.tb ops τ.objs (A++qs ps D) [] τ.env=some (vc,ens):=by simp only[go_sem,Nat.reduceEqDiff,reduceCtorEq,Nat.reduceAdd,Nat.reduceSub,Nat.reduceMul,Nat.reduceLeDiff,Nat.reduceLT,Int.reduceLE,Int.reduceToNat,Int.reduceNeg,↓reduceIte];rfl) (hfr:Ln ens τ.objs=true:=by rfl) (ho:ops[l]?=some o:=by rfl)
  (hσ:JD (ens.take A.length) τ=σ1:=by simp only[go_sem,Nat.reduceEqDiff,reduceCtorEq,Nat.reduceAdd,Nat.reduceSub,Nat.reduceMul,Nat.reduceLeDiff,Nat.reduceLT,Int.reduceLE,Int.reduceToNat,Int.reduceNeg,↓reduceIte];rfl) (he:ens.drop A.length=ens1:=by simp only[go_sem,Nat.reduceEqDiff,reduceCtorEq,Nat.reduceAdd,Nat.reduceSub,Nat.reduceMul,Nat.reduceLeDiff,Nat.reduceLT,Int.reduceLE,Int.reduceToNat,Int.reduceNeg,↓reduceIte];rfl):l0 c ops Kf ((A,l) :: ps) D ens τ:=mE h hvc hfr ho hσ he hL
theorem Sm {R:Exit→Act→World→Prop} {k:List DU} {σ':St} (lv:List Nat) (hc:c.Ok) {D:List Nat} {l:List Oper} {vc2:Prop} (hvc:vc) (hvc2:vc2) (hk:Ev c R (.out .normal) k σ') (h:Vo c.tb ops τ.objs D [] τ.env=some (vc,ens):=by simp only[go_sem,Nat.reduceEqDiff,reduceCtorEq,Nat.reduceAdd,Nat.reduceSub,Nat.reduceMul,Nat.reduceLeDiff,Nat.reduceLT,Int.reduceLE,Int.reduceToNat,Int.reduceNeg,↓reduceIte];rfl) (hfr:Ln ens τ.objs=true:=by rfl)
  (h2:Cc lv (BX c.tb ops l (JD ens τ))=some (vc2,σ'):=by simp only[go_sem,Nat.reduceEqDiff,reduceCtorEq,Nat.reduceAdd,Nat.reduceSub,Nat.reduceMul,Nat.reduceLeDiff,Nat.reduceLT,Int.reduceLE,Int.reduceToNat,Int.reduceNeg,↓reduceIte];rfl):l0 c ops (fun τ=>HB c R k ops.toArray l τ) [] D ens τ:=mD h hvc hfr (Hl lv hc h2 hvc2 hk)
end
section
variable {c:Cx} {o:Oper} {σ:St} {ens:EN} {N:St→Prop} {R:Exit→Act→World→Prop} {k:List DU} {σ':St}
theorem Sx (hc:c.Ok) {τ:St} {vc:Prop} (ns:List Nat) (hvc:vc) (hN:N τ) (h:Eh c.tb o σ=some (vc,τ):=by simp only[go_sem,Nat.reduceEqDiff,reduceCtorEq,Nat.reduceAdd,Nat.reduceSub,Nat.reduceMul,Nat.reduceLeDiff,Nat.reduceLT,Int.reduceLE,Int.reduceToNat,Int.reduceNeg,↓reduceIte];rfl) (hns:tn σ o.op=ns:=by simp only[go_sem,Nat.reduceEqDiff,reduceCtorEq,Nat.reduceAdd,Nat.reduceSub,Nat.reduceMul,Nat.reduceLeDiff,Nat.reduceLT,Int.reduceLE,Int.reduceToNat,Int.reduceNeg,↓reduceIte]) (hsl:Jh o ens=true:=by rfl) (hn:Il ns σ.objs ens=true:=by rfl) (hfr:NC τ.objs ens=true:=by rfl)
  (hf:HD ns ens=ens:=by simp only[go_sem,Nat.reduceEqDiff,reduceCtorEq,Nat.reduceAdd,Nat.reduceSub,Nat.reduceMul,Nat.reduceLeDiff,Nat.reduceLT,Int.reduceLE,Int.reduceToNat,Int.reduceNeg,↓reduceIte]) (hd:IK c.nt o=true:=by rfl):VB c o σ ens N:=iC hc ns h hns hsl hn hfr hf hd hvc hN
theorem evP (hc:c.Ok) {id:Nat} {l:List Oper} (n:Nat) {vc:Prop} (hvc:vc) (hk:HB c R k l.toArray (l.drop n) σ') (h:BX c.tb l (l.take n) σ=some (vc,σ'):=by simp only[List.take_succ_cons,List.take_zero,go_sem,Nat.reduceEqDiff,reduceCtorEq,Nat.reduceAdd,Nat.reduceSub,Nat.reduceMul,Nat.reduceLeDiff,Nat.reduceLT,Int.reduceLE,Int.reduceToNat,Int.reduceNeg,↓reduceIte];rfl):Ev c R (.run (.region id l.toArray false)) k σ:=mL hc n h hvc hk
theorem clG (hc:c.Ok) {ops:Array Oper} {rest:List Oper} {dst:Option Nat} {g:Operand} {xs:List Operand} {ts:Array TypeId} {ty:TypeId} {pos:String} {after:Array Edge} {gd:Option (Nat×Bool)} {f:FuncId} {capn:List Nat} {as:List AV}
  {A:List AV} {objs:List (Nat×Obj)} {stay:List Nat} {post:AV→List (Nat×Obj)→Prop} (hM:BO c.P f A objs stay post) (ren:List (Nat×CD)) (hs:List Nat) (hA:BI σ ren (as++capn.map fun n=>AV.bp n [] 0) A) (hO:Ag σ.objs ren objs)
  (hk:∀res objs',post res objs'→∃(ren2:List (Nat×CD)) (res2:AV) (objs2:List (Nat×Obj)),B2 ren2=true∧CR objs2 ren2=true∧Ag objs' ren2 objs2∧BV ren2 res res2 ∧
   KG ren ren2 stay hs=true∧Gq (Ak ren) objs2 σ.objs=true∧HB c R k ops rest (CO σ (Ak ren) hs dst res2 objs2))
  (hgd:DK ops.toList σ gd=some true:=by simp only[go_sem,Nat.reduceEqDiff,reduceCtorEq,Nat.reduceAdd,Nat.reduceSub,Nat.reduceMul,Nat.reduceLeDiff,Nat.reduceLT,Int.reduceLE,Int.reduceToNat,Int.reduceNeg,↓reduceIte]) (hg:Cb (Ae σ g)=some (f,capn):=by simp only[go_sem,Nat.reduceEqDiff,reduceCtorEq,Nat.reduceAdd,Nat.reduceSub,Nat.reduceMul,Nat.reduceLeDiff,Nat.reduceLT,Int.reduceLE,Int.reduceToNat,Int.reduceNeg,↓reduceIte];rfl) (has:JC σ xs=some as:=by simp only[go_sem,Nat.reduceEqDiff,reduceCtorEq,Nat.reduceAdd,Nat.reduceSub,Nat.reduceMul,Nat.reduceLeDiff,Nat.reduceLT,Int.reduceLE,Int.reduceToNat,Int.reduceNeg,↓reduceIte];rfl) (h1:B2 ren=true:=by rfl) (h2:CR objs ren=true:=by rfl) (hpin:(c.ds.pin.all fun p=>!AX p.1 hs)=true:=by rfl) :
  HB c R k ops (⟨dst,.call ⟨.value g,xs.toArray,ts⟩,ty,pos,after,gd⟩ :: rest) σ:=iJ hc hgd hg has hM ren hs h1 h2 hpin hA hO hk
theorem HQ (l:List Nat) {n:Z3} {σ1:St} (hk:Ev c R n k σ1) (h:CA l σ=σ1:=by simp only[go_sem,Nat.reduceEqDiff,reduceCtorEq,Nat.reduceAdd,Nat.reduceSub,Nat.reduceMul,Nat.reduceLeDiff,Nat.reduceLT,Int.reduceLE,Int.reduceToNat,Int.reduceNeg,↓reduceIte];rfl):Ev c R n k σ:=Ev.ent hk (aA l h fun _ _ h=>h)
theorem y3 (l:List Nat) {σ1:St} (he:pZ c σ1 σ') (h:CA l σ=σ1:=by simp only[go_sem,Nat.reduceEqDiff,reduceCtorEq,Nat.reduceAdd,Nat.reduceSub,Nat.reduceMul,Nat.reduceLeDiff,Nat.reduceLT,Int.reduceLE,Int.reduceToNat,Int.reduceNeg,↓reduceIte];rfl):pZ c σ σ':=aA l h he
end
theorem eT {p:Prop} (h:p:=by simp only[TS,g8,OH,TR,Hf,Ja,Ih,go_sem,Nat.reduceEqDiff,reduceCtorEq,Nat.reduceAdd,Nat.reduceSub,Nat.reduceMul,Nat.reduceLeDiff,Nat.reduceLT,Int.reduceLE,Int.reduceToNat,Int.reduceNeg,↓reduceIte]<;>fail):p:=h
end
/- append to a nested array's row in the midst of a statement: what looks at the rows from outside may float around it. -/
section
open Go Go.RowKit
structure RY (X σ:St) (n:Nat):Prop where
 env:∀s v,lk s X.env=some v→v.trn n []=v
 arr:∀m o,lk m X.objs=some o→Kn o=true
 new:∀m o,lk m X.objs=some o→lk m σ.objs=none
 nm:∀m o,lk m X.objs=some o→m≠n
section
variable {σ σ' X:St} {n:Nat}
theorem RY.obs (hx:Lo σ σ' X) (ha:RY X σ n):YJ σ σ':=by
 intro m o hn
 rw[hx.objs]
 cases hX:lk m X.objs with
 | none=>exact hn
 | some o'=>rw[ha.new m o' hX]at hn;cases hn
theorem A1D (hx:Lo σ σ' X) (ha:RY X σ n) {en:List (Nat×AV)} {new:List (Nat×Obj)} (hd:∀s v,lk s en=some v→lk s X.env=none) (hnn:∀m o,lk m new=some o→lk m X.objs=none) :
  Lo ⟨en++DE n [] σ.env,new++Bv n [] σ.objs⟩ ⟨en++DE n [] σ'.env,new++Bv n [] σ'.objs⟩ X:=by
 refine⟨fun s=>?_,fun m=>?_⟩
 ·simp only[Ar]
  cases hs:lk s en with
  | some v=>rw[hd s v hs];rfl
  | none =>
   rw[E7,E7,hx.env]
   cases hX:lk s X.env with
   | none=>rfl
   | some w=>simp[ha.env s w hX]
 ·simp only[Ar]
  cases hm:lk m new with
  | some o=>rw[hnn m o hm];rfl
  | none =>
   rw[DG,DG,hx.objs]
   cases hX:lk m X.objs with
   | none=>rfl
   | some w =>
    rw[if_neg fun h=>ha.nm m w hX (by simpa using (AY _ _).1 h)]
    exact congrArg some (Tc (ha.arr m w hX))
def Yo (σ:St):Op→Option Nat
 | .call c=>match c.callee,c.args.toList,c.argTypes.toList with
  | .builtin .append,[x,_],[_,_]=>(match Ae σ x with|some (.nin n _ _ _)=>some n|_=>none)
  | _,_,_=>none
 | _=>none
theorem rI {tb:Tb} {op:Op} {d:Option Nat} {vc:Prop} {τ:St} (hx:Lo σ σ' X) (ha:RY X σ n) (hops:iA σ σ' op.operands.toList) (hnn:Yo σ op=some n) (hd:∀t,d=some t→lk t X.env=none) (hXt:∀n,(∃u,lk n τ.objs=some u)→lk n X.objs=none) (h:EL tb σ d op=some (vc,τ)) :
  (∃τ',EL tb σ' d op=some (vc,τ')∧Lo τ τ' X)∧(∀k,aq tb σ' k op=none)∧(∀k,aq tb σ k op=none)∧Bm σ op=[]∧Bm σ' op=[]:=by
 have hobs:=ha.obs hx
 cases op<;>try(cases hnn;done)
 rename_i cl
 obtain⟨callee,⟨args⟩,⟨argTypes⟩⟩:=cl
 simp only[Yo]at hnn
 split at hnn
 ·rename_i x y t u
  cases hxv:Ae σ x with
  | none=>rw[hxv]at hnn;cases hnn
  | some xv =>
   rw[hxv]at hnn
   cases xv<;>try(cases hnn;done)
   rename_i n' e i len
   cases hnn
   have hx1:Ae σ' x=Ae σ x:=hops x (by simp[Op.operands,Call.operands])
   have hy1:Ae σ' y=Ae σ y:=hops y (by simp[Op.operands,Call.operands])
   refine⟨?_,fun k=>by simp[aq,B5,B9,Bw,hx1,hxv],fun k=>by simp[aq,B5,B9,Bw,hxv],rfl,rfl⟩
   simp only[EL,CL,CQ,hxv]at h
   simp only[EL,CL,CQ,CK,hx1,hxv,hy1]
   cases hyv:Ae σ y with
   | none=>rw[hyv]at h;unfold CK at h;cases h
   | some v =>
    rw[hyv]at h
    simp only[CK]at h
    split at h
    ·rename_i d'
     have hd':=hd d' rfl
     simp only
     split at h
     ·rename_i htu
      rw[if_pos htu]
      unfold I2 at h ⊢
      split at h
      ·rename_i e2 o2 el b2 htb
       try rw[htb]
       try simp only
       split at h
       ·rename_i hee
        rw[if_pos hee]
        unfold J7 at h ⊢
        split at h
        ·rename_i ti et iet k e1 xs h1 hl
         try rw[h1]
         try rw[hobs _ _ hl]
         try simp only
         split at h
         ·rename_i hc
          rw[if_pos hc]
          unfold IG at h ⊢
          split at h
          ·rename_i ys h3
           rw[Kj hobs h3]
           try simp only
           split at h
           ·rename_i hdn
            have hXd:lk d' X.objs=none:=by
             refine hXt d' ?_
             cases h
             exact⟨_,by simp only[lk,if_true];rfl⟩
            have hdn':(lk d' σ'.objs).isNone=true∧ys.isEmpty=false:=⟨by rw[hx.objs,hXd];exact hdn.1,hdn.2⟩
            rw[if_pos hdn']
            cases h
            refine⟨_,rfl,A1D (en:=[(d',_)]) (new:=[(d',_),(n,_)]) hx ha (fun s v h=>?_) (fun q o hq=>?_)⟩
            ·simp only[lk]at h
             split at h
             ·rename_i e1;rw[e1];exact hd'
             ·cases h
            ·simp only[lk]at hq
             split at hq
             ·rename_i e1;rw[e1];exact hXd
             ·split at hq
              ·rename_i e1
               rw[e1]
               cases hX:lk n X.objs with
               | none=>rfl
               | some w=>exact absurd rfl (ha.nm n w hX)
              ·cases hq
           ·cases h
          ·cases h
         ·cases h
        ·cases h
       ·cases h
      ·cases h
     ·cases h
    ·cases h
 ·cases hnn
end
def RZ (n:Nat):EN→EN
 | []=>[]
 | (d,v,obs) :: r=>(d,v.trn n [],obs) :: RZ n r
theorem Ra {n:Nat}:∀ {ens:EN},RZ n ens=ens→∀e∈ens,e.2.1.trn n []=e.2.1
 | [],_,e,he=>by cases he
 | (d,v,obs) :: r,h,e,he=>by
  simp only[RZ,List.cons.injEq,Prod.mk.injEq,and_true,true_and]at h
  rcases List.mem_cons.1 he with rfl|he
  ·exact h.1
  ·exact Ra h.2 e he
section
variable {c:Cx} {o:Oper} {σ:St} {ens:EN} {N:St→Prop}
theorem mM (hc:c.Ok) {τ:St} {vc:Prop} (n:Nat) (h:Eh c.tb o σ=some (vc,τ)) (hns:Yo σ o.op=some n) (hsl:Jh o ens=true) (hn:Il [n] σ.objs ens=true) (hfr:NC τ.objs ens=true) (hf:RZ n ens=ens) (hd:IK c.nt o=true) (hvc:vc) (hN:N τ):VB c o σ ens N:=by
 intro X σ' hx hin a w next Q hs hk
 have ha:RY X σ n:=by
  refine⟨fun s v hs=>?_,fun m o ho=>?_,fun m o ho=>?_,fun m o ho=>?_⟩
  ·obtain⟨obs,hm⟩:=hin.env s v hs
   exact Ra hf _ hm
  all_goals
   obtain⟨e,he,hp⟩:=hin.objs m o ho
   have:=FC hn e he _ hp
  ·exact this.2.2
  ·exact this.1
  ·exact fun e1=>this.2.1 (by simp[e1])
 have hXs:∀t∈Fe o.op,lk t X.env=none:=fun t ht=>by
  cases hX:lk t X.env with
  | none=>rfl
  | some v=>obtain⟨obs,hm⟩:=hin.env t v hX;exact absurd ht (EO hsl _ hm).1
 have hXd:∀t,o.dst=some t→lk t X.env=none:=fun t ht=>by
  cases hX:lk t X.env with
  | none=>rfl
  | some v=>obtain⟨obs,hm⟩:=hin.env t v hX;exact absurd ht (EO hsl _ hm).2
 have hXt:∀n,(∃u,lk n τ.objs=some u)→lk n X.objs=none:=fun n hu=>by
  cases hX:lk n X.objs with
  | none=>rfl
  | some v =>
   obtain⟨e,he,hp⟩:=hin.objs n v hX
   obtain⟨u,hu⟩:=hu
   rw[Ji hfr e he _ hp]at hu;cases hu
 have hops:=QV hx hXs
 have key:∃τ',Eh c.tb o σ'=some (vc,τ')∧Lo τ τ' X:=by
  have hl:Bm σ o.op=[]∧Bm σ' o.op=[]:=by
   obtain⟨dst,op,ty,pos,after,gd⟩:=o
   simp only at hns ⊢
   cases op<;>first|exact⟨rfl,rfl⟩|cases hns
  unfold Eh KA at h ⊢
  rw[hl.1]at h
  rw[hl.2]
  simp only[CA]at h ⊢
  cases hq:aq c.tb σ (o.dst.getD 0) o.op with
  | some r =>
   obtain⟨dst,op,ty,pos,after,gd⟩:=o
   simp only at hns hq
   exfalso
   cases op<;>try(cases hns;done)
   rename_i cl
   obtain⟨callee,⟨args⟩,⟨argTypes⟩⟩:=cl
   simp only[Yo]at hns
   split at hns
   ·rename_i x y t u
    cases hxv:Ae σ x with
    | none=>rw[hxv]at hns;cases hns
    | some xv =>
     rw[hxv]at hns
     cases xv<;>try(cases hns;done)
     simp[aq,B5,B9,Bw,hxv]at hq
   ·cases hns
  | none =>
   rw[hq]at h
   simp only[Hb]at h
   obtain⟨⟨τ',h1,h2⟩,h3,_⟩:=rI hx ha hops hns hXd hXt h
   rw[h3]
   simp only[Hb]
   exact⟨τ',h1,h2⟩
 obtain⟨τ',h1,h2⟩:=key
 exact M3 hc hs h1 hvc (Bh hd) fun a' w' hs'=>hk τ hN a' w' τ' h2 hs'
theorem mxN (hc:c.Ok) {τ:St} {vc:Prop} (n:Nat) (hvc:vc) (hN:N τ) (h:Eh c.tb o σ=some (vc,τ):=by simp only[go_sem,Nat.reduceEqDiff,reduceCtorEq,Nat.reduceAdd,Nat.reduceSub,Nat.reduceMul,Nat.reduceLeDiff,Nat.reduceLT,Int.reduceLE,Int.reduceToNat,Int.reduceNeg,↓reduceIte];rfl) (hns:Yo σ o.op=some n:=by simp only[go_sem,Nat.reduceEqDiff,reduceCtorEq,Nat.reduceAdd,Nat.reduceSub,Nat.reduceMul,Nat.reduceLeDiff,Nat.reduceLT,Int.reduceLE,Int.reduceToNat,Int.reduceNeg,↓reduceIte]) (hsl:Jh o ens=true:=by rfl) (hn:Il [n] σ.objs ens=true:=by rfl) (hfr:NC τ.objs ens=true:=by rfl)
  (hf:RZ n ens=ens:=by simp only[go_sem,Nat.reduceEqDiff,reduceCtorEq,Nat.reduceAdd,Nat.reduceSub,Nat.reduceMul,Nat.reduceLeDiff,Nat.reduceLT,Int.reduceLE,Int.reduceToNat,Int.reduceNeg,↓reduceIte]) (hd:IK c.nt o=true:=by rfl):VB c o σ ens N:=mM hc n h hns hsl hn hfr hf hd hvc hN
end
end
/- Objects given up, with what is pinned apart; a range over a map. -/
section
open Go Go.RowKit
section
variable {P:Program} {tb:Tb} {w0:World} {K O0:Nat→Prop} {nt:Nat} {ds:Fp} {σ:St} {ρ:Nat→Value} {a:Act} {w:World}
theorem Be.swapP (h:Be w0 K O0 nt ds σ ρ a w) (hK:∀b,K b→b<w0.heap.size) (hO:∀b,O0 b→b<w0.heap.size) {T:Nat→Prop} (hT:∀n,T n→∃o,lk n σ.objs=some o) (hP:∀p∈ds.pin,¬T p.1)
  {new:List (Nat×Obj)} {σ':St} {ρ':Nat→Value} {w':World} {dst:Option Nat} {u:Value}
  (hos:w'.os=w.os) (htape:w'.tape=w.tape) (hout:w'.output=w.output) (hsz:w.heap.size≤w'.heap.size)
  (hheap:∀b,b<w.heap.size→(∀n,T n→¬bk (ρ n) b)→w'.heap[b]?=w.heap[b]?)
  (hold:∀n o,lk n σ'.objs=some o→lk n new=none→¬T n∧∃o1,lk n σ.objs=some o1)
  (hkeep:∀n o,lk n σ.objs=some o→¬T n→lk n new=none∧∃o1,lk n σ'.objs=some o1)
  (hρ:∀n,lk n new=none→ρ' n=ρ n)
  (hpl:∀n o b,lk n new=some o→bk (ρ' n) b→(∃m,T m∧bk (ρ m) b)∨w.heap.size≤b)
  (hdist:∀n m o o' b,lk n new=some o→lk m new=some o'→bk (ρ' n) b→bk (ρ' m) b→n=m)
  (hobjs:∀n o,lk n σ'.objs=some o→Aw (vw w' O0 σ' ρ') o (ρ' n))
  (henv:∀s v,lk s σ'.env=some v→Bp (vw w' O0 σ' ρ') v ((a.put dst u).tmps.getD s undef)) :
  Be w0 K O0 nt ds σ' ρ' (a.put dst u) w':=by
 have hblk:∀m,T m→∀b,bk (ρ m) b→b<w.heap.size:=fun m hm b hb=>by
  obtain⟨o,ho⟩:=hT m hm
  exact(h.objs m o ho).block_lt hb
 have hfree:∀m,T m→∀b,bk (ρ m) b→¬K b∧¬O0 b:=fun m hm b hb=>by
  obtain⟨o,ho⟩:=hT m hm
  exact h.free m b ⟨o,ho⟩ hb
 refine⟨⟨hos.trans h.frm.os,htape.trans h.frm.tape,hout.trans h.frm.output,Nat.le_trans h.frm.size hsz,fun k hk=>?_⟩,by rw[I5];exact h.nt,by rw[GA];exact h.defers,fun p hp=>?_,hobjs,?_,?_,henv⟩
 ·exact(hheap k (Nat.lt_of_lt_of_le (hK k hk) h.frm.size) fun n hn hb=>(hfree n hn k hb).1 hk).trans (h.frm.block k hk)
 ·obtain⟨⟨o,h1⟩,h2,h3⟩:=h.pin p hp
  have hne:¬T p.1:=hP p hp
  obtain⟨g1,g2⟩:=hkeep p.1 o h1 hne
  exact⟨g2,(hρ _ g1).trans h2,h3⟩
 ·intro n b hl hb
  obtain⟨o,ho⟩:=hl
  cases hn:lk n new with
  | none =>
   obtain⟨_,o1,h1⟩:=hold n o ho hn
   rw[hρ n hn]at hb
   exact h.free n b ⟨o1,h1⟩ hb
  | some o2 =>
   rcases hpl n o2 b hn hb with ⟨m,hm,hb'⟩|hge
   ·exact hfree m hm b hb'
   ·have:=h.frm.size
    exact⟨fun hk'=>by have:=hK b hk';omega,fun hk'=>by have:=hO b hk';omega⟩
 ·have key:∀n m o o2 b,lk n σ'.objs=some o→lk n new=none→lk m new=some o2→bk (ρ' n) b→bk (ρ' m) b→False:=by
   intro n m o o2 b ho hn hm h1 h2
   obtain⟨hnt,o1,ho1⟩:=hold n o ho hn
   rw[hρ n hn]at h1
   rcases hpl m o2 b hm h2 with ⟨m',hm',hb'⟩|hge
   ·obtain⟨o3,ho3⟩:=hT m' hm'
    have:=h.dist n m' b ⟨o1,ho1⟩ ⟨o3,ho3⟩ h1 hb'
    exact hnt (this▸hm')
   ·have hlt:b<w.heap.size:=(h.objs n o1 ho1).block_lt h1
    omega
  intro n m b hl hl' h1 h2
  obtain⟨o,ho⟩:=hl
  obtain⟨o',ho'⟩:=hl'
  cases hn:lk n new with
  | none =>
   cases hm:lk m new with
   | none =>
    obtain⟨_,o1,ho1⟩:=hold n o ho hn
    obtain⟨_,o2,ho2⟩:=hold m o' ho' hm
    rw[hρ n hn]at h1
    rw[hρ m hm]at h2
    exact h.dist n m b ⟨o1,ho1⟩ ⟨o2,ho2⟩ h1 h2
   | some o2=>exact(key n m o o2 b ho hn hm h1 h2).elim
  | some o1 =>
   cases hm:lk m new with
   | none=>exact(key m n o' o1 b ho' hm hn h2 h1).elim
   | some o2=>exact hdist n m o1 o2 b hn hm h1 h2
theorem Be.swap1P (h:Be w0 K O0 nt ds σ ρ a w) (hK:∀b,K b→b<w0.heap.size) (hO:∀b,O0 b→b<w0.heap.size) {tl:List Nat} (hT:∀n,n∈tl→∃o,lk n σ.objs=some o) (hP:∀p∈ds.pin,¬p.1∈tl)
  {nn:Nat} (hnn:nn∈tl∨lk nn σ.objs=none) {ob:Obj} {loc:Value} {w':World}
  (hos:w'.os=w.os) (htape:w'.tape=w.tape) (hout:w'.output=w.output) (hsz:w.heap.size≤w'.heap.size)
  (hheap:∀b,b<w.heap.size→(∀n,n∈tl→¬bk (ρ n) b)→w'.heap[b]?=w.heap[b]?)
  (hloc:∀b,bk loc b→(∃m,m∈tl∧bk (ρ m) b)∨w.heap.size≤b)
  (hob:∀V':Vw,V'.w=w'→CB ⟨w,own O0 σ ρ,fun _=>False,ρ⟩ V'→(∀b m,m∈tl→bk (ρ m) b→¬bk loc b→¬V'.O b)→Aw V' ob loc)
  {d:Nat} (hd:d<nt) {v:AV} {u:Value} (hav:∀V':Vw,V'.L nn→V'.ρ nn=loc→Bp V' v u) :
  Be w0 K O0 nt ds ⟨(d,v) :: BP tl σ.env,(nn,ob) :: Ab tl tl σ.objs⟩ (EB ρ nn loc) (a.put (some d) u) w':=by
 let S:St:=⟨(d,v) :: BP tl σ.env,(nn,ob) :: Ab tl tl σ.objs⟩
 have hSo:∀m o,lk m S.objs=some o→(m=nn∧o=ob)∨(m≠nn∧m∉tl∧∃o1,lk m σ.objs=some o1∧o=o1.fgt tl):=by
  intro m o hm
  simp only[S,lk]at hm
  split at hm
  ·rename_i e1;cases hm;exact .inl ⟨e1,rfl⟩
  ·rename_i e1
   rw[BU]at hm
   split at hm
   ·cases hm
   ·rename_i e2
    simp only[Option.map_eq_some_iff]at hm
    obtain⟨o1,h1,rfl⟩:=hm
    exact .inr ⟨e1,fun h=>e2 ((AY _ _).2 h),o1,h1,rfl⟩
 have hSl:∀m,m≠nn→m∉tl→∀o1,lk m σ.objs=some o1→lk m S.objs=some (o1.fgt tl):=by
  intro m h1 h2 o1 h3
  simp only[S,lk,if_neg h1,BU,h3]
  rw[if_neg fun h=>h2 ((AY _ _).1 h)];rfl
 have hne:∀m,m∉tl→(∃o,lk m σ.objs=some o)→m≠nn:=by
  rintro m h1 ⟨o,h2⟩ rfl
  rcases hnn with h3|h3
  ·exact h1 h3
  ·rw[h3]at h2;cases h2
 have hρn:EB ρ nn loc nn=loc:=BZ _ _ _
 have hρo:∀m,m≠nn→EB ρ nn loc m=ρ m:=fun m h1=>by simp[EB,h1]
 generalize EB ρ nn loc=ρ' at hρn hρo
 have hownS:∀b,b<w.heap.size→¬own O0 σ ρ b→¬own O0 S ρ' b:=by
  intro b hb hno hyes
  rcases hyes with h0|⟨m,⟨o,ho⟩,hbm⟩
  ·exact hno (.inl h0)
  ·rcases hSo m o ho with ⟨rfl,_⟩|⟨h1,h2,o1,h3,_⟩
   ·rw[hρn]at hbm
    rcases hloc b hbm with ⟨t,ht,h4⟩|h4
    ·obtain⟨o1,h5⟩:=hT t ht
     exact hno (.inr ⟨t,⟨o1,h5⟩,h4⟩)
    ·omega
   ·rw[hρo m h1]at hbm
    exact hno (.inr ⟨m,⟨o1,h3⟩,hbm⟩)
 have hheap':∀b,b<w.heap.size→¬own O0 σ ρ b→w'.heap[b]?=w.heap[b]?:=fun b hb hno=>hheap b hb fun n hn hbn=>by
  obtain⟨o1,h5⟩:=hT n hn
  exact hno (.inr ⟨n,⟨o1,h5⟩,hbn⟩)
 have hk0:CB ⟨w,own O0 σ ρ,fun _=>False,ρ⟩ (vw w' O0 S ρ'):=⟨hownS,fun _ h=>h.elim,fun _ h=>h.elim,hheap'⟩
 have hk:CB ((vw w O0 σ ρ).buts tl) (vw w' O0 S ρ'):=by
  refine⟨hownS,fun m hm=>?_,fun m hm=>?_,hheap'⟩
  ·obtain⟨⟨o1,h1⟩,h2⟩:=hm
   have h3:m∉tl:=fun h=>by rw[(AY _ _).2 h]at h2;cases h2
   exact⟨_,hSl m (hne m h3 ⟨o1,h1⟩) h3 o1 h1⟩
  ·obtain⟨⟨o1,h1⟩,h2⟩:=hm
   have h3:m∉tl:=fun h=>by rw[(AY _ _).2 h]at h2;cases h2
   exact hρo m (hne m h3 ⟨o1,h1⟩)
 refine h.swapP hK hO (T:=fun m=>m∈tl) hT hP (new:=[(nn,ob)]) hos htape hout hsz hheap ?_ ?_ ?_ ?_ ?_ ?_ ?_
 ·intro m o hm hnew
  rcases hSo m o hm with ⟨rfl,_⟩|⟨h1,h2,o1,h3,_⟩
  ·simp[lk]at hnew
  ·exact⟨h2,o1,h3⟩
 ·intro m o1 hm hnt
  have h1:=hne m hnt ⟨o1,hm⟩
  exact⟨by simp[lk,h1],_,hSl m h1 hnt o1 hm⟩
 ·intro m hm
  exact hρo m fun e1=>by simp[lk,e1]at hm
 ·intro m o b hm hb
  have h1:m=nn:=by
   by_cases h1:m=nn
   ·exact h1
   ·simp[lk,h1]at hm
  rw[h1,hρn]at hb
  exact hloc b hb
 ·intro m m' o o' b hm hm' _ _
  have key:∀j o,lk j [(nn,ob)]=some o→j=nn:=fun j o hj=>by
   by_cases h1:j=nn
   ·exact h1
   ·simp[lk,h1]at hj
  rw[key m o hm,key m' o' hm']
 ·intro m o hm
  rcases hSo m o hm with ⟨rfl,rfl⟩|⟨h1,h2,o1,h3,rfl⟩
  ·rw[hρn]
   refine hob _ rfl hk0 fun b m hm hb hnl hO=>?_
   obtain⟨o2,h5⟩:=hT m hm
   rcases hO with h0|⟨m',⟨o3,h6⟩,h7⟩
   ·exact(h.free m b ⟨o2,h5⟩ hb).2 h0
   ·rcases hSo m' o3 h6 with ⟨rfl,_⟩|⟨g1,g2,o1,g3,_⟩
    ·rw[hρn]at h7;exact hnl h7
    ·rw[hρo m' g1]at h7
     exact g2 ((h.dist m' m b ⟨_,g3⟩ ⟨_,h5⟩ h7 hb)▸hm)
  ·rw[hρo m h1]
   refine QL hk (fun b hb=>hheap b ((h.objs m o1 h3).block_lt hb) fun n hn hbn=>?_) (h.objs m o1 h3)
   obtain⟨o2,h5⟩:=hT n hn
   exact h2 ((h.dist m n b ⟨_,h3⟩ ⟨_,h5⟩ hb hbn)▸hn)
 ·intro s x hs
  rw[JU a d u s (by rw[h.nt];exact hd)]
  simp only[S,lk]at hs
  split at hs
  ·rename_i es
   cases hs
   rw[if_pos es]
   exact hav _ ⟨ob,by simp[S,lk]⟩ hρn
  ·rename_i es
   rw[if_neg es]
   rw[D7]at hs
   simp only[Option.map_eq_some_iff]at hs
   obtain⟨y,hy,rfl⟩:=hs
   exact(Mx (h.env s y hy)).keeps hk
end
/-! ### A range over a map -/
theorem We {w:World} {O:Nat→Prop} {k v:Ty}:∀ {es:List MapEntry} {l:List (k.den×v.den)},I4 w O k v es l→es.length=l.length∧∀(i:Nat) (e:MapEntry),es[i]?=some e→∃x,l[i]?=some x∧BR w O k e.key x.1∧BR w O v e.val x.2
 | [],[],_=>⟨rfl,fun i e h=>by simp at h⟩
 | [],_ :: _,h=>h.elim
 | _ :: _,[],h=>h.elim
 | e :: es,x :: l,⟨h1,h2,h3⟩=>by
  obtain⟨g1,g2⟩:=We h3
  refine⟨by simp[g1],fun i e' h=>?_⟩
  cases i with
  | zero=>simp at h;subst h;exact⟨x,by simp,h1,h2⟩
  | succ i=>simp at h;simpa using g2 i e' h
section
variable {c:Cx} {R:Exit→Act→World→Prop} {k:List DU} {σ:St}
end
end
/- A field of a struct that is a value; the rules of a range over a map in short. -/
section
open Go Go.RowKit
section
variable {c:Cx} {R:Exit→Act→World→Prop} {k:List DU} {σ σ':St}
end
theorem CJ {p:Prop} (h:p:=by first|exact trivial|((try dsimp only[Ty.den])<;>(repeat'(first|apply And.intro|intro _))<;>omega)|((try dsimp only[Ty.den]at *)<;>(repeat'(first|apply And.intro|intro _))<;>omega)):p:=h
end
/- A row with an array of its own; delete on a map, and a map's length. -/
section
open Go Go.RowKit
section
variable {c:Cx} {R:Exit→Act→World→Prop} {k:List DU} {σ σ':St}
theorem mN (hc:c.Ok) {d m len:Nat} {t:TypeId} {x:Operand} {ty:TypeId} {pos:String} {after:Array Edge} {kt e:Ty} {offs:List (Nat×Nat)} {el iet:TypeId} {by':Nat} {y1:AV} {a0:kt.den} {xs:List e.den}
  (hti:lk t c.tb.ty=some ⟨.slice (.agg (.prod kt (.slice e))),offs,el,by'⟩) (hx:Ae σ x=some (.ag [y1,.sr m e 0 len])) (ha0:Dc false σ kt y1=some a0) (hm:lk m σ.objs=some (.arr iet e xs)) (hlen:len=xs.length)
  (hpin:(c.ds.pin.all fun p=>!AX p.1 [m])=true) (hfr:lk d σ.objs=none) (hsz:kt.size+1≤16777216)
  {a:Act} {w:World} {next:Act→World→Prop} {Q:Exit→Act→World→Prop} (hsat:c.sat σ a w) (hdn:d<c.nt)
  (hk:∀a' w',c.sat ⟨(d,.sr d (.agg (.prod kt (.slice e))) 0 1) :: BP [m] σ.env,(d,.nest el iet kt e [(a0,xs)] none) :: Ab [m] [m] σ.objs⟩ a' w'→next a' w') :
  (⟨some d,.buildSlice t 1 #[(0,x)],ty,pos,after,none⟩:Oper).wpIn (FR c.r) 0 c.P a w next Q:=by
 obtain⟨ρ,hsr⟩:=hsat
 have hev:Fy (vw w c.O0 σ ρ) σ a.eval:=Df hsr.env
 obtain⟨hu,hs,te,hte,hty⟩:=B1 (hc.T _ _ hti) hc.T
 obtain⟨z,hz,hzc⟩:=Kd (hc.T _ _ hte) w
 obtain⟨cs,hcs,hcc⟩:=hev x _ hx
 obtain⟨c1,c2,rfl,h1,h2⟩:=hcc
 obtain⟨c3,c4,rfl,h3,h4⟩:=h2
 have h4:c4=[]:=h4
 subst h4
 obtain⟨v3,rfl,_,hL,hv3⟩:=h3
 have hom:=hsr.objs m _ hm
 have hv3:Co (plc (ρ m)) e.size 0 len v3:=hv3
 rw[Mp hom,hlen]at hv3
 have hom2:L9 (vw w c.O0 σ ρ) iet e xs (ρ m):=hom
 obtain⟨hmx,icells,ihow,ihel⟩:=hom
 have hv3:v3=ρ m:=IJ ihow hv3
 subst hv3
 have hr:=Vt (O':=own c.O0 σ ρ) (fun _ h=>h) (fun h=>by cases h) hsr.objs ha0 h1
 have hr:Bi w (own c.O0 σ ρ) kt c1 a0:=hr
 have hl:=hr.length
 have hsize:te.ty.size=kt.size+1:=by rw[hty];rfl
 have hs:=hs w
 rw[show (Ty.agg (.prod kt (.slice e))).size=kt.size+1 from rfl]at hs
 have hcells:(a.eval x).cells.toList=c1++[ρ m]:=by rw[hcs];simp[Value.cells]
 have hrun:Instr.fill (fun i=>some (i*(kt.size+1),kt.size+1)) ((Array.range (1*(kt.size+1))).map (fun i=>z.cells[i % z.cells.size]!)) [(0,a.eval x)]=some (c1++[ρ m]).toArray:=by
  have hcz:(a.eval x).cells.size=kt.size+1:=by rw[←Array.length_toList,hcells];simp[hl]
  rw[Ms (by rw[hcz]) (by rw[hcz];simp)]
  rw[hcells]
  simp only[Instr.fill,Nat.zero_mul,Ap,List.take_zero,List.nil_append,Nat.zero_add]
  rw[List.drop_of_length_le (by simp[hl]),List.append_nil]
 have how:=QI (w:=w) (et:=el) (sz:=kt.size+1) (n:=1) (cells:=(c1++[ρ m]).toArray) (by simp[hl]) (by simp[AO])
 have how:(w.alloc (.cells (c1++[ρ m]).toArray el)).ownsRow 0 el (kt.size+1) (.slice (some ⟨w.heap.size,0,none⟩) 1 1) 1 (c1++[ρ m]):=⟨how.1,how.2.imp (fun h=>h) fun⟨g,cap,cur,e,_,r⟩=>⟨g,cap,cur,e,Nat.zero_le _,r⟩⟩
 have hexec:(Instr.buildSlice t 1 #[(0,a.eval x)]).run c.P w=.ok (.slice (some ⟨w.heap.size,0,none⟩) 1 1) (w.alloc (.cells (c1++[ρ m]).toArray el)):=by
  have hng:¬(1*(kt.size+1) > 16777216):=by omega
  have h0:¬(1*(kt.size+1)=0):=by omega
  simp only[Instr.buildSlice,Sem.run_bind,run_underlying hu,Result.andThen_ok,hs,if_neg hng,if_neg h0,hz,Sem.run_pure,hrun,newRow]
  rfl
 have hmlt:∀b,bk (ρ m) b→b<w.heap.size:=fun b hb=>(hsr.objs m _ hm).block_lt hb
 refine Ai (u:=.slice (some ⟨w.heap.size,0,none⟩) 1 1) (w':=w.alloc (.cells (c1++[ρ m]).toArray el)) (by simp[execOp,hexec]) (hk _ _ ⟨EB ρ d (.tuple (.slice (some ⟨w.heap.size,0,none⟩) 1 1 :: [ρ m]).toArray),?_⟩)
 refine hsr.swap1P hc.K hc.O (tl:=[m]) (w':=w.alloc (.cells (c1++[ρ m]).toArray el)) (u:=.slice (some ⟨w.heap.size,0,none⟩) 1 1) (loc:=.tuple (.slice (some ⟨w.heap.size,0,none⟩) 1 1 :: [ρ m]).toArray) (by simpa using ⟨_,hm⟩) (fun p hp hm=>?_) (.inr hfr) rfl rfl rfl ?_ ?_ ?_ ?_ hdn ?_
 ·have:=(List.all_eq_true.1 hpin) p hp
  rw[(AY _ _).2 hm]at this
  cases this
 ·show w.heap.size≤(w.heap.push _).size
  simp
 ·intro b2 hb2 _
  exact heap_alloc_old w _ hb2
 ·intro b2 hb2
  rcases Az.1 hb2 with hb|⟨i,u,hi,hb⟩
  ·simp[blk]at hb;exact .inr (by omega)
  ·have:u=ρ m:=by
    rcases i with _|i
    ·simpa using hi.symm
    ·simp at hi
   subst this
   exact .inl ⟨m,by simp,.inl hb⟩
 ·intro V' hV hK hown
  refine⟨_,[ρ m],c1++[ρ m],.inl rfl,by simp[AO],rfl,by rw[hV];exact how,fun i x2 u hi hu=>?_,fun i j b u v hi hj hu hv=>?_,fun i b u hi hb hb2=>?_⟩
  ·rcases i with _|i
   ·simp only[List.getElem?_cons_zero,Option.some.injEq]at hi hu
    subst hi hu
    exact⟨c1,ρ m,fun j z hj=>by simpa using hj,hr.mono hK.O hK.heap,.inr ⟨rfl,.inl rfl,L9.keeps (V:=⟨w,own c.O0 σ ρ,fun _=>False,ρ⟩) hK (fun b hb=>by rw[hV];exact heap_alloc_old w _ (hmlt b (.inl hb))) hom2⟩⟩
   ·simp at hi
  ·rcases i with _|i
   ·rcases j with _|j
    ·rfl
    ·simp at hj
   ·simp at hi
  ·rcases i with _|i
   ·simp only[List.getElem?_cons_zero,Option.some.injEq]at hi
    subst hi
    have:=hmlt b (.inl hb)
    simp[blk]at hb2
    omega
   ·simp at hi
 ·intro V' h1 h2
  refine⟨h1,?_⟩
  rw[h2]
  exact E3 how
/-! Maps -/
def Lp (kt vt:Ty) (k:kt.den):List (kt.den×vt.den)→List (kt.den×vt.den)
 | []=>[]
 | x :: r=>if IA kt k x.1=true then r else x :: Lp kt vt k r
theorem Wf {w:World} {O:Nat→Prop} {kt vt:Ty} {k:kt.den}:∀ {es:List MapEntry} {l:List (kt.den×vt.den)},I4 w O kt vt es l→∀i,
  (G8 kt vt k es l i=none∧Lp kt vt k l=l)∨∃(j:Nat) (v:Value),G8 kt vt k es l i=some (i+j,v)∧j<es.length∧I4 w O kt vt (es.eraseIdx j) (Lp kt vt k l)
 | [],[],_,i=>.inl ⟨rfl,rfl⟩
 | [],_ :: _,h,_=>h.elim
 | _ :: _,[],h,_=>h.elim
 | e :: es,x :: l,⟨h1,h2,h3⟩,i=>by
  cases hb:IA kt k x.1 with
  | true =>
   refine .inr ⟨0,e.val,by simp[G8,hb],by simp,?_⟩
   simp only[Lp,hb,if_true,List.eraseIdx_cons_zero]
   exact h3
  | false =>
   rcases Wf (k:=k) h3 (i+1) with ⟨g1,g2⟩|⟨j,v,g1,g2,g3⟩
   ·exact .inl ⟨by simp[G8,hb,g1],by simp[Lp,hb,g2]⟩
   ·refine .inr ⟨j+1,v,?_,by simp;omega,?_⟩
    ·simp only[G8,hb,g1,Bool.false_eq_true,if_false]
     congr 2
     omega
    ·simp only[Lp,hb,Bool.false_eq_true,if_false,List.eraseIdx_cons_succ]
     exact⟨h1,h2,g3⟩
theorem Yp {es:Array MapEntry} {cl:Nat} (h:Nw es cl) (j:Nat):Nw (es.eraseIdxIfInBounds j) cl:=by
 unfold Nw at h ⊢
 rw[Array.toList_eraseIdxIfInBounds]
 have hs:=(List.eraseIdx_sublist es.toList j).map (·.born)
 exact⟨h.1.sublist hs,fun b hb=>h.2 b (hs.subset hb)⟩
theorem Yq (hc:c.Ok) {ops:Array Oper} {rest:List Oper} {n:Nat} {t u:TypeId} {m x:Operand} {ty:TypeId} {pos:String} {after:Array Edge} {kt vt:Ty} {l:List (kt.den×vt.den)} {xv:AV} {kd:kt.den} {kid eid:TypeId}
  (hm:Ae σ m=some (.mp n)) (hx:Ae σ x=some xv) (hn:lk n σ.objs=some (.mapo kt vt l)) (hkx:Iz false σ kt xv=some kd) (hu:c.P.underlying t=some (.map kid eid)) (hr:Qy c.P kid kt)
  (hk:HB c R k ops rest ⟨σ.env,upd n (.mapo kt vt (Lp kt vt kd l)) σ.objs⟩) :
  HB c R k ops (⟨none,.call ⟨.builtin .delete,#[m,x],#[t,u]⟩,ty,pos,after,none⟩ :: rest) σ:=by
 intro hd hko a w hsat
 unfold wpListIn
 rw[if_pos (by simp[Region.wanted])]
 obtain⟨ρ,hsr⟩:=hsat
 have hev:Fy (vw w c.O0 σ ρ) σ a.eval:=Df hsr.env
 obtain⟨hL,b,hρ,hme⟩:=hev m _ hm
 have hρ:ρ n=_:=hρ
 have hxr:=I6 (V:=vw w c.O0 σ ρ) (O':=own c.O0 σ ρ) (fun _ h=>h) (fun h=>by cases h) hsr.objs hkx (hev x _ hx)
 obtain⟨b',es,cl,hloc,hh,hes,hbn⟩:=hsr.objs n _ hn
 rw[hρ]at hloc
 injection hloc with hloc
 injection hloc with hloc
 subst hloc
 have hh:w.heap[b]?=some (.map es cl):=hh
 have hxr:BR w (own c.O0 σ ρ) kt (a.eval x) kd:=hxr
 have hes:I4 w (own c.O0 σ ρ) kt vt es.toList l:=hes
 have hfind:=hr.find hxr hes
 obtain⟨es',hrun,hes',hbn'⟩:∃es':Array MapEntry,(Builtin.delete_ #[t,u] ty #[.map (some b),a.eval x]).run c.P w=.ok (.tuple #[]) { w with heap:=w.heap.setIfInBounds b (.map es' cl) }∧I4 w (own c.O0 σ ρ) kt vt es'.toList (Lp kt vt kd l)∧Nw es' cl:=by
  rcases Wf (k:=kd) hes 0 with ⟨g1,g2⟩|⟨j,v,g1,g2,g3⟩
  ·refine⟨es,?_,by rw[g2];exact hes,hbn⟩
   simp[Builtin.delete_,run_underlying hu,MapKept.run_getObj_map hh,hr.check _ hxr,hfind,g1,MapKept.run_setObj_map _ hh]
  ·refine⟨es.eraseIdxIfInBounds j,?_,by rw[Array.toList_eraseIdxIfInBounds];exact g3,Yp hbn j⟩
   simp[Builtin.delete_,run_underlying hu,MapKept.run_getObj_map hh,hr.check _ hxr,hfind,g1,MapKept.run_setObj_map _ hh]
 refine Ai (u:=.tuple #[]) (w':={ w with heap:=w.heap.setIfInBounds b (.map es' cl) }) (by simp[execOp,resolve,invoke,builtin,hme,hrun]) (hk (fun o ho=>hd o (by simp[ho])) hko _ _ ⟨ρ,?_⟩)
 have hblk:blk (ρ n)=some b:=by rw[hρ];rfl
 have hg:w.grownBy { w with heap:=w.heap.setIfInBounds b (.map es' cl) } (some b) :=
  ⟨rfl,rfl,rfl,by simp,fun i _ hi=>(MapKept.heap_set hh).2 i (fun e=>hi (by rw[e]))⟩
 refine hsr.upd hc.K hn hblk hg ⟨b,es',cl,hρ,(MapKept.heap_set hh).1,?_,hbn'⟩
 exact hes'.mono (fun _ _ h=>h) (fun b2 hlt hO=>hg.block b2 hlt (fun e=>by injection e with e;subst e;exact hO (.inr ⟨n,⟨_,hn⟩,.inl hblk⟩)))
theorem Yr (hc:c.Ok) {ops:Array Oper} {rest:List Oper} {d n:Nat} {t:TypeId} {m:Operand} {ty:TypeId} {pos:String} {after:Array Edge} {kt vt:Ty} {l:List (kt.den×vt.den)} {kid eid:TypeId}
  (hm:Ae σ m=some (.mp n)) (hn:lk n σ.objs=some (.mapo kt vt l)) (hu:c.P.underlying t=some (.map kid eid)) (hl:l.length≤AO)
  (hk:HB c R k ops rest ⟨(d,.p (.int .i64) (l.length:Int)) :: σ.env,σ.objs⟩) :
  HB c R k ops (⟨some d,.call ⟨.builtin .len,#[m],#[t]⟩,ty,pos,after,none⟩ :: rest) σ:=by
 intro hd hko a w hsat
 unfold wpListIn
 rw[if_pos (by simp[Region.wanted])]
 obtain⟨ρ,hsr⟩:=hsat
 have hev:Fy (vw w c.O0 σ ρ) σ a.eval:=Df hsr.env
 have hdn:d<c.nt:=Bh (hd _ List.mem_cons_self) d rfl
 obtain⟨hL,b,hρ,hme⟩:=hev m _ hm
 have hρ:ρ n=_:=hρ
 obtain⟨b',es,cl,hloc,hh,hes,hbn⟩:=hsr.objs n _ hn
 rw[hρ]at hloc
 injection hloc with hloc
 injection hloc with hloc
 subst hloc
 have hh:w.heap[b]?=some (.map es cl):=hh
 have hsz:es.size=l.length:=by rw[←Array.length_toList];exact(We hes).1
 have hrun:(Builtin.len_ #[t] ty #[.map (some b)]).run c.P w=.ok (.int .i64 (l.length:Int)) w:=by
  simp[Builtin.len_,run_underlying hu,MapKept.run_getObj_map hh,goInt,hsz]
 refine Ai (u:=.int .i64 (l.length:Int)) (w':=w) (by simp[execOp,resolve,invoke,builtin,hme,hrun]) (hk (fun o ho=>hd o (by simp[ho])) hko _ _ ⟨ρ,?_⟩)
 refine hsr.add hc.K hc.O (dst:=some d) (fun d' e=>by injection e with e;omega) (v:=.p (.int .i64) (l.length:Int)) (obs:=[]) (ρ':=ρ) rfl (QS.still ?_)
 exact BF (by simp only[AO]at hl;simp only[GQ];omega)
theorem A1E (hc:c.Ok) {ops:Array Oper} {rest:List Oper} {n:Nat} {t u:TypeId} {m x:Operand} {ty:TypeId} {pos:String} {after:Array Edge} {vt:Ty} {ik:IntKind} {l:List (Int×vt.den)} {xv:AV} {kd:Int} {kid eid:TypeId} {σ1:St}
  (hu:c.P.underlying t=some (.map kid eid)) (hu2:c.P.underlying kid=some (.int ik)) (hk:HB c R k ops rest σ1) (hm:Ae σ m=some (.mp n):=by simp only[go_sem,Nat.reduceEqDiff,reduceCtorEq,Nat.reduceAdd,Nat.reduceSub,Nat.reduceMul,Nat.reduceLeDiff,Nat.reduceLT,Int.reduceLE,Int.reduceToNat,Int.reduceNeg,↓reduceIte];rfl) (hx:Ae σ x=some xv:=by simp only[go_sem,Nat.reduceEqDiff,reduceCtorEq,Nat.reduceAdd,Nat.reduceSub,Nat.reduceMul,Nat.reduceLeDiff,Nat.reduceLT,Int.reduceLE,Int.reduceToNat,Int.reduceNeg,↓reduceIte];rfl) (hn:lk n σ.objs=some (.mapo (.int ik) vt l):=by simp only[go_sem,Nat.reduceEqDiff,reduceCtorEq,Nat.reduceAdd,Nat.reduceSub,Nat.reduceMul,Nat.reduceLeDiff,Nat.reduceLT,Int.reduceLE,Int.reduceToNat,Int.reduceNeg,↓reduceIte];rfl) (hkx:Iz false σ (.int ik) xv=some kd:=by simp only[go_sem,Nat.reduceEqDiff,reduceCtorEq,Nat.reduceAdd,Nat.reduceSub,Nat.reduceMul,Nat.reduceLeDiff,Nat.reduceLT,Int.reduceLE,Int.reduceToNat,Int.reduceNeg,↓reduceIte];rfl)
  (hσ:⟨σ.env,upd n (.mapo (.int ik) vt (Lp (.int ik) vt kd l)) σ.objs⟩=σ1:=by simp only[go_sem,Nat.reduceEqDiff,reduceCtorEq,Nat.reduceAdd,Nat.reduceSub,Nat.reduceMul,Nat.reduceLeDiff,Nat.reduceLT,Int.reduceLE,Int.reduceToNat,Int.reduceNeg,↓reduceIte];rfl) :
  HB c R k ops (⟨none,.call ⟨.builtin .delete,#[m,x],#[t,u]⟩,ty,pos,after,none⟩ :: rest) σ:=Yq hc hm hx hn hkx hu (GP rfl hu2) (hσ▸hk)
theorem A1F (hc:c.Ok) {ops:Array Oper} {rest:List Oper} {d n:Nat} {t:TypeId} {m:Operand} {ty:TypeId} {pos:String} {after:Array Edge} {kt vt:Ty} {l:List (kt.den×vt.den)} {kid eid:TypeId}
  (hu:c.P.underlying t=some (.map kid eid)) (hl:l.length≤AO) (hk:HB c R k ops rest ⟨(d,.p (.int .i64) (l.length:Int)) :: σ.env,σ.objs⟩) (hm:Ae σ m=some (.mp n):=by simp only[go_sem,Nat.reduceEqDiff,reduceCtorEq,Nat.reduceAdd,Nat.reduceSub,Nat.reduceMul,Nat.reduceLeDiff,Nat.reduceLT,Int.reduceLE,Int.reduceToNat,Int.reduceNeg,↓reduceIte];rfl) (hn:lk n σ.objs=some (.mapo kt vt l):=by simp only[go_sem,Nat.reduceEqDiff,reduceCtorEq,Nat.reduceAdd,Nat.reduceSub,Nat.reduceMul,Nat.reduceLeDiff,Nat.reduceLT,Int.reduceLE,Int.reduceToNat,Int.reduceNeg,↓reduceIte];rfl) :
  HB c R k ops (⟨some d,.call ⟨.builtin .len,#[m],#[t]⟩,ty,pos,after,none⟩ :: rest) σ:=Yr hc hm hn hu hl hk
end
end
/- Two structs of two numbers compared. -/
section
open Go Go.RowKit
section
variable {c:Cx} {R:Exit→Act→World→Prop} {k:List DU} {σ σ':St}
theorem Ys (hc:c.Ok) {ops:Array Oper} {rest:List Oper} {d:Nat} {t t':TypeId} {x y:Operand} {ty:TypeId} {pos:String} {after:Array Edge} {i j:IntKind} {offs:List (Nat×Nat)} {by':Nat} {xv yv:AV} {dx dy:Int×Int}
  (hti:lk t c.tb.ty=some ⟨.agg (.prod (.int i) (.int j)),offs,0,by'⟩) (hx:Ae σ x=some xv) (hy:Ae σ y=some yv) (hdx:Iz false σ (.agg (.prod (.int i) (.int j))) xv=some dx) (hdy:Iz false σ (.agg (.prod (.int i) (.int j))) yv=some dy)
  (hk:HB c R k ops rest ⟨(d,.p .bool (dx.1==dy.1&&dx.2==dy.2)) :: σ.env,σ.objs⟩) :
  HB c R k ops (⟨some d,.binOp .eql t x y t',ty,pos,after,none⟩ :: rest) σ:=by
 intro hd hko a w hsat
 unfold wpListIn
 rw[if_pos (by simp[Region.wanted])]
 obtain⟨ρ,hsr⟩:=hsat
 have hev:Fy (vw w c.O0 σ ρ) σ a.eval:=Df hsr.env
 have hdn:d<c.nt:=Bh (hd _ List.mem_cons_self) d rfl
 have hp:LH c.P t i j:=(hc.T _ _ hti).1.1.2.2
 have h1:=I6 (V:=vw w c.O0 σ ρ) (O':=own c.O0 σ ρ) (fun _ h=>h) (fun h=>by cases h) hsr.objs hdx (hev x _ hx)
 have h2:=I6 (V:=vw w c.O0 σ ρ) (O':=own c.O0 σ ρ) (fun _ h=>h) (fun h=>by cases h) hsr.objs hdy (hev y _ hy)
 have h1:a.eval x=.agg #[.int i dx.1,.int j dx.2]:=E5 h1
 have h2:a.eval y=.agg #[.int i dy.1,.int j dy.2]:=E5 h2
 have hrun:(binOp .eql t (a.eval x) (a.eval y)).run c.P w=.ok (.bool (dx.1==dy.1&&dx.2==dy.2)) w:=by
  rw[h1,h2]
  have:=Qz hp w dx.1 dx.2 dy.1 dy.2
  simp only[binOp]
  simp[this]
 have hgu:(eqGuard .eql t x y (a.eval x) (a.eval y)).run c.P w=.ok () w:=by
  obtain⟨f0,f1,hu,-,-,⟨h5,h6⟩,-⟩:=hp
  rw[h1,h2]
  refine run_eqGuard_agg (P:=c.P) w .eql t x y _ _ ?_
  have hd2:∃n,c.P.depth=n+2:=⟨_,rfl⟩
  obtain⟨n,hn⟩:=hd2
  rw[hn]
  simp[Program.eqGuardType,hu,h5,h6]
 refine Ai (u:=.bool (dx.1==dy.1&&dx.2==dy.2)) (w':=w) (by simp[execOp,hgu,hrun]) (hk (fun o ho=>hd o (by simp[ho])) hko _ _ ⟨ρ,?_⟩)
 refine hsr.add hc.K hc.O (dst:=some d) (fun d' e=>by injection e with e;omega) (v:=.p .bool (dx.1==dy.1&&dx.2==dy.2)) (obs:=[]) (ρ':=ρ) rfl (QS.still ?_)
 exact⟨[.bool (dx.1==dy.1&&dx.2==dy.2)],rfl,rfl⟩
theorem A1G (hc:c.Ok) {ops:Array Oper} {rest:List Oper} {d:Nat} {t t':TypeId} {x y:Operand} {ty:TypeId} {pos:String} {after:Array Edge} {i j:IntKind} {offs:List (Nat×Nat)} {by':Nat} {xv yv:AV} {dx dy:Int×Int}
  (hk:HB c R k ops rest ⟨(d,.p .bool (dx.1==dy.1&&dx.2==dy.2)) :: σ.env,σ.objs⟩) (hti:lk t c.tb.ty=some ⟨.agg (.prod (.int i) (.int j)),offs,0,by'⟩:=by rfl) (hx:Ae σ x=some xv:=by simp only[go_sem,Nat.reduceEqDiff,reduceCtorEq,Nat.reduceAdd,Nat.reduceSub,Nat.reduceMul,Nat.reduceLeDiff,Nat.reduceLT,Int.reduceLE,Int.reduceToNat,Int.reduceNeg,↓reduceIte];rfl) (hy:Ae σ y=some yv:=by simp only[go_sem,Nat.reduceEqDiff,reduceCtorEq,Nat.reduceAdd,Nat.reduceSub,Nat.reduceMul,Nat.reduceLeDiff,Nat.reduceLT,Int.reduceLE,Int.reduceToNat,Int.reduceNeg,↓reduceIte];rfl)
  (hdx:Iz false σ (.agg (.prod (.int i) (.int j))) xv=some dx:=by simp only[go_sem,Nat.reduceEqDiff,reduceCtorEq,Nat.reduceAdd,Nat.reduceSub,Nat.reduceMul,Nat.reduceLeDiff,Nat.reduceLT,Int.reduceLE,Int.reduceToNat,Int.reduceNeg,↓reduceIte];rfl) (hdy:Iz false σ (.agg (.prod (.int i) (.int j))) yv=some dy:=by simp only[go_sem,Nat.reduceEqDiff,reduceCtorEq,Nat.reduceAdd,Nat.reduceSub,Nat.reduceMul,Nat.reduceLeDiff,Nat.reduceLT,Int.reduceLE,Int.reduceToNat,Int.reduceNeg,↓reduceIte];rfl) :
  HB c R k ops (⟨some d,.binOp .eql t x y t',ty,pos,after,none⟩ :: rest) σ:=Ys hc hti hx hy hdx hdy hk
end
end
/- A row with an array of its own, among operations that float. -/
section
open Go Go.RowKit
section
variable {c:Cx} {σ:St} {ens:EN} {N:St→Prop}
theorem Yt (hc:c.Ok) {d m len:Nat} {t:TypeId} {x:Operand} {ty:TypeId} {pos:String} {after:Array Edge} {kt e:Ty} {offs:List (Nat×Nat)} {el iet:TypeId} {by':Nat} {y1:AV} {a0:kt.den} {xs:List e.den}
  (hti:lk t c.tb.ty=some ⟨.slice (.agg (.prod kt (.slice e))),offs,el,by'⟩) (hx:Ae σ x=some (.ag [y1,.sr m e 0 len])) (ha0:Dc false σ kt y1=some a0) (hm:lk m σ.objs=some (.arr iet e xs)) (hlen:len=xs.length)
  (hpin:(c.ds.pin.all fun p=>!AX p.1 [m])=true) (hfr:lk d σ.objs=none) (hsz:kt.size+1≤16777216)
  (hsl:Jh ⟨some d,.buildSlice t 1 #[(0,x)],ty,pos,after,none⟩ ens=true) (hn:Il [m] σ.objs ens=true) (hf:HD [m] ens=ens) (hfb:NC [(d,.nest el iet kt e [(a0,xs)] none)] ens=true) (hd:d<c.nt)
  (hN:N ⟨(d,.sr d (.agg (.prod kt (.slice e))) 0 1) :: BP [m] σ.env,(d,.nest el iet kt e [(a0,xs)] none) :: Ab [m] [m] σ.objs⟩) :
  VB c ⟨some d,.buildSlice t 1 #[(0,x)],ty,pos,after,none⟩ σ ens N:=by
 intro X σ' hx' hin a w next Q hsat hnx
 have henv:∀s v,lk s X.env=some v→v.fgt [m]=v:=fun s v hs=>by
  obtain⟨obs,hm⟩:=hin.env s v hs
  exact MM hf _ hm
 have hobs:YJ σ σ':=by
  intro n o hno
  rw[hx'.objs]
  cases hX:lk n X.objs with
  | none=>exact hno
  | some o' =>
   obtain⟨e,he,hp⟩:=hin.objs n o' hX
   rw[(FC hn e he _ hp).1]at hno;cases hno
 have hnh:∀n o,lk n X.objs=some o→n ∉ [m]:=fun n o ho=>by
  obtain⟨e,he,hp⟩:=hin.objs n o ho
  exact(FC hn e he _ hp).2.1
 have hXs:∀t∈[x].filterMap KE,lk t X.env=none:=fun t ht=>by
  cases hX:lk t X.env with
  | none=>rfl
  | some v =>
   obtain⟨obs,hm⟩:=hin.env t v hX
   refine absurd ?_ (EO hsl _ hm).1
   simpa[Fe,Op.operands] using ht
 have hXd:lk d X.env=none:=by
  cases hX:lk d X.env with
  | none=>rfl
  | some v=>obtain⟨obs,hm⟩:=hin.env d v hX;exact absurd rfl (EO hsl _ hm).2
 have hXo:lk d X.objs=none:=by
  cases hX:lk d X.objs with
  | none=>rfl
  | some u =>
   obtain⟨e,he,hp⟩:=hin.objs d u hX
   have:=Ji hfb e he _ hp
   simp[lk]at this
 have hops:=QV hx' hXs
 refine mN hc (xs:=xs) (a0:=a0) hti (by rw[hops x (by simp)];exact hx) (HT hobs ha0) (hobs m _ hm) hlen hpin (by rw[hx'.objs,hXo,hfr];rfl) hsz hsat hd fun a' w' hs'=>hnx _ hN a' w' _ ⟨fun s=>?_,fun n=>?_⟩ hs'
 ·have hfe:lk s (BP [m] σ'.env)=(lk s X.env).or (lk s (BP [m] σ.env)):=by
   rw[D7,D7,hx'.env]
   cases hX:lk s X.env with
   | none=>rfl
   | some v=>simp[henv s v hX]
  simp only[lk]
  by_cases hsd:s=d
  ·rw[if_pos hsd,if_pos hsd,hsd,hXd];rfl
  ·rw[if_neg hsd,if_neg hsd];exact hfe
 ·simp only[lk,BU,hx'.objs]
  by_cases hnd:n=d
  ·rw[if_pos hnd,if_pos hnd,hnd,hXo];rfl
  ·rw[if_neg hnd,if_neg hnd]
   cases hX:lk n X.objs with
   | none=>simp
   | some u =>
    have h4:Kn u=true:=by
     obtain⟨e,he,hp⟩:=hin.objs n u hX
     exact(FC hn e he _ hp).2.2
    have h3:¬AX n [m]=true:=fun h=>hnh n _ hX ((AY _ _).1 h)
    rw[if_neg h3]
    exact congrArg some (Ta h4)
theorem A1H (hc:c.Ok) {d m len:Nat} {t:TypeId} {x:Operand} {ty:TypeId} {pos:String} {after:Array Edge} {kt e:Ty} {offs:List (Nat×Nat)} {el iet:TypeId} {by':Nat} {y1:AV} {a0:kt.den} {xs:List e.den} {τ:St}
  (hlen:len=xs.length) (hN:N τ) (hx:Ae σ x=some (.ag [y1,.sr m e 0 len]):=by simp only[go_sem,Nat.reduceEqDiff,reduceCtorEq,Nat.reduceAdd,Nat.reduceSub,Nat.reduceMul,Nat.reduceLeDiff,Nat.reduceLT,Int.reduceLE,Int.reduceToNat,Int.reduceNeg,↓reduceIte];rfl) (hti:lk t c.tb.ty=some ⟨.slice (.agg (.prod kt (.slice e))),offs,el,by'⟩:=by rfl) (ha0:Dc false σ kt y1=some a0:=by simp only[go_sem,Nat.reduceEqDiff,reduceCtorEq,Nat.reduceAdd,Nat.reduceSub,Nat.reduceMul,Nat.reduceLeDiff,Nat.reduceLT,Int.reduceLE,Int.reduceToNat,Int.reduceNeg,↓reduceIte];rfl) (hm:lk m σ.objs=some (.arr iet e xs):=by simp only[go_sem,Nat.reduceEqDiff,reduceCtorEq,Nat.reduceAdd,Nat.reduceSub,Nat.reduceMul,Nat.reduceLeDiff,Nat.reduceLT,Int.reduceLE,Int.reduceToNat,Int.reduceNeg,↓reduceIte];rfl)
  (hpin:(c.ds.pin.all fun p=>!AX p.1 [m])=true:=by rfl) (hfr:lk d σ.objs=none:=by simp only[go_sem,Nat.reduceEqDiff,reduceCtorEq,Nat.reduceAdd,Nat.reduceSub,Nat.reduceMul,Nat.reduceLeDiff,Nat.reduceLT,Int.reduceLE,Int.reduceToNat,Int.reduceNeg,↓reduceIte]) (hsz:kt.size+1≤16777216:=by decide)
  (hsl:Jh ⟨some d,.buildSlice t 1 #[(0,x)],ty,pos,after,none⟩ ens=true:=by rfl) (hn:Il [m] σ.objs ens=true:=by rfl) (hf:HD [m] ens=ens:=by simp only[go_sem,Nat.reduceEqDiff,reduceCtorEq,Nat.reduceAdd,Nat.reduceSub,Nat.reduceMul,Nat.reduceLeDiff,Nat.reduceLT,Int.reduceLE,Int.reduceToNat,Int.reduceNeg,↓reduceIte]) (hfb:NC [(d,.nest el iet kt e [(a0,xs)] none)] ens=true:=by rfl) (hd:IK c.nt ⟨some d,.buildSlice t 1 #[(0,x)],ty,pos,after,none⟩=true:=by rfl)
  (hσ:⟨(d,.sr d (.agg (.prod kt (.slice e))) 0 1) :: BP [m] σ.env,(d,.nest el iet kt e [(a0,xs)] none) :: Ab [m] [m] σ.objs⟩=τ:=by simp only[go_sem,Nat.reduceEqDiff,reduceCtorEq,Nat.reduceAdd,Nat.reduceSub,Nat.reduceMul,Nat.reduceLeDiff,Nat.reduceLT,Int.reduceLE,Int.reduceToNat,Int.reduceNeg,↓reduceIte];rfl) :
  VB c ⟨some d,.buildSlice t 1 #[(0,x)],ty,pos,after,none⟩ σ ens N:=Yt hc hti hx ha0 hm hlen hpin hfr hsz hsl hn hf hfb (Bh hd d rfl) (hσ▸hN)
end
end
/- A row's own array lent to a function with a closure. -/
section
open Go Go.RowKit
def Yu:AV→Bool
 | .p t _=>t.flat
 | _=>false
theorem Te {V V':Vw}:∀ {fs:List AV} {cs:List Value},fs.all Yu=true→DF V fs cs→DF V' fs cs
 | [],_,_,h=>h
 | x :: r,cs,hf,h=>by
  rw[List.all_cons,Bool.and_eq_true]at hf
  obtain⟨c1,c2,rfl,h1,h2⟩:=h
  refine⟨c1,c2,rfl,?_,Te hf.2 h2⟩
  cases x with
  | p t d=>exact I7 hf.1 h1
  | _=>cases hf.1
section
variable {c:Cx} {R:Exit→Act→World→Prop} {k:List DU} {σ:St}
theorem mO (hc:c.Ok) {ops:Array Oper} {rest:List Oper} {d:Nat} {g x y:Operand} {ts:Array TypeId} {ty:TypeId} {pos:String} {after:Array Edge} {f q:FuncId} {n m i len:Nat} {e kt:Ty} {et iet bt:TypeId} {N:List (kt.den×List e.den)} {st:Bool} {fs:List AV} {row:List e.den} {bb:Bool}
  (hM:BO c.P f [.p (.slice e) row,.clo q [1]] [(1,.box bt st fs)] [1] (fun res objs'=>res=.p .bool bb∧objs'=[(1,.box bt st fs)]))
  (hg:Ae σ g=some (.fn f)) (hx:Ae σ x=some (.nin n e i len)) (hy:Ae σ y=some (.clo q [m])) (hn:lk n σ.objs=some (.nest et iet kt e N none)) (hrow:(N.getD i (kt.dflt,[])).2=row) (hm:lk m σ.objs=some (.box bt st fs)) (hfl:fs.all Yu=true)
  (hk:HB c R k ops rest ⟨(d,.p .bool bb) :: σ.env,σ.objs⟩) :
  HB c R k ops (⟨some d,.call ⟨.value g,#[x,y],ts⟩,ty,pos,after,none⟩ :: rest) σ:=by
 intro hd hko a w hsat
 unfold wpListIn
 rw[if_pos (by simp[Region.wanted])]
 obtain⟨ρ,hsr⟩:=hsat
 have hdn:∀d',some d=some d'→d'<c.nt:=fun d' h=>Bh (hd _ List.mem_cons_self) d' h
 have hev:Fy (vw w c.O0 σ ρ) σ a.eval:=Df hsr.env
 obtain⟨⟨fn,hfn,hname,hbody⟩,hM⟩:=hM
 have hge:a.eval g=.func (.func f) #[] #[]:=hev g _ hg
 obtain⟨-,vs,ad,cp,u0,hvs,hvi,hlv,hxe⟩:=hev x _ hx
 obtain⟨hye,hyc⟩:=hev y _ hy
 have hlm:GN σ m:=⟨_,hm⟩
 have hln:GN σ n:=⟨_,hn⟩
 have hnm:n≠m:=fun e=>by rw[e,hm]at hn;cases hn
 let objs:List (Nat×Obj):=[(1,.box bt st fs)]
 let ρc:Nat→Value:=fun _=>ρ m
 let Kc:Nat→Prop:=fun b=>b<w.heap.size∧¬bk (ρ m) b
 have hown:∀b,own (fun _=>False) ⟨[],objs⟩ ρc b→bk (ρ m) b:=by
  rintro b (h|⟨n',-,h⟩)
  ·exact h.elim
  ·exact h
 have hbox:∀ {V V':Vw} {loc:Value},V'.w=V.w→Aw V (.box bt st fs) loc→Aw V' (.box bt st fs) loc:=by
  rintro V V' loc hw ⟨h0,b,cs,hl,hh,hcs⟩
  exact⟨h0,b,cs,hl,by rw[hw];exact hh,Te hfl hcs⟩
 have hmem:Yi Kc (fun _=>False) objs ρc w:=by
  refine⟨fun n' o ho=>?_,fun n' b _ hb=>⟨fun hK=>hK.2 hb,fun h=>h⟩,fun n1 n2 b h1 h2 _ _=>?_⟩
  ·simp only[objs,lk]at ho
   split at ho
   ·cases ho
    exact hbox (V:=vw w c.O0 σ ρ) rfl (hsr.objs m _ hm)
   ·cases ho
  ·obtain⟨o1,h1⟩:=h1
   obtain⟨o2,h2⟩:=h2
   simp only[objs,lk]at h1 h2
   split at h1
   ·split at h2
    ·rename_i e1 e2;rw[e1,e2]
    ·cases h2
   ·cases h1
 have hrep:Bi w (own (fun _=>False) ⟨[],objs⟩ ρc) (.slice e) [a.eval x] row:=by
  have hgr:N[i]?=some (N.getD i (kt.dflt,[])):=by
   exact QH (hsr.objs n _ hn) hvs hvi
  rw[←hrow]
  refine Zt (V:=vw w c.O0 σ ρ) (fun b hb h=>hb (.inr ⟨m,hlm,hown b h⟩)) (fun b hb h=>?_) (hsr.objs n _ hn) hvs hvi hlv hgr
  exact hnm (hsr.dist n m b hln hlm hb (hown b h))
 have hav:IB (vw w (fun _=>False) ⟨[],objs⟩ ρc) [.p (.slice e) row,.clo q [1]] [a.eval x,a.eval y]:=by
  refine⟨_,_,rfl,⟨_,hrep,rfl⟩,_,_,rfl,⟨hye,fun n' hn'=>?_⟩,rfl⟩
  have:n'=1:=List.mem_singleton.1 hn'
  subst this
  exact⟨⟨_,rfl⟩,(hyc m (by simp)).2⟩
 have hcall:=hM w Kc (fun _=>False) ρc [a.eval x,a.eval y] (fun b hb=>hb.1) (fun b hb=>hb.elim) hmem hav
 have hrun:(execOp a.eval ⟨some d,.call ⟨.value g,#[x,y],ts⟩,ty,pos,after,none⟩).run c.P w=.ok (.enter f [a.eval x,a.eval y].toArray) w:=by
  have g1 : ¬ fn.name = "runtime.NumGoroutine" := by simpa using hname
  have g2:¬fn.body=none:=by intro e;simp[e]at hbody
  simp[execOp,resolve,Deferred.ofValue,hge,invoke,callFunc,hfn,g1,g2]
 refine⟨fun _ _=>trivial,?_⟩
 rw[E6 _ _ _ (fun cl e=>by cases e),hrun,Oper.uponIn_enter]
 refine⟨fun h=>(by simp[FR]at h),JY (hcall.mono fun e w' hh=>?_)⟩
 obtain⟨u,rfl,res,objs',ρ',⟨rfl,rfl⟩,hfrm,hmem',hres,hstay⟩:=hh
 have hst:ρ' 1=ρ m:=hstay 1 (by simp)
 have hkeep:CB (vw w c.O0 σ ρ) (vw w' c.O0 ⟨(d,.p .bool bb) :: σ.env,σ.objs⟩ ρ):=by
  refine⟨fun b _ hb=>hb,fun n' h=>h,fun _ _=>rfl,fun b hlt hb=>hfrm.block b ⟨hlt,fun h=>hb (.inr ⟨m,hlm,h⟩)⟩⟩
 have hKK:∀b,c.K b→Kc b:=fun b hb=>⟨Nat.lt_of_lt_of_le (hc.K b hb) hsr.frm.size,fun h=>(hsr.free m b hlm h).1 hb⟩
 refine hk (fun o ho=>hd o (by simp[ho])) hko _ _ ⟨ρ,⟨hfrm.os.trans hsr.frm.os,hfrm.tape.trans hsr.frm.tape,hfrm.output.trans hsr.frm.output,Nat.le_trans hsr.frm.size hfrm.size,fun b hb=>(hfrm.block b (hKK b hb)).trans (hsr.frm.block b hb)⟩,by rw[I5];exact hsr.nt,by rw[GA];exact hsr.defers,hsr.pin,fun n' o ho=>?_,hsr.free,hsr.dist,fun s v hsv=>?_⟩
 ·by_cases hnn:n'=m
  ·subst hnn
   have ho:lk n' σ.objs=some o:=ho
   rw[hm]at ho
   cases ho
   have h1:=hmem'.obj 1 _ rfl
   rw[hst]at h1
   exact hbox (V:=vw w' (fun _=>False) ⟨[],objs⟩ ρ') (V':=vw w' c.O0 ⟨(d,.p .bool bb) :: σ.env,σ.objs⟩ ρ) rfl h1
  ·refine Aw.keeps hkeep (fun b hb=>?_) (hsr.objs n' o ho)
   exact hfrm.block b ⟨(hsr.objs n' o ho).block_lt hb,fun h=>hnn (hsr.dist n' m b ⟨o,ho⟩ hlm hb h)⟩
 ·refine aF (c:=c) (dst:=some d) (res:=.p .bool bb) hsr.nt hdn ?_ (fun s v hv=>(hsr.env s v hv).keeps hkeep) hsv
  obtain⟨cs,h1,h2⟩:=hres
  exact⟨cs,I7 rfl h1,h2⟩
theorem A1I (hc:c.Ok) {ops:Array Oper} {rest:List Oper} {d:Nat} {g x y:Operand} {ts:Array TypeId} {ty:TypeId} {pos:String} {after:Array Edge} {f q:FuncId} {n m i len:Nat} {e kt:Ty} {et iet bt:TypeId} {N:List (kt.den×List e.den)} {st:Bool} {fs:List AV} {row:List e.den} {bb:Bool}
  (hM:BO c.P f [.p (.slice e) row,.clo q [1]] [(1,.box bt st fs)] [1] (fun res objs'=>res=.p .bool bb∧objs'=[(1,.box bt st fs)])) (hrow:(N.getD i (kt.dflt,[])).2=row)
  (hk:HB c R k ops rest ⟨(d,.p .bool bb) :: σ.env,σ.objs⟩) (hg:Ae σ g=some (.fn f):=by simp only[go_sem,Nat.reduceEqDiff,reduceCtorEq,Nat.reduceAdd,Nat.reduceSub,Nat.reduceMul,Nat.reduceLeDiff,Nat.reduceLT,Int.reduceLE,Int.reduceToNat,Int.reduceNeg,↓reduceIte]<;>rfl) (hx:Ae σ x=some (.nin n e i len):=by simp only[go_sem,Nat.reduceEqDiff,reduceCtorEq,Nat.reduceAdd,Nat.reduceSub,Nat.reduceMul,Nat.reduceLeDiff,Nat.reduceLT,Int.reduceLE,Int.reduceToNat,Int.reduceNeg,↓reduceIte];rfl) (hy:Ae σ y=some (.clo q [m]):=by simp only[go_sem,Nat.reduceEqDiff,reduceCtorEq,Nat.reduceAdd,Nat.reduceSub,Nat.reduceMul,Nat.reduceLeDiff,Nat.reduceLT,Int.reduceLE,Int.reduceToNat,Int.reduceNeg,↓reduceIte];rfl)
  (hn:lk n σ.objs=some (.nest et iet kt e N none):=by simp only[go_sem,Nat.reduceEqDiff,reduceCtorEq,Nat.reduceAdd,Nat.reduceSub,Nat.reduceMul,Nat.reduceLeDiff,Nat.reduceLT,Int.reduceLE,Int.reduceToNat,Int.reduceNeg,↓reduceIte];rfl) (hm:lk m σ.objs=some (.box bt st fs):=by simp only[go_sem,Nat.reduceEqDiff,reduceCtorEq,Nat.reduceAdd,Nat.reduceSub,Nat.reduceMul,Nat.reduceLeDiff,Nat.reduceLT,Int.reduceLE,Int.reduceToNat,Int.reduceNeg,↓reduceIte]<;>rfl) (hfl:fs.all Yu=true:=by rfl) :
  HB c R k ops (⟨some d,.call ⟨.value g,#[x,y],ts⟩,ty,pos,after,none⟩ :: rest) σ:=mO hc hM hg hx hy hn hrow hm hfl hk
end
end
end Go.Proofs.YtdapahgnpbehbaaGreat.Fw
