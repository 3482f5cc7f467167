/-
 The walk's frame: a way of stepping through a function's code in which the frame is known by a list of slots and the memory by facts; plain laws, over any program. No condition.
 The walk's single operations: what each yields, over any program; the words for memory (a slice of bytes that reads as a list; a row of one's own; a block known whole). Plain laws. No condition.
 Words for memory (a slice that reads as a list of cells; a row of one's own; a block known whole; what a step may have changed) and the operations that read, make and write memory, over any program. Plain laws. No condition.
 The walk's operations that make and write memory, and calls, over any program. Plain laws. No condition.
 The row's law, once for all: a function whose contract says 'true, and what was there is as it was' answers a row 'it returns true; the input reads as it did'. And the arguments, opened. Plain laws over any program. No condition.
 Plain mathematics: numbers in groups of seven bits, as lists of bytes. No program in sight. No condition.
-/
import Derived.WalkKit
import Derived.WalkSpells
import Derived.WalkLawsBesides
import Derived.Orders
import Derived.Maps.AppendAt
import Derived.Deep.AppendLies
import Derived.Deep.Draws
import Derived.Laws.BytesArg
import Derived.Laws.MakeOwn
import Derived.Laws.OwnMore
import Derived.Lib.SlBytesConst
import Derived.Lib.ConvBytes
import Derived.OwnWalk
import Derived.ProofKit
import Derived.SizedLaws
import Derived.Carry
import Derived.Laws.BitsAllLaws
namespace Go.Proofs.YtiighkbehiddkaaGreat
set_option linter.unusedVariables false
open Go.RowKit
abbrev Env:=List (Nat×Value)
def Env.get:Env→Nat→Option Value
 |[],_=>none
 |(j,v)::L,i=>bif Nat.beq j i then some v else Env.get L i
def ev (L:Env):Operand→Option Value
 | .tmp t=>L.get t
 | .const v=>some v
 | .global g=>some (.pointer (some ⟨g,0,none⟩))
 | .func f=>some (.func (.func f) #[] #[])
def AH (L:Env):List Operand→Option (List Value)
 |[]=>some []
 |x::xs=>match ev L x,AH L xs with
  |some v,some vs=>some (v::vs)
  |_,_=>none
/-- A frame's size, and the calls that are deferred in it. -/
structure Nd where
 n:Nat
 ds:List Deferred
structure Agree (a:Act) (n:Nd) (L:Env):Prop where
 size:a.tmps.size=n.n
 defers:a.defers=n.ds
 get:∀i v,L.get i=some v→a.tmps.getD i undef=v
theorem Env.get_cons (j:Nat) (v:Value) (L:Env) (i:Nat):Env.get ((j,v)::L) i=if j=i then some v else L.get i:=by
 simp only[Env.get]
 by_cases h:j=i
 ·subst h;simp
 ·have:Nat.beq j i=false:=by
   cases hb:Nat.beq j i with
   |false=>rfl
   |true=>exact absurd (Nat.eq_of_beq_eq_true hb) h
  simp[this,h]
section
variable {a:Act} {n:Nd} {L L':Env} {x:Operand} {v:Value}
theorem Agree.eval (h:Agree a n L) (hx:ev L x=some v):a.eval x=v:=by
 cases x with
 |tmp t=>exact h.get t v hx
 |const c=>simpa [ev,Act.eval] using hx
 |global g=>simpa [ev,Act.eval] using hx
 |func f=>simpa [ev,Act.eval] using hx
theorem Agree.evals (h:Agree a n L):∀{xs:List Operand} {vs:List Value},AH L xs=some vs→xs.map a.eval=vs
 |[],vs,e=>by simp only[AH,Option.some.injEq] at e;subst e;rfl
 |x::xs,vs,e=>by
  simp only[AH] at e
  cases hx:ev L x with
  |none=>simp[hx] at e
  |some v=>
   cases hy:AH L xs with
   |none=>simp[hx,hy] at e
   |some ws=>
    simp only[hx,hy,Option.some.injEq] at e
    subst e
    simp[h.eval hx,h.evals hy]
theorem Agree.put (h:Agree a n L) {d:Nat} (hd:d<n.n) (v:Value):Agree (a.put (some d) v) n ((d,v)::L):=by
 refine⟨by simp[Act.put,h.size],by simpa [Act.put] using h.defers,fun i u hu=>?_⟩
 rw[Env.get_cons] at hu
 by_cases e:d=i
 ·subst e
  simp only[if_true,Option.some.injEq] at hu
  subst hu
  have gf:d<a.tmps.size:=by rw[h.size];exact hd
  simp[Act.put,gf]
 ·rw[if_neg e] at hu
  have:=h.get i u hu
  simp only[Act.put,Array.getD_eq_getD_getElem?,Array.getElem?_setIfInBounds_ne e] at this ⊢
  exact this
theorem Agree.sub (h:Agree a n L) (hs:∀i v,L'.get i=some v→L.get i=some v):Agree a n L':=
 ⟨h.size,h.defers,fun i v hv=>h.get i v (hs i v hv)⟩
theorem Agree.yield (h:Agree a n L) {ops:Array Oper} {j d:Nat} {b:Bool} (hj:(ops[j]?).bind (·.dst)=some d) (hv:L.get d=some (.bool b)):yielded ops a.tmps j=some b:=by
 have h1:=h.get d _ hv
 have h2:a.tmps[d]?=some (.bool b):=by
  rw[Array.getD_eq_getD_getElem?] at h1
  cases hc:a.tmps[d]? with
  |none=>rw[hc] at h1;simp[undef] at h1
  |some u=>rw[hc] at h1;simpa using h1
 simp[yielded,hj,h2]
end
/-- L' holds no more than L: one by one. -/
def Env.sub (L:Env):Env→Prop
 |[]=>True
 |(i,v)::L'=>L.get i=some v∧L.sub L'
theorem Env.sub_get {L:Env}:∀{L':Env},L.sub L'→∀i v,L'.get i=some v→L.get i=some v
 |[],_,i,v,h=>by simp[Env.get] at h
 |(j,u)::L',hs,i,v,h=>by
  rw[Env.get_cons] at h
  split at h
  ·rename_i e;subst e;simp only[Option.some.injEq] at h;subst h;exact hs.1
  ·exact Env.sub_get hs.2 i v h
/-- An operation yields a value and a world. -/
def OpRun (P:Program) (o:Oper) (L:Env) (w:World) (Post:Value→World→Prop):Prop:=
 ∀(a:Act) (n:Nd) (K:Act→World→Prop) (Q:Exit→Act→World→Prop),Agree a n L→(∀v w',Post v w'→K (a.put o.dst v) w')→o.wp P a w K Q
/-- An operation yields a known value and leaves the world. -/
abbrev db (P:Program) (o:Oper) (L:Env) (w:World) (c:Value):Prop:=OpRun P o L w fun v w'=>v=c∧w'=w
/-- A call returns a value. -/
def CQ (Post:Value→World→Prop) (e:Ending) (w:World):Prop:=∃v,e=.returned v∧Post v w
/-- A function, called, returns a value with Post. -/
def Fn (P:Program) (f:FuncId) (args:Array Value) (w:World) (Post:Value→World→Prop):Prop:=Calls P f args w (CQ Post)
section
variable {P:Program} {o:Oper} {L:Env} {w:World} {Post:Value→World→Prop}
theorem eX (h:∀ρ:Operand→Value,(∀x v,ev L x=some v→ρ x=v)→(∀xs vs,AH L xs=some vs→xs.map ρ=vs)→∃v w',(execOp ρ o).run P w=.ok (.value v) w'∧Post v w'):OpRun P o L w Post:=by
 intro a n K Q ha hk
 obtain⟨v,w',hr,hp⟩:=h a.eval (fun x v hx=>ha.eval hx) (fun xs vs hx=>ha.evals hx)
 unfold Oper.wp
 rw[hr]
 exact hk v w' hp
theorem cf {c:Value} (h:∀ρ:Operand→Value,(∀x v,ev L x=some v→ρ x=v)→(∀xs vs,AH L xs=some vs→xs.map ρ=vs)→(execOp ρ o).run P w=.ok (.value c) w):db P o L w c:=
 eX fun ρ h1 h2=>⟨c,w,h ρ h1 h2,rfl,rfl⟩
theorem iM (h:∀ρ:Operand→Value,(∀x v,ev L x=some v→ρ x=v)→(∀xs vs,AH L xs=some vs→xs.map ρ=vs)→∃w',(execOp ρ o).run P w=.ok .skip w'∧Post undef w'):OpRun P o L w Post:=by
 intro a n K Q ha hk
 obtain⟨w',hr,hp⟩:=h a.eval (fun x v hx=>ha.eval hx) (fun xs vs hx=>ha.evals hx)
 unfold Oper.wp
 rw[hr]
 exact hk undef w' hp
theorem OpRun.mono {Post':Value→World→Prop} (h:OpRun P o L w Post) (hp:∀v w',Post v w'→Post' v w'):OpRun P o L w Post':=
 fun a n K Q ha hk=>h a n K Q ha fun v w' hv=>hk v w' (hp v w' hv)
theorem Fn.mono {f:FuncId} {args:Array Value} {Post':Value→World→Prop} (h:Fn P f args w Post) (hp:∀v w',Post v w'→Post' v w'):Fn P f args w Post':=
 Calls.mono h fun _ w' ⟨v,he,hv⟩=>⟨v,he,hp v w' hv⟩
end
/-! Lists of operations, pieces of code. -/
def WL (P:Program) (ops:Array Oper) (Q:Exit→Act→World→Prop) (rest:List Oper) (n:Nd) (L:Env) (w:World):Prop:=∀a,Agree a n L→wpList P ops Q rest a w
def WC (P:Program) (c:Code) (Q:Exit→Act→World→Prop) (n:Nd) (L:Env) (w:World):Prop:=∀a,Agree a n L→c.wp P Q a w
section
variable {P:Program} {ops:Array Oper} {Q:Exit→Act→World→Prop} {o:Oper} {rest:List Oper} {n:Nd} {L:Env} {w:World}
theorem ar {Post:Value→World→Prop} {d:Nat} (hr:OpRun P o L w Post) (k:∀v w',Post v w'→WL P ops Q rest n ((d,v)::L) w') (hg:o.guard=none:=by exact rfl) (hd:o.dst=some d:=by exact rfl) (hn:Nat.blt d n.n=true:=by exact rfl):WL P ops Q (o::rest) n L w:=by
 intro a ha
 refine wpList_plain hg fun K hK=>hr a n K Q ha fun v w' hp=>hK _ _ (k v w' hp _ ?_)
 rw[hd]
 exact ha.put (Nat.le_of_ble_eq_true hn) v
theorem aB {Post:Value→World→Prop} (hr:OpRun P o L w Post) (k:∀v w',Post v w'→WL P ops Q rest n L w') (hg:o.guard=none:=by exact rfl) (hd:o.dst=none:=by exact rfl):WL P ops Q (o::rest) n L w:=by
 intro a ha
 refine wpList_plain hg fun K hK=>hr a n K Q ha fun v w' hp=>hK _ _ (k v w' hp _ ?_)
 rw[hd]
 exact ha
theorem ab {c:Value} {d:Nat} (hr:db P o L w c) (k:WL P ops Q rest n ((d,c)::L) w) (hg:o.guard=none:=by exact rfl) (hd:o.dst=some d:=by exact rfl) (hn:Nat.blt d n.n=true:=by exact rfl):WL P ops Q (o::rest) n L w:=
 ar hr (hg:=hg) (hd:=hd) (hn:=hn) fun v w' ⟨hv,hw⟩=>by subst hv;subst hw;exact k
theorem bP {Post:Value→World→Prop} {d j dj:Nat} {b:Bool} (hr:OpRun P o L w Post) (k:∀v w',Post v w'→WL P ops Q rest n ((d,v)::L) w') (hg:o.guard=some (j,b):=by exact rfl) (hj:(ops[j]?).bind (·.dst)=some dj:=by exact rfl) (hb:L.get dj=some (.bool b):=by exact rfl) (hd:o.dst=some d:=by exact rfl) (hn:Nat.blt d n.n=true:=by exact rfl):WL P ops Q (o::rest) n L w:=by
 intro a ha
 refine wpList_step fun K hK=>?_
 rw[if_pos (by simp[Region.wanted,hg,ha.yield hj hb])]
 refine hr a n K Q ha fun v w' hp=>hK _ _ (k v w' hp _ ?_)
 rw[hd]
 exact ha.put (Nat.le_of_ble_eq_true hn) v
theorem aj {c:Value} {d j dj:Nat} {b:Bool} (hr:db P o L w c) (k:WL P ops Q rest n ((d,c)::L) w) (hg:o.guard=some (j,b):=by exact rfl) (hj:(ops[j]?).bind (·.dst)=some dj:=by exact rfl) (hb:L.get dj=some (.bool b):=by exact rfl) (hd:o.dst=some d:=by exact rfl) (hn:Nat.blt d n.n=true:=by exact rfl):WL P ops Q (o::rest) n L w:=
 bP hr (hg:=hg) (hj:=hj) (hb:=hb) (hd:=hd) (hn:=hn) fun v w' ⟨hv,hw⟩=>by subst hv;subst hw;exact k
theorem aA {d j dj:Nat} {b c:Bool} (k:WL P ops Q rest n ((d,undef)::L) w) (hg:o.guard=some (j,b):=by exact rfl) (hj:(ops[j]?).bind (·.dst)=some dj:=by exact rfl) (hb:L.get dj=some (.bool c):=by exact rfl) (eB:c= !b:=by exact rfl) (hd:o.dst=some d:=by exact rfl) (hn:Nat.blt d n.n=true:=by exact rfl):WL P ops Q (o::rest) n L w:=by
 intro a ha
 refine wpList_step fun K hK=>?_
 rw[if_neg (by simp[Region.wanted,hg,ha.yield hj hb,eB])]
 refine hK _ _ (k _ ?_)
 rw[hd]
 exact ha.put (Nat.le_of_ble_eq_true hn) undef
theorem cN {d j dj:Nat} {b:Bool} (k:WL P ops Q rest n ((d,undef)::L) w) (hg:o.guard=some (j,b):=by exact rfl) (hj:(ops[j]?).bind (·.dst)=some dj:=by exact rfl) (hb:L.get dj=some undef:=by exact rfl) (hd:o.dst=some d:=by exact rfl) (hn:Nat.blt d n.n=true:=by exact rfl):WL P ops Q (o::rest) n L w:=by
 intro a ha
 refine wpList_step fun K hK=>?_
 have hy:yielded ops a.tmps j=none:=by
  have h1:=ha.get dj _ hb
  rw[Array.getD_eq_getD_getElem?] at h1
  unfold yielded
  rw[hj]
  simp only[Option.bind_some]
  cases hc:a.tmps[dj]? with
  |none=>rfl
  |some u=>rw[hc] at h1;simp only[Option.getD_some] at h1;subst h1;rfl
 rw[if_neg (by simp[Region.wanted,hg,hy])]
 refine hK _ _ (k _ ?_)
 rw[hd]
 exact ha.put (Nat.le_of_ble_eq_true hn) undef
theorem WL.sub {L':Env} (h:WL P ops Q rest n L' w) (hs:L.sub L'):WL P ops Q rest n L w:=fun a ha=>h a (ha.sub (Env.sub_get hs))
end
section
variable {P:Program} {Q:Exit→Act→World→Prop} {x y:Code} {n:Nd} {L:Env} {w:World}
theorem WC.sub {L':Env} (h:WC P x Q n L' w) (hs:L.sub L'):WC P x Q n L w:=fun a ha=>h a (ha.sub (Env.sub_get hs))
theorem af (h:WC P x (Exit.then (y.wp P Q) Q) n L w):WC P (.seq x y) Q n L w:=fun a ha=>wp_seq (h a ha)
theorem aa {id:Nat} {l:List Oper} (h:WL P l.toArray Q l n L w):WC P (.region id l.toArray false) Q n L w:=fun a ha=>wp_region_lit (h a ha)
theorem GU (h:∀a,Agree a n L→Q .normal a w):WC P .skip Q n L w:=fun a ha=>wp_skip (h a ha)
theorem J5 (h:∀a,Agree a n L→Q .ret a w):WC P .ret Q n L w:=fun a ha=>wp_ret (h a ha)
theorem GV {id:Nat} (h:∀a,Agree a n L→Q (.exit id) a w):WC P (.exit id) Q n L w:=fun a ha=>wp_exit (h a ha)
theorem a9 {id:Nat} (h:WC P x (Exit.inBlock id Q) n L w):WC P (.block id x) Q n L w:=fun a ha=>wp_block (h a ha)
theorem dJ {c:Operand} {b:Bool} (ht:b=true→WC P x Q n L w) (hf:b=false→WC P y Q n L w) (hc:ev L c=some (.bool b):=by exact rfl):WC P (.cond c x y) Q n L w:=
 fun a ha=>wp_cond_split (ha.eval hc) (fun e=>ht e a ha) (fun e=>hf e a ha)
theorem aL {c:Operand} {p:Prop} {_:Decidable p} (ht:p→WC P x Q n L w) (hf:¬p→WC P y Q n L w) (hc:ev L c=some (.bool (decide p)):=by exact rfl):WC P (.cond c x y) Q n L w:=
 dJ (fun e=>ht (of_decide_eq_true e)) (fun e=>hf (of_decide_eq_false e)) (hc:=hc)
theorem aR {c:Operand} (h:WC P x Q n L w) (hc:ev L c=some (.bool true):=by exact rfl):WC P (.cond c x y) Q n L w:=
 dJ (fun _=>h) (fun e=>by cases e) (hc:=hc)
theorem aC {c:Operand} (h:WC P y Q n L w) (hc:ev L c=some (.bool false):=by exact rfl):WC P (.cond c x y) Q n L w:=
 dJ (fun e=>by cases e) (fun _=>h) (hc:=hc)
theorem d6 {c:Operand} {b:Bool} (hc:ev L c=some (.bool b)) (hb:b=true) (h:WC P x Q n L w):WC P (.cond c x y) Q n L w:=
 dJ (fun _=>h) (fun e=>by rw[hb] at e;cases e) (hc:=hc)
theorem dD {c:Operand} {b:Bool} (hc:ev L c=some (.bool b)) (hb:b=false) (h:WC P y Q n L w):WC P (.cond c x y) Q n L w:=
 dJ (fun e=>by rw[hb] at e;cases e) (fun _=>h) (hc:=hc)
/-- The ways through a piece of code meet again: what holds behind it, over letters of your own. -/
theorem J6 {σ:Type} {J:σ→World→Prop} {Lj:σ→Env} (hx:WC P x (Exit.then (fun a w=>∃s,Agree a n (Lj s)∧J s w) Q) n L w)
  (hy:∀s w',J s w'→WC P y Q n (Lj s) w'):WC P (.seq x y) Q n L w:=fun a ha=>
 wp_seq (wp_mono (hx a ha) fun e a' w' h=>by
  cases e with
  |normal=>obtain⟨s,h1,h2⟩:=h;exact hy s w' h2 a' h1
  |_=>exact h)
/-- The same behind a piece that is no sequence's first. -/
theorem GW {σ:Type} {J:σ→World→Prop} {Lj:σ→Env} (hx:WC P x (Exit.then (fun a w=>∃s,Agree a n (Lj s)∧J s w) Q) n L w)
  (hy:∀s w',J s w'→∀a,Agree a n (Lj s)→Q .normal a w'):WC P x Q n L w:=fun a ha=>
 wp_mono (hx a ha) fun e a' w' h=>by
  cases e with
  |normal=>obtain⟨s,h1,h2⟩:=h;exact hy s w' h2 a' h1
  |_=>exact h
/-- A loop: its state is a letter s; at each round's head the frame is Lh s, and J s holds of the world. -/
theorem cU {σ:Type} (meas:σ→Nat) (Lh:σ→Env) (J:σ→World→Prop) (s0:σ) (h0:J s0 w) (round:∀s w',J s w'→WC P x (Exit.then (fun a w''=>∃s',meas s'<meas s∧Agree a n (Lh s')∧J s' w'') Q) n (Lh s) w') (hL:L.sub (Lh s0):=by exact ⟨rfl,rfl,rfl,rfl,trivial⟩):WC P (.loop x) Q n L w:=by
 intro a ha b k cs
 have key:∀m s a w,meas s=m→J s w→Agree a n (Lh s)→
   ∃e a' w',Q e a' w'∧Arrives P (lone (b.at a (.code x::.inLoop x::k)) cs w) b k cs e a' w':=by
  intro m
  induction m using Nat.strongRecOn with
  |_ m ih=>
   intro s a w hm hJ hA
   obtain⟨e,a₁,w₁,hq,xq⟩:=round s w hJ a hA b (.inLoop x::k) cs
   cases e with
   |normal=>
    obtain⟨s',lc,NX,hJ'⟩:=hq
    obtain⟨e₂,a₂,w₂,hq₂,harr₂⟩:=ih (meas s') (hm▸lc) s' a₁ w₁ rfl hJ' NX
    exact⟨e₂,a₂,w₂,hq₂,.of_steps (Steps.trans xq (.one step_inLoop)) harr₂⟩
   |exit id=>exact⟨_,a₁,w₁,hq,.pass (x:=.inLoop x) rfl (fun _ _=>.inl (by simp)) xq⟩
   |goto l=>exact⟨_,a₁,w₁,hq,.pass (x:=.inLoop x) rfl (fun _ _=>.inl (by simp)) xq⟩
   |ret=>exact⟨_,a₁,w₁,hq,.pass (x:=.inLoop x) rfl (fun _ _=>.inl (by simp)) xq⟩
   |panic ch=>exact⟨_,a₁,w₁,hq,.pass (x:=.inLoop x) rfl (fun _ _=>.inl (by simp)) xq⟩
   |outgrown=>exact⟨_,a₁,w₁,hq,.pass (x:=.inLoop x) rfl (fun _ _=>.inl (by simp)) xq⟩
 obtain⟨e,a',w',hq,xq⟩:=key _ s0 a w rfl h0 (ha.sub (Env.sub_get hL))
 exact⟨e,a',w',hq,.of_steps (.one step_loop) xq⟩
end
/-! A function's beginning and its end. -/
def sb:Nat→List Value→Env
 |_,[]=>[]
 |i,v::vs=>(i,v)::sb (i+1) vs
theorem sa:∀(vs:List Value) (k i:Nat) (v:Value),(sb k vs).get i=some v→k≤i∧vs[i - k]?=some v
 |[],k,i,v,h=>by simp[sb,Env.get] at h
 |u::vs,k,i,v,h=>by
  simp only[sb,Env.get_cons] at h
  split at h
  ·rename_i e;subst e;simp only[Option.some.injEq] at h;subst h;simp
  ·rename_i e
   obtain⟨h1,h2⟩:=sa vs (k+1) i v h
   refine⟨by omega,?_⟩
   have:i - k=(i -(k+1))+1:=by omega
   rw[this];simpa using h2
section
variable {P:Program} {f:FuncId} {fn:Func} {c:Code} {w:World} {Post:Value→World→Prop}
theorem aO {args:List Value} {n:Nat} (hf:P.funcs[f]?=some fn) (h:WC P c (bodyPost P fn (CQ Post)) ⟨n,[]⟩ (sb 0 args) w) (hb:fn.body=some c:=by exact rfl) (hn:fn.ntmps=n:=by exact rfl) (vy:Nat.ble args.length n=true:=by exact rfl):Fn P f args.toArray w Post:=by
 have hle':args.length≤n:=Nat.le_of_ble_eq_true vy
 refine calls_of_wp hf hb (h _ ⟨?_,rfl,fun i v hv=>?_⟩)
 ·simp[hn];omega
 ·obtain⟨_,h2⟩:=sa args 0 i v hv
  simp only[Nat.sub_zero] at h2
  obtain⟨lc,KR⟩:=List.getElem?_eq_some_iff.1 h2
  simp[Array.getElem?_append,lc,KR]
theorem Dv {a:Act} {n:Nat} {L:Env} {t:Nat} {v:Value} (hr:fn.results=#[.tmp t]) (ha:Agree a ⟨n,[]⟩ L) (hv:L.get t=some v) (hp:Post v w):bodyPost P fn (CQ Post) .ret a w:=
 bodyPost_ret (v:=v) (by rw[results_tmp hr,ha.get t v hv]) ha.defers ⟨v,rfl,hp⟩
theorem Bo {a:Act} {n:Nat} {L:Env} (hr:fn.results=#[]) (ha:Agree a ⟨n,[]⟩ L) (hp:Post (.tuple #[]) w):bodyPost P fn (CQ Post) .ret a w:=
 bodyPost_ret (results_none hr _ _ _) ha.defers ⟨_,rfl,hp⟩
theorem Bp {a:Act} {n:Nat} {L:Env} (hr:fn.results=#[]) (ha:Agree a ⟨n,[]⟩ L) (hp:Post (.tuple #[]) w):bodyPost P fn (CQ Post) .normal a w:=
 bodyPost_end (results_none hr _ _ _) ha.defers ⟨_,rfl,hp⟩
theorem Bn {a:Act} {n:Nat} {L:Env} {t u:Nat} {v x:Value} (hr:fn.results=#[.tmp t,.tmp u]) (ha:Agree a ⟨n,[]⟩ L) (hv:L.get t=some v) (hx:L.get u=some x)
  (hp:Post (.tuple #[v,x]) w):bodyPost P fn (CQ Post) .ret a w:=
 bodyPost_ret (v:=.tuple #[v,x]) (by rw[results_tmp2 hr,ha.get t v hv,ha.get u x hx]) ha.defers ⟨_,rfl,hp⟩
theorem Bm {a:Act} {n:Nat} {L:Env} {t u s:Nat} {v x y:Value} (hr:fn.results=#[.tmp t,.tmp u,.tmp s]) (ha:Agree a ⟨n,[]⟩ L) (hv:L.get t=some v) (hx:L.get u=some x) (hy:L.get s=some y)
  (hp:Post (.tuple #[v,x,y]) w):bodyPost P fn (CQ Post) .ret a w:=
 bodyPost_ret (v:=.tuple #[v,x,y]) (by
  have h1:=ha.get t v hv;have h2:=ha.get u x hx;have h3:=ha.get s y hy
  simp only[Array.getD_eq_getD_getElem?] at h1 h2 h3
  simp[results,hr,h1,h2,h3]) ha.defers ⟨_,rfl,hp⟩
end
/-! What is left to do behind a piece of code, by the way in which it was left. -/
def KQ (Q:Exit→Act→World→Prop) (e:Exit) (n:Nd) (L:Env) (w:World):Prop:=∀a,Agree a n L→Q e a w
section
variable {P:Program} {Q:Exit→Act→World→Prop} {K:Act→World→Prop} {x y:Code} {n:Nd} {L:Env} {w:World} {id id':Nat}
theorem ag {ops:Array Oper} (h:KQ Q .normal n L w):WL P ops Q [] n L w:=h
theorem aS (h:KQ Q .normal n L w):WC P .skip Q n L w:=GU h
theorem aE (h:KQ Q .ret n L w):WC P .ret Q n L w:=J5 h
theorem cW (h:KQ Q (.exit id) n L w):WC P (.exit id) Q n L w:=GV h
theorem ae (h:WC P y Q n L w):KQ (Exit.then (y.wp P Q) Q) .normal n L w:=h
theorem az (h:KQ Q .ret n L w):KQ (Exit.then K Q) .ret n L w:=h
theorem bx (h:KQ Q (.exit id) n L w):KQ (Exit.then K Q) (.exit id) n L w:=h
theorem bb (h:KQ Q .normal n L w):KQ (Exit.inBlock id Q) .normal n L w:=h
theorem aQ (h:KQ Q .ret n L w):KQ (Exit.inBlock id Q) .ret n L w:=h
theorem ce (h:KQ Q .normal n L w):KQ (Exit.inBlock id Q) (.exit id) n L w:=fun a ha=>by
 simp only[Exit.inBlock,if_true];exact h a ha
theorem q0 (eB:Nat.beq id' id=false) (h:KQ Q (.exit id') n L w):KQ (Exit.inBlock id Q) (.exit id') n L w:=fun a ha=>by
 simp only[Exit.inBlock,if_neg (Nat.ne_of_beq_eq_false eB)];exact h a ha
theorem cB {σ:Type} {meas:σ→Nat} {Lh:σ→Env} {J:σ→World→Prop} {s:σ} (s':σ) (lc:meas s'<meas s) (hJ:J s' w) (hL:L.sub (Lh s'):=by exact ⟨rfl,rfl,rfl,rfl,trivial⟩):KQ (Exit.then (fun a w''=>∃s',meas s'<meas s∧Agree a n (Lh s')∧J s' w'') Q) .normal n L w:=
 fun _ ha=>⟨s',lc,ha.sub (Env.sub_get hL),hJ⟩
theorem pY {σ:Type} {Lj:σ→Env} {J:σ→World→Prop} (s:σ) (hL:L.sub (Lj s)) (hJ:J s w):KQ (Exit.then (fun a w=>∃s,Agree a n (Lj s)∧J s w) Q) .normal n L w:=
 fun _ ha=>⟨s,ha.sub (Env.sub_get hL),hJ⟩
/-- A slot's Bool, parted. -/
theorem GT {ops:Array Oper} {rest:List Oper} {d:Nat} {b:Bool} (hv:L.get d=some (.bool b)) (ht:b=true→WL P ops Q rest n ((d,.bool true)::L) w) (hf:b=false→WL P ops Q rest n ((d,.bool false)::L) w):WL P ops Q rest n L w:=by
 intro a ha
 have JO:∀c,b=c→Agree a n ((d,.bool c)::L):=fun c e=>⟨ha.size,ha.defers,fun i v hi=>by
  rw[Env.get_cons] at hi
  split at hi
  ·rename_i e';subst e';rw[←e] at hi;exact ha.get _ _ (hv.trans hi)
  ·exact ha.get i v hi⟩
 cases b with
 |true=>exact ht rfl a (JO true rfl)
 |false=>exact hf rfl a (JO false rfl)
theorem aG {ops:Array Oper} {rest:List Oper} {d:Nat} {p:Prop} {_:Decidable p} (ht:p→WL P ops Q rest n ((d,.bool true)::L) w) (hf:¬p→WL P ops Q rest n ((d,.bool false)::L) w) (hv:L.get d=some (.bool (decide p)):=by exact rfl):WL P ops Q rest n L w:=
 GT hv (fun e=>ht (of_decide_eq_true e)) (fun e=>hf (of_decide_eq_false e))
/-- A slot's value, spelt otherwise. -/
theorem aN {ops:Array Oper} {rest:List Oper} {d:Nat} {v v':Value} (hv:L.get d=some v) (he:v=v') (h:WL P ops Q rest n ((d,v')::L) w):WL P ops Q rest n L w:=by
 subst he
 intro a ha
 refine h a ⟨ha.size,ha.defers,fun i u hi=>?_⟩
 rw[Env.get_cons] at hi
 split at hi
 ·rename_i e';subst e';exact ha.get _ _ (hv.trans hi)
 ·exact ha.get i u hi
theorem vF {d:Nat} {v v':Value} (hv:L.get d=some v) (he:v=v') (h:WC P x Q n ((d,v')::L) w):WC P x Q n L w:=by
 subst he
 intro a ha
 refine h a ⟨ha.size,ha.defers,fun i u hi=>?_⟩
 rw[Env.get_cons] at hi
 split at hi
 ·rename_i e';subst e';exact ha.get _ _ (hv.trans hi)
 ·exact ha.get i u hi
end
section
variable {P:Program} {fn:Func} {w:World} {Post:Value→World→Prop} {n:Nat} {L:Env}
theorem aY {t:Nat} {v:Value} (hp:Post v w) (hr:fn.results=#[.tmp t]:=by exact rfl) (hv:L.get t=some v:=by exact rfl):KQ (bodyPost P fn (CQ Post)) .ret ⟨n,[]⟩ L w:=fun _ ha=>Dv hr ha hv hp
theorem ze (hr:fn.results=#[]) (hp:Post (.tuple #[]) w):KQ (bodyPost P fn (CQ Post)) .ret ⟨n,[]⟩ L w:=fun _ ha=>Bo hr ha hp
theorem d5 (hp:Post (.tuple #[]) w) (hr:fn.results=#[]:=by exact rfl):KQ (bodyPost P fn (CQ Post)) .normal ⟨n,[]⟩ L w:=fun _ ha=>Bp hr ha hp
theorem cX {t u:Nat} {v x:Value} (hp:Post (.tuple #[v,x]) w) (hr:fn.results=#[.tmp t,.tmp u]:=by exact rfl) (hv:L.get t=some v:=by exact rfl) (hx:L.get u=some x:=by exact rfl):KQ (bodyPost P fn (CQ Post)) .ret ⟨n,[]⟩ L w:=fun _ ha=>Bn hr ha hv hx hp
theorem dB {t u s:Nat} {v x y:Value} (hp:Post (.tuple #[v,x,y]) w) (hr:fn.results=#[.tmp t,.tmp u,.tmp s]:=by exact rfl) (hv:L.get t=some v:=by exact rfl) (hx:L.get u=some x:=by exact rfl) (hy:L.get s=some y:=by exact rfl):KQ (bodyPost P fn (CQ Post)) .ret ⟨n,[]⟩ L w:=fun _ ha=>Bm hr ha hv hx hy hp
end
/-! Panics, and calls that are deferred. -/
section
variable {P:Program} {ops:Array Oper} {Q:Exit→Act→World→Prop} {K:Act→World→Prop} {o:Oper} {rest:List Oper} {n:Nd} {L:Env} {w:World} {id:Nat} {ch:List PanicEntry}
end
end Go.Proofs.YtiighkbehiddkaaGreat
namespace Go.Proofs.YtiighkbehiddkaaGreat
set_option linter.unusedVariables false
open Go.RowKit
/-! Values alone. -/
section
variable {P:Program} {L:Env} {w:World} {d:Option Nat} {ty:TypeId} {pos:String} {aft:Array Edge} {gd:Option (Nat×Bool)}
theorem aF {x:Operand} {v:Value} (hx:ev L x=some v:=by exact rfl):db P ⟨d,.move x,ty,pos,aft,gd⟩ L w v:=
 cf fun ρ h1 _=>by simp[execOp,h1 x v hx]
theorem eU {x:Operand} {v:Value} (hx:ev L x=some v:=by exact rfl):db P ⟨d,.assign x,ty,pos,aft,gd⟩ L w v:=
 cf fun ρ h1 _=>by simp[execOp,h1 x v hx]
theorem ay {c x y:Operand} {v:Value} (hc:ev L c=some (.bool true):=by exact rfl) (hx:ev L x=some v:=by exact rfl):db P ⟨d,.pick c x y,ty,pos,aft,gd⟩ L w v:=
 cf fun ρ h1 _=>by simp[execOp,h1 c _ hc,h1 x v hx,asBool]
theorem ap {c x y:Operand} {v:Value} (hc:ev L c=some (.bool false):=by exact rfl) (hx:ev L y=some v:=by exact rfl):db P ⟨d,.pick c x y,ty,pos,aft,gd⟩ L w v:=
 cf fun ρ h1 _=>by simp[execOp,h1 c _ hc,h1 y v hx,asBool]
theorem b6 {ut:TypeId} {x:Operand} {b:Bool} (hx:ev L x=some (.bool b):=by exact rfl):db P ⟨d,.unOp .not ut x,ty,pos,aft,gd⟩ L w (.bool (!b)):=
 cf fun ρ h1 _=>by simp[execOp,h1 x _ hx,unary_not]
theorem fq {x:Operand} {i:Nat} {vs:Array Value} {v:Value} (hx:ev L x=some (.tuple vs):=by exact rfl) (hi:vs[i]?=some v:=by exact rfl):db P ⟨d,.extract x i,ty,pos,aft,gd⟩ L w v:=
 cf fun ρ h1 _=>by simp[execOp,h1 x _ hx,Instr.extract,hi]
theorem bD {x:Operand} {a:Addr} (hx:ev L x=some (.pointer (some a)):=by exact rfl):db P ⟨d,.nilCheck x,ty,pos,aft,gd⟩ L w (.pointer (some a)):=
 cf fun ρ h1 _=>by simp[execOp,h1 x _ hx]
section
variable {k:IntKind} {tx tyy:TypeId} {x y:Operand} {a b m:Int}
theorem bH (hx:ev L x=some (.int k a):=by exact rfl) (hy:ev L y=some (.int k b):=by exact rfl) (hm:k.wrap (a+b)=m:=by exact kU (by omega) (by omega)):db P ⟨d,.binOp .add tx x y tyy,ty,pos,aft,gd⟩ L w (.int k m):=
 cf fun ρ h1 _=>by simp[execOp,h1 x _ hx,h1 y _ hy,go_sem,hm]
theorem jx (hx:ev L x=some (.int k a):=by exact rfl) (hy:ev L y=some (.int k b):=by exact rfl) (hm:k.wrap (a - b)=m:=by exact kU (by omega) (by omega)):db P ⟨d,.binOp .sub tx x y tyy,ty,pos,aft,gd⟩ L w (.int k m):=
 cf fun ρ h1 _=>by simp[execOp,h1 x _ hx,h1 y _ hy,go_sem,hm]
theorem go (hx:ev L x=some (.int k a):=by exact rfl) (hy:ev L y=some (.int k b):=by exact rfl) (hm:k.wrap (a*b)=m:=by exact kU (by omega) (by omega)):db P ⟨d,.binOp .mul tx x y tyy,ty,pos,aft,gd⟩ L w (.int k m):=
 cf fun ρ h1 _=>by simp[execOp,h1 x _ hx,h1 y _ hy,go_sem,hm]
theorem Kt (hx:ev L x=some (.int k a)) (hy:ev L y=some (.int k b)) (hb:b≠0) (hm:k.wrap (a.tdiv b)=m):db P ⟨d,.binOp .quo tx x y tyy,ty,pos,aft,gd⟩ L w (.int k m):=
 cf fun ρ h1 _=>by simp[execOp,h1 x _ hx,h1 y _ hy,go_sem,hb,hm]
theorem qP (hx:ev L x=some (.int k a)) (hy:ev L y=some (.int k b)) (hm:a.tmod b=m) (hb:b≠0:=by decide):db P ⟨d,.binOp .rem tx x y tyy,ty,pos,aft,gd⟩ L w (.int k m):=
 cf fun ρ h1 _=>by simp[execOp,h1 x _ hx,h1 y _ hy,go_sem,hb,hm]
theorem bz (hx:ev L x=some (.int k a):=by exact rfl) (hy:ev L y=some (.int k b):=by exact rfl):db P ⟨d,.binOp .lss tx x y tyy,ty,pos,aft,gd⟩ L w (.bool (decide (a<b))):=
 cf fun ρ h1 _=>by simp[execOp,h1 x _ hx,h1 y _ hy,go_sem]
theorem dl (hx:ev L x=some (.int k a):=by exact rfl) (hy:ev L y=some (.int k b):=by exact rfl):db P ⟨d,.binOp .leq tx x y tyy,ty,pos,aft,gd⟩ L w (.bool (decide (a≤b))):=
 cf fun ρ h1 _=>by simp[execOp,h1 x _ hx,h1 y _ hy,go_sem]
theorem bw (hx:ev L x=some (.int k a):=by exact rfl) (hy:ev L y=some (.int k b):=by exact rfl):db P ⟨d,.binOp .gtr tx x y tyy,ty,pos,aft,gd⟩ L w (.bool (decide (b<a))):=
 cf fun ρ h1 _=>by simp[execOp,h1 x _ hx,h1 y _ hy,go_sem]
theorem fX (hx:ev L x=some (.int k a):=by exact rfl) (hy:ev L y=some (.int k b):=by exact rfl):db P ⟨d,.binOp .geq tx x y tyy,ty,pos,aft,gd⟩ L w (.bool (decide (b≤a))):=
 cf fun ρ h1 _=>by simp[execOp,h1 x _ hx,h1 y _ hy,go_sem]
theorem cI (hx:ev L x=some (.int k a):=by exact rfl) (hy:ev L y=some (.int k b):=by exact rfl):db P ⟨d,.binOp .eql tx x y tyy,ty,pos,aft,gd⟩ L w (.bool (decide (a=b))):=
 cf fun ρ h1 _=>by simp[execOp,h1 x _ hx,h1 y _ hy,go_sem];rfl
theorem bS (hx:ev L x=some (.int k a):=by exact rfl) (hy:ev L y=some (.int k b):=by exact rfl):db P ⟨d,.binOp .neq tx x y tyy,ty,pos,aft,gd⟩ L w (.bool (decide (a≠b))):=
 cf fun ρ h1 _=>by
  simp[execOp,h1 x _ hx,h1 y _ hy,go_sem]
  by_cases h:a=b<;>simp[h]
theorem gC {bo:BinOp} (hm:bits bo k a b=m) (QX:bo=.and∨bo=.or∨bo=.xor∨bo=.andNot:=by exact .inr (.inl rfl)) (hx:ev L x=some (.int k a):=by exact rfl) (hy:ev L y=some (.int k b):=by exact rfl):db P ⟨d,.binOp bo tx x y tyy,ty,pos,aft,gd⟩ L w (.int k m):=
 cf fun ρ h1 _=>by
  rcases QX with h|h|h|h<;>subst h<;>simp[execOp,h1 x _ hx,h1 y _ hy,go_sem]<;>exact hm
theorem ml {ky:IntKind} (hx:ev L x=some (.int k a)) (hy:ev L y=some (.int ky b)) (h0:0≤b) (qd:b≤k.bits) (hm:k.wrap (a*2 ^ b.toNat)=m):db P ⟨d,.binOp .shl tx x y tyy,ty,pos,aft,gd⟩ L w (.int k m):=
 cf fun ρ h1 _=>by simp only[execOp,h1 x _ hx,h1 y _ hy,eqGuard_shl,binOp_shl,shift_shl k ky a b h0 qd,hm];rfl
theorem Ks {ky:IntKind} (hx:ev L x=some (.int k a)) (hy:ev L y=some (.int ky b)) (h0:0≤b) (qd:b≤k.bits) (hm:a / 2 ^ b.toNat=m):db P ⟨d,.binOp .shr tx x y tyy,ty,pos,aft,gd⟩ L w (.int k m):=
 cf fun ρ h1 _=>by simp only[execOp,h1 x _ hx,h1 y _ hy,eqGuard_shr,binOp_shr,shift_shr k ky a b h0 qd,hm];rfl
theorem bv {ks kd:IntKind} {src dst:TypeId} (hs:P.underlying src=some (.int ks)) (hd:P.underlying dst=some (.int kd)) (hx:ev L x=some (.int k a):=by exact rfl) (hm:kd.wrap a=m:=by exact sl (by omega) (by omega)):db P ⟨d,.convert src dst x,ty,pos,aft,gd⟩ L w (.int kd m):=
 cf fun ρ h1 _=>by simp[execOp,h1 x _ hx,convert,run_underlying hs,run_underlying hd,Conv.intToInt,hm]
theorem qQ {tys:Array TypeId} (hx:ev L x=some (.int k a)) (hy:ev L y=some (.int k b)) (hm:min a b=m):db P ⟨d,.call ⟨.builtin .min,#[x,y],tys⟩,ty,pos,aft,gd⟩ L w (.int k m):=
 cf fun ρ h1 _=>by
  simp[execOp,h1 x _ hx,h1 y _ hy,resolve,invoke,builtin,run_min_int2]
  omega
end
/-! Strings, by the list of their bytes. -/
abbrev av (l:List UInt8):ByteArray:=⟨l.toArray⟩
theorem mm {x y:Operand} {tx tyy:TypeId} {l m:List UInt8} (hx:ev L x=some (.string (av l)):=by exact rfl) (hy:ev L y=some (.string (av m)):=by exact rfl):db P ⟨d,.binOp .eql tx x y tyy,ty,pos,aft,gd⟩ L w (.bool (decide (l=m))):=
 cf fun ρ h1 _=>by
  simp[execOp,h1 x _ hx,h1 y _ hy,go_sem]
  by_cases h:l=m<;>simp[h]
theorem Kr {x y:Operand} {tx tyy:TypeId} {l m:List UInt8} (hx:ev L x=some (.string (av l))) (hy:ev L y=some (.string (av m))):db P ⟨d,.binOp .neq tx x y tyy,ty,pos,aft,gd⟩ L w (.bool (decide (l≠m))):=
 cf fun ρ h1 _=>by
  simp[execOp,h1 x _ hx,h1 y _ hy,go_sem]
  by_cases h:l=m<;>simp[h]
theorem pd {x y:Operand} {t:TypeId} {l:List UInt8} {k:IntKind} {i:Int} (hu:P.underlying t=some .string) (hx:ev L x=some (.string (av l))) (hy:ev L y=some (.int k i)) (h0:0≤i:=by omega) (qd:i<l.length:=by omega):db P ⟨d,.index t x y,ty,pos,aft,gd⟩ L w (.int .u8 (l.getD i.toNat 0).toNat):=
 cf fun ρ h1 _=>by
  have gf:(av l).size=l.length:=by simp[ByteArray.size]
  have lc:i.toNat<l.length:=by omega
  have hr:=run_index_string (P:=P) w t (av l) k i hu
  rw[dif_pos ⟨h0,by rw[gf];exact qd⟩] at hr
  have hg:(av l)[i.toNat]'(by rw[gf];exact lc)=l.getD i.toNat 0:=by
   show l.toArray[i.toNat]'(by simpa using lc)=_
   simp[List.getD,lc]
  rw[hg] at hr
  simp only[execOp,h1 x _ hx,h1 y _ hy,Sem.run_bind,hr,Result.andThen_ok,Sem.run_pure]
theorem fW {x:Operand} {t:TypeId} {l:List UInt8} (hu:P.underlying t=some .string) (hx:ev L x=some (.string (av l)):=by exact rfl):db P ⟨d,.call ⟨.builtin .len,#[x],#[t]⟩,ty,pos,aft,gd⟩ L w (.int .i64 l.length):=
 cf fun ρ h1 _=>by simp[execOp,h1 x _ hx,resolve,invoke,builtin,run_len_string w t ty _ hu,goInt,ByteArray.size]
theorem bj {x:Operand} {t e:TypeId} {A:Option Addr} {n c:Nat} (hu:P.underlying t=some (.slice e)) (hx:ev L x=some (.slice A n c):=by exact rfl):db P ⟨d,.call ⟨.builtin .len,#[x],#[t]⟩,ty,pos,aft,gd⟩ L w (.int .i64 n):=
 cf fun ρ h1 _=>by
  have Pn:P.underlying t=some (.slice (P.elem t)):=by simp[Program.elem,hu]
  simp[execOp,h1 x _ hx,resolve,invoke,builtin,run_len_slice w t ty A n c Pn,goInt]
theorem dO {x:Operand} {tp te tyy:TypeId} {p:Option Addr} (hu:P.underlying tp=some (.pointer te)) (hx:ev L x=some (.pointer p):=by exact rfl):db P ⟨d,.binOp .eql tp x (.const (.pointer none)) tyy,ty,pos,aft,gd⟩ L w (.bool p.isNone):=
 cf fun ρ h1 _=>by
  have Pn:P.underlying tp=some (.pointer (P.pointee tp)):=by simp[Program.pointee,hu]
  have hc:=h1 (.const (.pointer none)) _ rfl
  simp[execOp,h1 x _ hx,hc,go_sem,run_eql_pointer_nil w tp p Pn]
theorem lD {x:Operand} {tp te tyy:TypeId} {p:Option Addr} (hu:P.underlying tp=some (.pointer te)) (hx:ev L x=some (.pointer p)):db P ⟨d,.binOp .neq tp x (.const (.pointer none)) tyy,ty,pos,aft,gd⟩ L w (.bool p.isSome):=
 cf fun ρ h1 _=>by
  have Pn:P.underlying tp=some (.pointer (P.pointee tp)):=by simp[Program.pointee,hu]
  have hc:=h1 (.const (.pointer none)) _ rfl
  simp[execOp,h1 x _ hx,hc,go_sem,run_neq_pointer_nil w tp p Pn]
end
/-! Steps that come often, with short names. -/
section
variable {P:Program} {ops:Array Oper} {Q:Exit→Act→World→Prop} {rest:List Oper} {n:Nd} {L:Env} {w:World} {d:Nat} {ty:TypeId} {pos:String} {aft:Array Edge} {x y:Operand} {v:Value}
theorem va (k:WL P ops Q rest n ((d,v)::L) w) (hx:ev L x=some v:=by exact rfl) (hn:Nat.blt d n.n=true:=by exact rfl):WL P ops Q (⟨some d,.assign x,ty,pos,aft,none⟩::rest) n L w:=ab (eU (hx:=hx)) k (hn:=hn)
theorem vm (k:WL P ops Q rest n ((d,v)::L) w) (hx:ev L x=some v:=by exact rfl) (hn:Nat.blt d n.n=true:=by exact rfl):WL P ops Q (⟨some d,.move x,ty,pos,aft,none⟩::rest) n L w:=ab (aF (hx:=hx)) k (hn:=hn)
theorem vn {a:Addr} (k:WL P ops Q rest n ((d,.pointer (some a))::L) w) (hx:ev L x=some (.pointer (some a)):=by exact rfl) (hn:Nat.blt d n.n=true:=by exact rfl):WL P ops Q (⟨some d,.nilCheck x,ty,pos,aft,none⟩::rest) n L w:=ab (bD (hx:=hx)) k (hn:=hn)
theorem ve {tx tyy:TypeId} {k1:IntKind} {a b:Int} (k:WL P ops Q rest n ((d,.bool (decide (a=b)))::L) w) (hx:ev L x=some (.int k1 a):=by exact rfl) (hy:ev L y=some (.int k1 b):=by exact rfl) (hn:Nat.blt d n.n=true:=by exact rfl):WL P ops Q (⟨some d,.binOp .eql tx x y tyy,ty,pos,aft,none⟩::rest) n L w:=ab (cI (hx:=hx) (hy:=hy)) k (hn:=hn)
theorem vx {i:Nat} {vs:Array Value} (k:WL P ops Q rest n ((d,v)::L) w) (hx:ev L x=some (.tuple vs):=by exact rfl) (hi:vs[i]?=some v:=by exact rfl) (hn:Nat.blt d n.n=true:=by exact rfl):WL P ops Q (⟨some d,.extract x i,ty,pos,aft,none⟩::rest) n L w:=ab (fq (hx:=hx) (hi:=hi)) k (hn:=hn)
end
end Go.Proofs.YtiighkbehiddkaaGreat
namespace Go.Proofs.YtiighkbehiddkaaGreat
set_option linter.unusedVariables false
open Go.RowKit
abbrev j3 (b:UInt8):Value:=.int .u8 b.toNat
def gI (A:Option Addr):Option Nat:=A.map (·.block)
/-- w' is w with new blocks and, at most, writes to block 'row'. -/
abbrev Gr (w w':World) (row:Option Nat):Prop:=w.grownBy w' row
/-- w' is w with new blocks. -/
abbrev Ext (w w':World):Prop:=w.grownBy w' none
theorem aP (w:World):Ext w w:=World.grownBy.refl w none
theorem Ext.row {w w':World} (h:Ext w w') (row:Option Nat):Gr w w' row:=⟨h.os,h.tape,h.output,h.size,fun k hk _=>h.block k hk (by simp)⟩
theorem Ext.tr {a b c:World} (h:Ext a b) (k:Ext b c):Ext a c:=h.trans k
theorem Ext.gr {a b c:World} {row:Option Nat} (h:Ext a b) (k:Gr b c row) (hr:∀g,row=some g→a.heap.size≤g:=by intro _ e;cases e;omega):Ext a c:=
 ⟨k.os.trans h.os,k.tape.trans h.tape,k.output.trans h.output,Nat.le_trans h.size k.size,fun i hi _=>(k.block i (Nat.lt_of_lt_of_le hi h.size) (fun e=>by have:=hr i e.symm;omega)).trans (h.block i hi (by simp))⟩
theorem Gr.gr {a b c:World} {row r':Option Nat} (h:Gr a b row) (k:Gr b c r') (hr:∀g,r'=some g→row=some g∨a.heap.size≤g):Gr a c row:=
 ⟨k.os.trans h.os,k.tape.trans h.tape,k.output.trans h.output,Nat.le_trans h.size k.size,fun i hi eB=>(k.block i (Nat.lt_of_lt_of_le hi h.size) (fun e=>by rcases hr i e.symm with h'|h';exact eB h'.symm;omega)).trans (h.block i hi eB)⟩
theorem Ext.below {w w':World} (h:Ext w w'):Below w.heap.size w w':=⟨h.os,h.tape,h.output,h.size,fun k hk=>h.block k hk (by simp)⟩
theorem nk (w:World) (o:Obj):Ext w (w.alloc o):=World.grownBy_alloc w o none
theorem F1 (w:World):Ext w w.drew:=⟨rfl,rfl,rfl,Nat.le_refl _,fun _ _ _=>rfl⟩
/-- The slice with address A, n elements of 'size' cells, capacity c reads as the cells xs; its block lies in [lo, hi). -/
def Rd (w:World) (lo hi size:Nat) (A:Option Addr) (n c:Nat) (xs:List Value):Prop:=
 n≤c∧c≤maxLen∧xs.length=n*size∧(xs≠[]→∃ad,A=some ad∧lo≤ad.block∧ad.block<hi∧∀j u,xs[j]?=some u→w.cell? (ad.add j)=some u)
/-- The same for bytes. -/
abbrev RdB (w:World) (lo hi:Nat) (A:Option Addr) (c:Nat) (l:List UInt8):Prop:=Rd w lo hi 1 A l.length c (l.map j3)
section
variable {w w':World} {lo hi lo' qb size n c:Nat} {A:Option Addr} {xs:List Value}
theorem Rd.nil (w:World) (lo hi size:Nat) (A:Option Addr) (c:Nat) (hc:c≤maxLen):Rd w lo hi size A 0 c []:=⟨Nat.zero_le _,hc,by simp,fun h=>absurd rfl h⟩
theorem Rd.mono (h:Rd w lo hi size A n c xs) (h1:lo'≤lo) (h2:hi≤qb):Rd w lo' qb size A n c xs:=
 ⟨h.1,h.2.1,h.2.2.1,fun hn=>by obtain⟨ad,e,a,b,hc⟩:=h.2.2.2 hn;exact⟨ad,e,by omega,by omega,hc⟩⟩
theorem Rd.keep (h:Rd w lo hi size A n c xs) (hk:∀p:Addr,lo≤p.block→p.block<hi→p.block<w.heap.size→w'.cell? p=w.cell? p):Rd w' lo hi size A n c xs:=
 ⟨h.1,h.2.1,h.2.2.1,fun hn=>by
  obtain⟨ad,e,a,b,hc⟩:=h.2.2.2 hn
  refine⟨ad,e,a,b,fun j u hu=>?_⟩
  have hb:(ad.add j).block=ad.block:=by unfold Addr.add;split<;>rfl
  exact(hk _ (by rw[hb];exact a) (by rw[hb];exact b) (World.block_lt_of_cell? w _ (hc j u hu))).trans (hc j u hu)⟩
theorem Rd.gr (h:Rd w lo hi size A n c xs) {row:Option Nat} (hg:Gr w w' row) (hr:∀g,row=some g→g<lo∨hi≤g:=by intro _ e;cases e;omega):Rd w' lo hi size A n c xs:=
 h.keep fun p h1 h2 h3=>World.cell?_of_block (hg.block p.block h3 (fun e=>by have:=hr _ e.symm;omega))
theorem Rd.ext (h:Rd w lo hi size A n c xs) (hg:Ext w w'):Rd w' lo hi size A n c xs:=h.gr hg fun g e=>by cases e
theorem Rd.top (h:Rd w lo hi size A n c xs):Rd w lo w.heap.size size A n c xs:=
 ⟨h.1,h.2.1,h.2.2.1,fun hn=>by
  obtain⟨ad,e,a,b,hc⟩:=h.2.2.2 hn
  refine⟨ad,e,a,?_,hc⟩
  obtain⟨u,hu⟩:∃u,xs[0]?=some u:=by cases xs with|nil=>exact absurd rfl hn|cons x _=>exact⟨x,rfl⟩
  have hb:(ad.add 0).block=ad.block:=by unfold Addr.add;split<;>rfl
  have:=World.block_lt_of_cell? w _ (hc 0 u hu)
  rw[hb] at this
  exact this⟩
theorem Rd.at_ (h:Rd w lo hi 1 A n c xs) {k:Nat} (hk:k<n):∃ad,A=some ad∧lo≤ad.block∧ad.block<hi∧w.cell? (ad.add k)=xs[k]?:=by
 have hl:k<xs.length:=by have:=h.2.2.1;omega
 obtain⟨ad,e,a,b,hc⟩:=h.2.2.2 (fun e=>by simp[e] at hl)
 exact⟨ad,e,a,b,by rw[hc k _ (List.getElem?_eq_getElem hl),List.getElem?_eq_getElem hl]⟩
theorem Rd.cells (h:Rd w lo hi size A n c xs) (hn:xs≠[]):∃ad,A=some ad∧∀j u,xs[j]?=some u→w.cell? (ad.add j)=some u:=by
 obtain⟨ad,e,_,_,hc⟩:=h.2.2.2 hn;exact⟨ad,e,hc⟩
theorem Rd.of_own {e:TypeId} {base:Nat} (h:w.ownsRow base e size (.slice A n c) n xs):Rd w base w.heap.size size A n c xs:=by
 rcases h.2 with⟨hv,hn⟩|⟨g,cap,cur,hv,hb,hg,EC,jE,tj,ht⟩
 ·simp only[Value.slice.injEq] at hv
  obtain⟨rfl,rfl,rfl⟩:=hv
  have:xs=[]:=List.eq_nil_of_length_eq_zero (by simpa using h.1)
  subst this
  exact Rd.nil _ _ _ _ _ _ (by simp[maxLen])
 ·simp only[Value.slice.injEq] at hv
  obtain⟨rfl,_,rfl⟩:=hv
  exact⟨EC,jE,h.1,fun _=>⟨_,rfl,hb,(Array.getElem?_eq_some_iff.1 hg).1,h.cells rfl⟩⟩
theorem mZ (a:Addr) (i j:Nat):(a.add i).add j=a.add (i+j):=by
 unfold Addr.add
 by_cases hi:i=0<;>by_cases hj:j=0<;>simp[hi,hj,Nat.add_assoc]
theorem Rd.cut (h:Rd w lo hi size A n c xs) {l k m:Nat} (h1:l≤k) (h2:k≤n) (h3:k≤m) (h4:m≤c):
  Rd w lo hi size (if m=l then A else A.map (·.add (l*size))) (k - l) (m - l) ((xs.drop (l*size)).take ((k - l)*size)):=by
 have bI:l*size+(k - l)*size≤xs.length:=by rw[h.2.2.1,←Nat.add_mul];exact Nat.mul_le_mul_right _ (by omega)
 refine⟨by omega,by have:=h.2.1;omega,by simp only[List.length_take,List.length_drop];omega,fun hn=>?_⟩
 have eB:xs≠[]:=fun e=>hn (by simp[e])
 obtain⟨ad,e,a,b,hc⟩:=h.2.2.2 eB
 subst e
 have gS:k≠l:=fun e=>hn (by simp[e])
 rw[if_neg (by omega)]
 refine⟨ad.add (l*size),rfl,?_,?_,fun j u hu=>?_⟩
 ·have hb:(ad.add (l*size)).block=ad.block:=by unfold Addr.add;split<;>rfl
  rw[hb];exact a
 ·have hb:(ad.add (l*size)).block=ad.block:=by unfold Addr.add;split<;>rfl
  rw[hb];exact b
 ·rw[mZ]
  rw[List.getElem?_take] at hu
  split at hu
  ·rw[List.getElem?_drop] at hu;exact hc _ u hu
  ·cases hu
end
section
variable {w w':World} {lo hi c:Nat} {A:Option Addr} {l:List UInt8}
theorem RdB.nil (w:World) (lo hi:Nat):RdB w lo hi none 0 []:=Rd.nil w lo hi 1 none 0 (Nat.zero_le _)
theorem RdB.nil_eq (h:RdB w lo hi none c l):l=[]:=by
 cases l with
 |nil=>rfl
 |cons b l'=>obtain⟨ad,h',_⟩:=h.2.2.2 (by simp);cases h'
theorem RdB.cut (h:RdB w lo hi A c l) {i k m:Nat} (h1:i≤k) (h2:k≤l.length) (h3:k≤m) (h4:m≤c):
  RdB w lo hi (if m=i then A else A.map (·.add (i*1))) (m - i) ((l.drop i).take (k - i))∧((l.drop i).take (k - i)).length=k - i:=by
 have hl:((l.drop i).take (k - i)).length=k - i:=by simp only[List.length_take,List.length_drop];omega
 refine⟨?_,hl⟩
 have:=Rd.cut h h1 h2 h3 h4
 rw[←List.map_drop,←List.map_take,Nat.mul_one,Nat.mul_one] at this
 unfold RdB
 rw[hl]
 simpa using this
theorem RdB.byte (h:RdB w lo hi A c l) {k:Nat} (hk:k<l.length):∃ad,A=some ad∧lo≤ad.block∧ad.block<hi∧w.cell? (ad.add k)=some (j3 (l.getD k 0)):=by
 obtain⟨ad,e,a,b,hc⟩:=Rd.at_ h hk
 refine⟨ad,e,a,b,?_⟩
 rw[hc]
 simp[List.getD,hk]
theorem RdB.cap (h:RdB w lo hi A c l):l.length≤c∧c≤9223372036854775807:=⟨h.1,by have:=h.2.1;simpa [maxLen] using this⟩
end
/-! Types. -/
structure SliceTy (P:Program) (t e:TypeId) (size bytes:Nat) (z:Value):Prop where
 u:P.underlying t=some (.slice e)
 i:∃i,P.info? e=some i∧i.zero=some z∧i.size=size∧i.bytes=bytes
 zs:z.cells.size=size
 sz:0<size
structure ByteTy (P:Program) (t e:TypeId):Prop where
 s:SliceTy P t e 1 1 (.int .u8 0)
 e:P.underlying e=some (.int .u8)
theorem iI {P:Program} {t e:TypeId} {size bytes:Nat} {z:Value} (hu:P.underlying t=some (.slice e)) (hz:z.cells.size=size) (hi:(P.info? e).map (fun i=>(i.zero,i.size,i.bytes))=some (some z,size,bytes):=by kernel_rfl) (hs:0<size:=by decide):SliceTy P t e size bytes z:=
 ⟨hu,info_parts hi,hz,hs⟩
/-! Operations that read. -/
section
variable {P:Program} {L:Env} {w:World} {d:Option Nat} {ty:TypeId} {pos:String} {aft:Array Edge} {gd:Option (Nat×Bool)}
theorem cV {e:TypeId} {i:TypeInfo} (hi:P.info? e=some i):(sizeOf e).run P w=.ok i.size w:=by simp[sizeOf,typeInfo,hi]
/-- The address of an element. -/
theorem jT {t e:TypeId} {size bytes:Nat} {z:Value} (T:SliceTy P t e size bytes z) {x y:Operand} {A:Addr} {n c:Nat} {k:IntKind} {i:Int} (hx:ev L x=some (.slice (some A) n c)) (hy:ev L y=some (.int k i)) (h0:0≤i:=by omega) (qd:i<n:=by omega):
  db P ⟨d,.indexAddr t x y,ty,pos,aft,gd⟩ L w (.pointer (some (A.add (i.toNat*size)))):=
 cf fun ρ h1 _=>by
  obtain⟨inf,hi,_,gf,_⟩:=T.i
  simp[execOp,h1 x _ hx,h1 y _ hy,Instr.indexAt,run_underlying T.u,asIntOf,h0,qd,cV hi,gf]
/-- A byte's address: the address is a letter, its cell is known. -/
theorem eA {t e:TypeId} (T:ByteTy P t e) {x y:Operand} {lo hi:Nat} {A:Option Addr} {c:Nat} {l:List UInt8} {k:IntKind} {i:Int} (hr:RdB w lo hi A c l) (hx:ev L x=some (.slice A l.length c):=by exact rfl) (hy:ev L y=some (.int k i):=by exact rfl) (h0:0≤i:=by omega) (qd:i<l.length:=by omega):
  OpRun P ⟨d,.indexAddr t x y,ty,pos,aft,gd⟩ L w fun v w'=>w=w'∧∃p,v=.pointer (some p)∧w.cell? p=some (j3 (l.getD i.toNat 0))∧lo≤p.block∧p.block<hi:=by
 have hk:i.toNat<l.length:=by omega
 obtain⟨ad,rfl,a,b,hc⟩:=RdB.byte hr hk
 refine(jT T.s hx hy (h0:=h0) (qd:=qd)).mono ?_
 rintro v w' ⟨rfl,rfl⟩
 rw[Nat.mul_one]
 have hb:(ad.add i.toNat).block=ad.block:=by unfold Addr.add;split<;>rfl
 exact⟨rfl,_,rfl,hc,by rw[hb];exact a,by rw[hb];exact b⟩
def cu (P:Program) (t:TypeId):Bool:=match P.underlying t with
 |some (.struct _)|some (.array _ _)|none=>false
 |some _=>true
theorem BG {t:TypeId} (h:cu P t=true):(isAgg t).run P w=.ok false w:=by
 unfold cu at h
 cases hu:P.underlying t with
 |none=>simp[hu] at h
 |some td=>cases td<;>simp[hu] at h<;>simp[isAgg,run_underlying hu]
theorem dv {t:TypeId} {x:Operand} {p:Addr} {v:Value} (ht:cu P t=true) (hx:ev L x=some (.pointer (some p))) (hc:w.cell? p=some v):db P ⟨d,.load t x,ty,pos,aft,gd⟩ L w v:=
 cf fun ρ h1 _=>by simp[execOp,h1 x _ hx,Instr.loadAt,Instr.sureAddr,loadVar,BG ht,hc]
/-- Cells of a slice: 'x[l:h]', 'x[l:]', 'x[:h]', 'x[l:h:m]'. -/
theorem dP {t e:TypeId} (T:ByteTy P t e) {x:Operand} {lo hi:Nat} {A:Option Addr} {c:Nat} {l:List UInt8} {ol oh om:Option Operand} {a b m:Nat} (hr:RdB w lo hi A c l) (hb:∀ρ:Operand→Value,(∀x v,ev L x=some v→ρ x=v)→(Instr.sliceBounds true l.length c (ol.map ρ) (oh.map ρ) (om.map ρ)).run P w=.ok (a,b,m) w) (hx:ev L x=some (.slice A l.length c):=by exact rfl) (h1:a≤b:=by omega) (h2:b≤l.length:=by omega) (h3:b≤m:=by omega) (h4:m≤c:=by omega):
  OpRun P ⟨d,.slice t x ol oh om,ty,pos,aft,gd⟩ L w fun v w'=>w=w'∧∃A' c',v=.slice A' ((l.drop a).take (b - a)).length c'∧RdB w lo hi A' c' ((l.drop a).take (b - a))∧((l.drop a).take (b - a)).length=b - a:=
 eX fun ρ qd _=>by
  obtain⟨inf,hi,_,gf,_⟩:=T.s.i
  obtain⟨r1,r2⟩:=RdB.cut hr h1 h2 h3 h4
  refine⟨_,w,?_,rfl,(if m=a then A else A.map (·.add (a*1))),m - a,rfl,r1,r2⟩
  have hu:P.underlying t=some (.slice (P.elem t)):=by simp[Program.elem,T.s.u]
  have he:P.elem t=e:=by simp[Program.elem,T.s.u]
  rw[r2]
  simp[execOp,qd x _ hx,run_sliceAt_slice w t _ _ _ _ hu,run_slice_any w t A l.length c hu,hb ρ qd,he,cV hi,gf,sliced]
theorem iC {ol:Operand} {n c:Nat} {k:IntKind} {i:Int} (h:ev L ol=some (.int k i)) (h0:0≤i) (h1:i≤n) (ρ:Operand→Value) (hρ:∀x v,ev L x=some v→ρ x=v):
  (Instr.sliceBounds true n c ((some ol).map ρ) ((none:Option Operand).map ρ) ((none:Option Operand).map ρ)).run P w=.ok (i.toNat,n,c) w:=by
 have e:=hρ ol _ h
 simp[Instr.sliceBounds,e,run_sliceBound,h0,h1]
theorem mV {oh:Operand} {n c:Nat} {k:IntKind} {i:Int} (h:ev L oh=some (.int k i)) (h0:0≤i) (h1:i≤c) (ρ:Operand→Value) (hρ:∀x v,ev L x=some v→ρ x=v):
  (Instr.sliceBounds true n c ((none:Option Operand).map ρ) ((some oh).map ρ) ((none:Option Operand).map ρ)).run P w=.ok (0,i.toNat,c) w:=by
 have e:=hρ oh _ h
 simp[Instr.sliceBounds,e,run_sliceBound,h0,h1]
theorem lq {ol oh:Operand} {n c:Nat} {k k':IntKind} {i j:Int} (h:ev L ol=some (.int k i)) (h':ev L oh=some (.int k' j)) (h0:0≤i) (h1:i≤j) (h2:j≤c) (ρ:Operand→Value) (hρ:∀x v,ev L x=some v→ρ x=v):
  (Instr.sliceBounds true n c ((some ol).map ρ) ((some oh).map ρ) ((none:Option Operand).map ρ)).run P w=.ok (i.toNat,j.toNat,c) w:=by
 have e:=hρ ol _ h
 have e':=hρ oh _ h'
 have hj:(j.toNat:Int)=j:=Int.toNat_of_nonneg (by omega)
 simp[Instr.sliceBounds,e,e',run_sliceBound,h0,h1,h2,hj,(by omega:0≤j)]
theorem r8 {ol oh om:Operand} {n c:Nat} {k k' k'':IntKind} {i j m:Int} (h:ev L ol=some (.int k i)) (h':ev L oh=some (.int k' j)) (h'':ev L om=some (.int k'' m)) (h0:0≤i) (h1:i≤j) (h2:j≤m) (h3:m≤c) (ρ:Operand→Value) (hρ:∀x v,ev L x=some v→ρ x=v):
  (Instr.sliceBounds true n c ((some ol).map ρ) ((some oh).map ρ) ((some om).map ρ)).run P w=.ok (i.toNat,j.toNat,m.toNat) w:=by
 have e:=hρ ol _ h
 have e':=hρ oh _ h'
 have e'':=hρ om _ h''
 have hj:(j.toNat:Int)=j:=Int.toNat_of_nonneg (by omega)
 have hm:(m.toNat:Int)=m:=Int.toNat_of_nonneg (by omega)
 simp[Instr.sliceBounds,e,e',e'',run_sliceBound,h0,h1,h2,h3,hj,hm,(by omega:0≤j),(by omega:0≤m)]
/-- A string of a slice of bytes. -/
theorem gB {s t e:TypeId} (T:ByteTy P t e) (hs:P.underlying s=some .string) {x:Operand} {lo hi:Nat} {A:Option Addr} {c:Nat} {l:List UInt8} (hr:RdB w lo hi A c l) (hx:ev L x=some (.slice A l.length c):=by exact rfl):
  db P ⟨d,.convert t s x,ty,pos,aft,gd⟩ L w (.string (av l)):=
 cf fun ρ h1 _=>by
  have lG:(convert t s (.slice A l.length c)).run P w=.ok (.string (av l)) w:=by
   rw[run_convert_bytes_string w t s e A _ _ T.s.u T.e hs]
   cases A with
   |none=>
    have:l=[]:=by
     cases l with
     |nil=>rfl
     |cons b l'=>obtain⟨ad,h,_⟩:=hr.2.2.2 (by simp);cases h
    subst this
    simp[Conv.bytesToString]
    rfl
   |some a=>
    have hl:(loadCells a l.length).run P w=.ok ((l.map fun b=>(b.toNat:Int)).map (Value.int .u8)).toArray w:=by
     have:=run_loadCells_list (P:=P) w a (l.map j3) (fun j v hj=>by
      have eB:l.map j3≠[]:=fun e=>by simp[e] at hj
      obtain⟨ad,h,hc⟩:=Rd.cells hr eB
      cases h
      exact hc j v hj)
     rw[List.length_map] at this
     rw[this,List.map_map]
     rfl
    rw[run_bytesToString w a l.length c _ hl,foldl_push_bytes]
    congr 2
    have hm:(l.map fun b:UInt8=>(b.toNat:Int)).map (fun n=>UInt8.ofNat n.toNat)=l:=by
     rw[List.map_map]
     conv=>rhs;rw[←List.map_id l]
     apply List.map_congr_left
     intro b _
     simp
    simp[av,ByteArray.empty,ByteArray.emptyWithCapacity,hm]
    rfl
  simp[execOp,h1 x _ hx,lG]
/-- A slice held against nil: 's == nil'. -/
theorem jg {t e tyy:TypeId} {x:Operand} {A:Option Addr} {n c:Nat} (hu:P.underlying t=some (.slice e)) (hx:ev L x=some (.slice A n c)):db P ⟨d,.binOp .eql t x (.const (.slice none 0 0)) tyy,ty,pos,aft,gd⟩ L w (.bool A.isNone):=
 cf fun ρ h1 _=>by
  have hc:=h1 (.const (.slice none 0 0)) _ rfl
  simp[execOp,h1 x _ hx,hc,go_sem,Lib.run_eql_slice_nil w t e A n c 0 0 hu]
end
end Go.Proofs.YtiighkbehiddkaaGreat
namespace Go.Proofs.YtiighkbehiddkaaGreat
set_option linter.unusedVariables false
open Go.RowKit
/-- A block known whole, not frozen. -/
def Blk (w:World) (g:Nat) (t:TypeId) (cs:List Value):Prop:=w.heap[g]?=some (.cells cs.toArray t (0,0))
section
variable {w w':World} {g:Nat} {t:TypeId} {cs:List Value}
theorem Blk.lt (h:Blk w g t cs):g<w.heap.size:=(Array.getElem?_eq_some_iff.1 h).1
theorem Blk.cell (h:Blk w g t cs) (i:Nat):w.cell? ⟨g,i,none⟩=cs[i]?:=by rw[cell_of_row w g i _ t (0,0) h];simp
theorem Blk.frozen (h:Blk w g t cs) (i:Nat):w.frozen? ⟨g,i,none⟩=false:=frozen_of_row w g i _ t h
theorem Blk.gr (h:Blk w g t cs) {row:Option Nat} (hg:Gr w w' row) (hr:row≠some g:=by intro e;cases e;omega):Blk w' g t cs:=(hg.block g h.lt (fun e=>hr e.symm)).trans h
theorem Blk.ext (h:Blk w g t cs) (hg:Ext w w'):Blk w' g t cs:=h.gr hg (by simp)
theorem Blk.new (w:World) (t:TypeId) (cs:List Value):Blk (w.alloc (.cells cs.toArray t)) w.heap.size t cs:=heap_alloc_new w _
theorem Blk.set_ (h:Blk w g t cs) (i:Nat) (u:Value):Blk (w.setCell ⟨g,i,none⟩ u) g t (cs.set i u):=by
 have:=heap_setCell_same w g i cs.toArray t u h
 unfold Blk
 rw[this];simp
theorem n8 (w:World) (a:Addr) (u:Value):Gr w (w.setCell a u) (some a.block):=
 ⟨rfl,rfl,rfl,by simp,fun k _ hk=>heap_setCell_other w a k u (fun e=>hk (by simp[e]))⟩
end
/-- Bytes of one's own. -/
abbrev OwnB (w:World) (lo:Nat) (e:TypeId) (A:Option Addr) (c:Nat) (l:List UInt8):Prop:=w.ownsRow lo e 1 (.slice A l.length c) l.length (l.map j3)
/-- Elements of one's own. -/
abbrev Own (w:World) (lo:Nat) (e:TypeId) (size:Nat) (A:Option Addr) (n c:Nat) (xs:List Value):Prop:=w.ownsRow lo e size (.slice A n c) n xs
section
variable {w w':World} {lo:Nat} {e:TypeId} {size n c:Nat} {A:Option Addr} {xs:List Value} {l:List UInt8}
theorem j7:Value.ownBlock (.slice A n c)=gI A:=by cases A<;>rfl
theorem Own.nil_ (w:World) (lo:Nat) (e:TypeId) (size:Nat):Own w lo e size none 0 0 []:=World.ownsRow_nil w lo e size
theorem Own.gr (h:Own w lo e size A n c xs) {row:Option Nat} (hg:Gr w w' row) (hr:gI A=none∨gI A≠row):Own w' lo e size A n c xs:=
 World.ownsRow.kept h hg (by rw[j7];exact hr)
theorem Own.ext (h:Own w lo e size A n c xs) (hg:Ext w w'):Own w' lo e size A n c xs:=
 h.gr hg (by cases A<;>simp[gI])
theorem Own.lt (h:Own w lo e size A n c xs) {g:Nat} (hg:gI A=some g):lo≤g∧g<w.heap.size:=World.ownsRow.lt h g (by rw[j7];exact hg)
theorem Own.rd (h:Own w lo e size A n c xs):Rd w lo w.heap.size size A n c xs:=Rd.of_own h
theorem OwnB.rd (h:OwnB w lo e A c l):RdB w lo w.heap.size A c l:=Rd.of_own h
theorem Own.mono {lo':Nat} (h:Own w lo e size A n c xs) (hl:lo'≤lo):Own w lo' e size A n c xs:=by
 refine⟨h.1,?_⟩
 rcases h.2 with h2|⟨g,cap,cur,hv,hb,r⟩
 ·exact .inl h2
 ·exact .inr ⟨g,cap,cur,hv,by omega,r⟩
theorem Own.addr (h:Own w lo e size A n c xs) (hn:0<n):∃g,A=some ⟨g,0,none⟩∧lo≤g∧g<w.heap.size:=by
 rcases h.2 with⟨_,h0⟩|⟨g,cap,cur,hv,hb,hg,_⟩
 ·omega
 ·simp only[Value.slice.injEq] at hv
  exact⟨g,hv.1,hb,(Array.getElem?_eq_some_iff.1 hg).1⟩
end
/-! Making. -/
section
variable {P:Program} {L:Env} {w:World} {d:Option Nat} {ty:TypeId} {pos:String} {aft:Array Edge} {gd:Option (Nat×Bool)}
def fV (P:Program) (t:TypeId):Option Value:=(P.info? t).bind (·.zero)
theorem vC {t:TypeId} {z:Value} (h:fV P t=some z):(zeroValue t).run P w=.ok z w:=by
 unfold fV at h
 cases hi:P.info? t with
 |none=>simp[hi] at h
 |some i=>simp[hi] at h;simp[zeroValue,typeInfo,hi,h]
/-- What a new variable leaves. -/
def NE (w:World) (t:TypeId) (cs:List Value) (v:Value) (w':World):Prop:=∃g,v=.pointer (some ⟨g,0,none⟩)∧Blk w' g t cs∧Ext w w'∧w.heap.size≤g∧g<w'.heap.size
theorem qY (w:World) (t:TypeId) (cs:Array Value):NE w t cs.toList (.pointer (some ⟨w.heap.size,0,none⟩)) (w.alloc (.cells cs t)):=
 ⟨w.heap.size,rfl,by have:=Blk.new w t cs.toList;simpa using this,nk w _,Nat.le_refl _,by simp⟩
theorem bc {t:TypeId} {z:Value} {cs:List Value} (hz:fV P t=some z) (hc:z.cells.toList=cs:=by exact rfl):OpRun P ⟨d,.alloc t,ty,pos,aft,gd⟩ L w (NE w t cs):=
 eX fun ρ h1 _=>by
  subst hc
  refine⟨_,_,?_,qY w t z.cells⟩
  simp[execOp,Instr.alloc,vC hz,newVar,newRow]
theorem bU {t:TypeId} {x:Operand} {v:Value} {cs:List Value} (hx:ev L x=some v:=by exact rfl) (hc:v.cells.toList=cs:=by exact rfl):OpRun P ⟨d,.box t x,ty,pos,aft,gd⟩ L w (NE w t cs):=
 eX fun ρ h1 _=>by
  subst hc
  refine⟨_,_,?_,qY w t v.cells⟩
  simp[execOp,Instr.box,h1 x _ hx,newVar,newRow]
def bB (P:Program) (s:TypeId) (i:Nat):Option Nat:=
 match P.underlying s with
 |some (.struct fs)=>match fs[i]? with
  |some f=>match P.info? f.type with
   |some inf=>if inf.size=0 then none else some f.offset
   |none=>none
  |none=>none
 |_=>none
theorem oz {s:TypeId} {x:Operand} {i:Nat} {a:Addr} {off:Nat} (hf:bB P s i=some off) (hx:ev L x=some (.pointer (some a))):db P ⟨d,.fieldAddr s x i,ty,pos,aft,gd⟩ L w (.pointer (some (a.add off))):=
 cf fun ρ h1 _=>by
  unfold bB at hf
  split at hf
  ·rename_i fs hu
   split at hf
   ·rename_i f hfi
    split at hf
    ·rename_i inf hi
     split at hf
     ·cases hf
     ·rename_i eB
      simp only[Option.some.injEq] at hf
      subst hf
      simp[execOp,h1 x _ hx,Instr.fieldAt,run_underlying hu,hfi,Instr.sureAddr,fieldPlace,cV hi,eB]
    ·cases hf
   ·cases hf
  ·cases hf
/-- The same at a block's head. -/
theorem ah {s:TypeId} {x:Operand} {i g o off:Nat} (hf:bB P s i=some off) (hx:ev L x=some (.pointer (some ⟨g,o,none⟩)):=by exact rfl):db P ⟨d,.fieldAddr s x i,ty,pos,aft,gd⟩ L w (.pointer (some ⟨g,o+off,none⟩)):=by
 have:=oz (d:=d) (ty:=ty) (pos:=pos) (aft:=aft) (gd:=gd) (w:=w) hf hx
 rwa [Addr.add_lit] at this
def jt (P:Program) (t:TypeId) (n:Nat):Bool:=match P.underlying t with
 |some (.struct _)|some (.array _ _)=>match P.info? t with|some i=>i.size==n|none=>false
 |_=>false
theorem tB {t:TypeId} {n:Nat} (h:jt P t n=true):(isAgg t).run P w=.ok true w∧(sizeOf t).run P w=.ok n w:=by
 unfold jt at h
 cases hu:P.underlying t with
 |none=>simp[hu] at h
 |some td=>
  cases hi:P.info? t with
  |none=>cases td<;>simp[hu,hi] at h
  |some i=>cases td<;>simp[hu,hi] at h<;>(subst h;exact⟨by simp[isAgg,run_underlying hu],cV hi⟩)
/-- A struct read out of memory, cell by cell. -/
theorem dX {t:TypeId} {x:Operand} {p:Addr} {cs:List Value} {n:Nat} (ht:jt P t n=true) (hc:∀j u,cs[j]?=some u→w.cell? (p.add j)=some u) (hn:cs.length=n:=by exact rfl) (hx:ev L x=some (.pointer (some p)):=by exact rfl):db P ⟨d,.load t x,ty,pos,aft,gd⟩ L w (.agg cs.toArray):=
 cf fun ρ h1 _=>by
  subst hn
  obtain⟨ha,hs⟩:=tB (w:=w) ht
  simp[execOp,h1 x _ hx,Instr.loadAt,Instr.sureAddr,loadVar,ha,hs,run_loadCells_list w p cs hc]
theorem aK {t tb:TypeId} {x:Operand} {g:Nat} {cs:List Value} (ht:jt P t cs.length=true) (hb:Blk w g tb cs) (hx:ev L x=some (.pointer (some ⟨g,0,none⟩)):=by exact rfl):db P ⟨d,.load t x,ty,pos,aft,gd⟩ L w (.agg cs.toArray):=
 dX ht (hx:=hx) fun j u hu=>by rw[Addr.add_lit,Nat.zero_add,hb.cell];exact hu
/-- One cell of a block. -/
theorem ak {t tb:TypeId} {x:Operand} {g i:Nat} {cs:List Value} {v:Value} (ht:cu P t=true) (hb:Blk w g tb cs) (hx:ev L x=some (.pointer (some ⟨g,i,none⟩)):=by exact rfl) (hv:cs[i]?=some v:=by exact rfl):db P ⟨d,.load t x,ty,pos,aft,gd⟩ L w v:=
 dv ht hx (by rw[hb.cell];exact hv)
/-- A store into one cell of a block. -/
theorem aU {t tb:TypeId} {x y:Operand} {g i:Nat} {cs cs':List Value} {v:Value} (ht:(P.info? t).map (·.size)=some 1) (hb:Blk w g tb cs) (hx:ev L x=some (.pointer (some ⟨g,i,none⟩)):=by exact rfl) (hy:ev L y=some v:=by exact rfl) (iH:v.oneCell'=true:=by exact rfl) (hi:Nat.blt i cs.length=true:=by exact rfl) (tj:cs.set i v=cs':=by exact rfl):
  OpRun P ⟨d,.store t x y,ty,pos,aft,gd⟩ L w fun _ w'=>Blk w' g tb cs'∧Gr w w' (some g):=
 iM fun ρ h1 _=>by
  have qb:i<cs.length:=Nat.le_of_ble_eq_true hi
  have mG:w.cell? ⟨g,i,none⟩=some cs[i]:=by rw[hb.cell];simp[qb]
  have GK:=hb.frozen i
  obtain⟨inf,rx,gf⟩:=Option.map_eq_some_iff.1 ht
  refine⟨w.setCell ⟨g,i,none⟩ v,?_,by rw[←tj];exact hb.set_ i v,n8 w ⟨g,i,none⟩ v⟩
  have hvc:v.cells=#[v]:=by cases v<;>first|rfl|(simp[Value.oneCell'] at iH)
  have it:=run_store P w ⟨g,i,none⟩ v .plain iH
  rw[mG] at it
  simp only[GK] at it
  simp[execOp,h1 x _ hx,h1 y _ hy,Instr.storeAt,Instr.sureAddr,storeVar,cV rx,gf,hvc,storeCells,Addr.add_zero',it]
/-- A store of a whole struct into a block of its own size. -/
theorem aD {t tb:TypeId} {x y:Operand} {g:Nat} {cs vs:List Value} (ht:(P.info? t).map (·.size)=some vs.length) (hb:Blk w g tb cs) (hx:ev L x=some (.pointer (some ⟨g,0,none⟩)):=by exact rfl) (hy:ev L y=some (.agg vs.toArray):=by exact rfl) (iH:∀u∈vs,u.oneCell'=true:=by simp[Value.oneCell']) (hl:cs.length=vs.length:=by exact rfl):
  OpRun P ⟨d,.store t x y,ty,pos,aft,gd⟩ L w fun _ w'=>Blk w' g tb vs∧Gr w w' (some g):=
 iM fun ρ h1 _=>by
  obtain⟨inf,rx,gf⟩:=Option.map_eq_some_iff.1 ht
  have it:=run_storeCells_at P g 0 tb vs 0 cs.toArray w hb (by simp[hl]) iH
  refine⟨w.setRow g vs.toArray,?_,setRow_heap w g cs.toArray _ tb _ hb,⟨rfl,rfl,rfl,by simp,fun k _ hk=>setRow_other w g k _ (fun e=>hk (by simp[e]))⟩⟩
  have hd:cs.drop vs.length=[]:=by rw[←hl];simp
  simp only[Nat.zero_add,List.take_zero,List.nil_append,hd,List.append_nil] at it
  simp[execOp,h1 x _ hx,h1 y _ hy,Instr.storeAt,Instr.sureAddr,storeVar,cV rx,gf,Value.cells,it]
/-! append. -/
theorem j4 {t ty e:TypeId} {i:TypeInfo} (ht:P.underlying t=some (.slice e)) (hi:P.info? e=some i) {lo size:Nat} {A:Option Addr} {n c:Nat} {xs:List Value} (f7:Own w lo e size A n c xs) (k:Nat):
  (Builtin.append_ #[t,t] ty #[.slice A n c,.slice none 0 k]).run P w=.ok (.slice A n c) w:=by
 have EC:n≤c:=(Own.rd f7).1
 cases A with
 |none=>simp[Builtin.append_,run_underlying ht,cV hi,Builtin.lenOf,Builtin.firstCells,EC]
 |some a=>simp[Builtin.append_,run_underlying ht,cV hi,Builtin.lenOf,Builtin.firstCells,EC,storeCells]
/-- What an append leaves. -/
def sf (w:World) (lo:Nat) (e:TypeId) (size:Nat) (A:Option Addr) (n:Nat) (xs:List Value) (v:Value) (w':World):Prop:=
 ∃A' c',v=.slice A' n c'∧Own w' lo e size A' n c' xs∧Gr w w' (gI A)∧(gI A'=gI A∨gI A'=some w.heap.size)
theorem mj {t ty e:TypeId} {size bytes:Nat} {z:Value} (T:SliceTy P t e size bytes z) {lo:Nat} {A:Option Addr} {n c:Nat} {xs:List Value} (f7:Own w lo e size A n c xs)
  {l2 h2:Nat} {B:Option Addr} {m c2:Nat} {ys:List Value} (hr:Rd w l2 h2 size B m c2 ys) (h1:∀u∈ys,u.oneCell'=true) (hb:(n+m)*bytes≤140737488355328) (GP:n+m≤maxLen) (kn:lo≤w.heap.size):
  ∃v w',(Builtin.append_ #[t,t] ty #[.slice A n c,.slice B m c2]).run P w=.ok v w'∧sf w lo e size A (n+m) (xs++ys) v w':=by
 obtain⟨i,hi,hz,hs,Az⟩:=T.i
 have fin:∀(v':Value) (w':World),w'.ownsRow lo e size v' (n+m) (xs++ys)→w.grownBy w' (Value.ownBlock (.slice A n c))→(v'.ownBlock=Value.ownBlock (.slice A n c)∨v'.ownBlock=some w.heap.size)→sf w lo e size A (n+m) (xs++ys) v' w':=by
  intro v' w' h1 h2 h3
  rw[j7] at h2 h3
  rcases h1.2 with⟨rfl,h0⟩|⟨g,cap,cur,rfl,r⟩
  ·rw[h0] at h1 ⊢
   exact⟨none,0,rfl,h1,h2,h3⟩
  ·exact⟨some ⟨g,0,none⟩,cap,rfl,h1,h2,h3⟩
 by_cases Zr:ys=[]
 ·subst Zr
  have vw:m=0:=by
   have h:=hr.2.2.1
   rcases Nat.eq_zero_or_pos m with h0|h0
   ·exact h0
   ·have:=Nat.mul_pos h0 T.sz;simp at h;omega
  subst vw
  cases B with
  |none=>exact⟨_,_,j4 T.u hi f7 c2,fin _ _ (by simpa using f7) (World.grownBy.refl w _) (.inl rfl)⟩
  |some a=>
   obtain⟨v',w',lG,h2,h3,_,h5⟩:=run_append_own_at (P:=P) w lo t ty e i z size bytes T.u hi hz hs Az T.zs T.sz (.slice A n c) n xs f7 a 0 c2 [] (by simp) (fun j u hu=>by simp at hu) h1 GP hb kn
   exact⟨v',w',lG,fin _ _ h2 h3 h5⟩
 ·obtain⟨a,rfl,hc⟩:=Rd.cells hr Zr
  obtain⟨v',w',lG,h2,h3,_,h5⟩:=run_append_own_at (P:=P) w lo t ty e i z size bytes T.u hi hz hs Az T.zs T.sz (.slice A n c) n xs f7 a m c2 ys hr.2.2.1 hc h1 GP hb kn
  exact⟨v',w',lG,fin _ _ h2 h3 h5⟩
theorem j1 {t e:TypeId} {size bytes:Nat} {z:Value} (T:SliceTy P t e size bytes z) {s x:Operand} {lo:Nat} {A:Option Addr} {n c:Nat} {xs:List Value} (hs:ev L s=some (.slice A n c)) (f7:Own w lo e size A n c xs) {l2 h2:Nat} {B:Option Addr} {m c2:Nat} {ys:List Value} (hx:ev L x=some (.slice B m c2)) (hr:Rd w l2 h2 size B m c2 ys) (h1:∀u∈ys,u.oneCell'=true) (GP:n+m≤maxLen) (hb:(n+m)*bytes≤140737488355328:=by omega) (kn:lo≤w.heap.size:=by omega):
  OpRun P ⟨d,.call ⟨.builtin .append,#[s,x],#[t,t]⟩,ty,pos,aft,gd⟩ L w (sf w lo e size A (n+m) (xs++ys)):=
 eX fun ρ qd _=>by
  obtain⟨v,w',lG,hp⟩:=mj (ty:=ty) T f7 hr h1 hb GP kn
  refine⟨v,w',?_,hp⟩
  simp[execOp,resolve,invoke,builtin,qd s _ hs,qd x _ hx,lG]
/-- The same for bytes. -/
def CS (w:World) (lo:Nat) (e:TypeId) (A:Option Addr) (l:List UInt8) (v:Value) (w':World):Prop:=
 ∃A' c',v=.slice A' l.length c'∧OwnB w' lo e A' c' l∧Gr w w' (gI A)∧(gI A'=gI A∨gI A'=some w.heap.size)
theorem cG {t e:TypeId} (T:ByteTy P t e) {s x:Operand} {lo:Nat} {A:Option Addr} {c:Nat} {l:List UInt8} (f7:OwnB w lo e A c l) {l2 h2:Nat} {B:Option Addr} {c2:Nat} {m:List UInt8} (hr:RdB w l2 h2 B c2 m) (hs:ev L s=some (.slice A l.length c):=by exact rfl) (hx:ev L x=some (.slice B m.length c2):=by exact rfl) (hb:l.length+m.length≤140737488355328:=by omega) (kn:lo≤w.heap.size:=by omega):
  OpRun P ⟨d,.call ⟨.builtin .append,#[s,x],#[t,t]⟩,ty,pos,aft,gd⟩ L w (CS w lo e A (l++m)):=by
 refine(j1 T.s hs f7 hx hr (fun u hu=>?_) (by simp only[maxLen];omega) (kn:=kn)).mono ?_
 ·obtain⟨b,_,rfl⟩:=List.mem_map.1 hu;rfl
 ·rintro v w' ⟨A',c',rfl,h1,h2,h3⟩
  rw[←List.map_append] at h1
  refine⟨A',c',by rw[List.length_append],?_,h2,h3⟩
  unfold OwnB
  rw[List.length_append]
  exact h1
/-- Bytes appended to nil: a fresh row (or nil). -/
def km (w:World) (e:TypeId) (l:List UInt8) (v:Value) (w':World):Prop:=∃A c,v=.slice A l.length c∧OwnB w' w.heap.size e A c l∧Ext w w'
theorem jh {t e:TypeId} (T:ByteTy P t e) {s x:Operand} (hs:ev L s=some (.slice none 0 0)) {l2 h2:Nat} {B:Option Addr} {c2:Nat} {m:List UInt8} (hx:ev L x=some (.slice B m.length c2)) (hr:RdB w l2 h2 B c2 m) (hb:m.length≤140737488355328:=by omega):
  OpRun P ⟨d,.call ⟨.builtin .append,#[s,x],#[t,t]⟩,ty,pos,aft,gd⟩ L w (km w e m):=by
 refine(cG (l:=[]) T (Own.nil_ w w.heap.size e 1) hr (hs:=hs) (hx:=hx) (hb:=by simpa using hb) (kn:=Nat.le_refl _)).mono ?_
 rintro v w' ⟨A',c',rfl,h1,h2,h3⟩
 exact⟨A',c',rfl,h1,h2⟩
/-! Elements of a row of one's own. -/
theorem By {A:Option Addr} {row:Option Nat} (h:∀g,gI A=some g→∀g',row=some g'→g≠g'):gI A=none∨gI A≠row:=by
 cases hA:gI A with
 |none=>exact .inl rfl
 |some g=>exact .inr fun e=>h g hA g e.symm rfl
theorem m5 {t e:TypeId} {bytes:Nat} {z:Value} (T:SliceTy P t e 1 bytes z) {x y:Operand} {g n c:Nat} {k:IntKind} {i:Int} {m:Nat} (hx:ev L x=some (.slice (some ⟨g,0,none⟩) n c)) (hy:ev L y=some (.int k i)) (hi:i=(m:Int)) (qd:m<n:=by omega):
  db P ⟨d,.indexAddr t x y,ty,pos,aft,gd⟩ L w (.pointer (some ⟨g,m,none⟩)):=by
 subst hi
 have:=jT (d:=d) (ty:=ty) (pos:=pos) (aft:=aft) (gd:=gd) (w:=w) T hx hy
 rwa [Int.toNat_natCast,Nat.mul_one,Addr.add_lit,Nat.zero_add] at this
theorem OwnB.cellAt {lo:Nat} {e:TypeId} {g c:Nat} {l:List UInt8} (h:OwnB w lo e (some ⟨g,0,none⟩) c l) {k:Nat} (hk:k<l.length):w.cell? ⟨g,k,none⟩=some (j3 (l.getD k 0)):=by
 have:=World.ownsRow.cellAt h k (by omega)
 rw[this];simp[List.getD,hk]
theorem OwnB.set_ {lo:Nat} {e:TypeId} {g c:Nat} {l:List UInt8} (h:OwnB w lo e (some ⟨g,0,none⟩) c l) (k:Nat) (b:UInt8):OwnB (w.setCell ⟨g,k,none⟩ (j3 b)) lo e (some ⟨g,0,none⟩) c (l.set k b):=by
 have:=(World.ownsRow.stored h k (j3 b)).1
 unfold OwnB
 rw[List.length_set,List.map_set]
 exact this
theorem wg {t e:TypeId} {x y:Operand} {lo g k c:Nat} {l:List UInt8} {b:UInt8} (ht:(P.info? t).map (·.size)=some 1) (hx:ev L x=some (.pointer (some ⟨g,k,none⟩))) (hy:ev L y=some (j3 b)) (f7:OwnB w lo e (some ⟨g,0,none⟩) c l) (hk:k<l.length):
  OpRun P ⟨d,.store t x y,ty,pos,aft,gd⟩ L w fun _ w'=>OwnB w' lo e (some ⟨g,0,none⟩) c (l.set k b)∧Gr w w' (some g):=
 iM fun ρ h1 _=>by
  have mG:=OwnB.cellAt f7 hk
  have GK:=World.ownsRow.frozenAt f7 k
  obtain⟨inf,rx,gf⟩:=Option.map_eq_some_iff.1 ht
  refine⟨w.setCell ⟨g,k,none⟩ (j3 b),?_,OwnB.set_ f7 k b,n8 w ⟨g,k,none⟩ (j3 b)⟩
  have it:=run_store P w ⟨g,k,none⟩ (j3 b) .plain rfl
  rw[mG] at it
  simp only[GK] at it
  simp[execOp,h1 x _ hx,h1 y _ hy,Instr.storeAt,Instr.sureAddr,storeVar,cV rx,gf,Value.cells,storeCells,Addr.add_zero',it]
theorem C1 (x:UInt8):IntKind.u8.wrap ((x.toNat:Int)+1)=((x+1).toNat:Int):=by
 simp only[IntKind.wrap,IntKind.signed,IntKind.bits]
 have:=x.toNat_lt
 simp[UInt8.toNat_add]
def Na (L:Env):List (Nat×Operand)→Option (List (Nat×Value))
 |[]=>some []
 |(i,x)::xs=>match ev L x,Na L xs with
  |some v,some vs=>some ((i,v)::vs)
  |_,_=>none
theorem rR {ρ:Operand→Value} (h1:∀x v,ev L x=some v→ρ x=v):∀(ps:List (Nat×Operand)) (pv:List (Nat×Value)),Na L ps=some pv→ps.map (fun(p:Nat×Operand)=>(p.1,ρ p.2))=pv
 |[],pv,h=>by simp only[Na,Option.some.injEq] at h;subst h;rfl
 |(i,x)::ps,pv,h=>by
  simp only[Na] at h
  cases hx:ev L x with
  |none=>simp[hx] at h
  |some v=>
   cases hy:Na L ps with
   |none=>simp[hx,hy] at h
   |some ws=>
    simp only[hx,hy,Option.some.injEq] at h
    subst h
    simp[h1 x v hx,rR h1 ps ws hy]
/-! A literal slice. -/
theorem F0 (vs:List Value) (h1:∀u∈vs,u.oneCell'=true):∀(k:Nat) (cur:Array Value),k+vs.length≤cur.size→
  Instr.fill (fun i=>some (i*1,1)) cur ((vs.zipIdx k).map fun p=>(p.2,p.1))=some (cur.toList.take k++vs++cur.toList.drop (k+vs.length)).toArray:=by
 induction vs with
 |nil=>intro k cur hk;simp[Instr.fill]
 |cons v vs ih=>
  intro k cur hk
  have hv:v.cells=#[v]:=by have:=h1 v (by simp);cases v<;>first|rfl|(simp[Value.oneCell'] at this)
  simp only[List.length_cons] at hk
  simp only[List.zipIdx_cons,List.map_cons,Instr.fill,hv]
  rw[if_neg (by simp;omega)]
  have hf:(#[v]:Array Value).zipIdx.foldl (fun cs (c,j)=>cs.setIfInBounds (k*1+j) c) cur=cur.setIfInBounds k v:=by simp
  rw[hf,ih (fun u hu=>h1 u (by simp[hu])) (k+1) _ (by simp;omega)]
  have e:=list_seg_step cur.toList k v vs (by simp;omega)
  simp only[Array.toList_setIfInBounds]
  rw[e]
  have e2:k+(vs.length+1)=k+1+vs.length:=by omega
  simp[e2]
theorem j9 {t e:TypeId} {bytes:Nat} {z:Value} (T:SliceTy P t e 1 bytes z) {n:Nat} {parts:Array (Nat×Operand)} {os:List Operand} {vs:List Value} (hp:parts=((os.zipIdx).map fun p=>(p.2,p.1)).toArray) (hn:os.length=n) (hv:AH L os=some vs) (gf:n≤16777216) (iH:∀u∈vs,u.oneCell'=true:=by simp[Value.oneCell']):
  OpRun P ⟨d,.buildSlice t n parts,ty,pos,aft,gd⟩ L w fun v w'=>∃g,v=.slice (some ⟨g,0,none⟩) n n∧Blk w' g e vs∧Ext w w'∧w.heap.size≤g∧g<w'.heap.size∧vs.length=n:=
 eX fun ρ h1 h2=>by
  obtain⟨i,hi,hz,hs,Az⟩:=T.i
  have Qk:=h2 os vs hv
  have bI:vs.length=n:=by rw[←Qk,List.length_map,hn]
  subst hp
  have Ev:(os.zipIdx).map ((fun(x:Nat×Operand)=>(x.1,ρ x.2))∘fun p=>(p.2,p.1))=(vs.zipIdx 0).map fun p=>(p.2,p.1):=by
   rw[←Qk]
   simp[List.zipIdx_map]
  have JK:∀cur:Array Value,cur.size=n→Instr.fill (fun i=>some (i*1,1)) cur ((vs.zipIdx 0).map fun p=>(p.2,p.1))=some vs.toArray:=by
   intro cur hc
   rw[F0 vs iH 0 cur (by omega)]
   simp only[List.take_zero,List.nil_append,Nat.zero_add]
   rw[List.drop_of_length_le (by simp;omega),List.append_nil]
  refine⟨.slice (some ⟨w.heap.size,0,none⟩) n n,w.alloc (.cells vs.toArray e),?_,w.heap.size,rfl,Blk.new w e vs,nk w _,Nat.le_refl _,by simp,bI⟩
  by_cases p3:n=0
  ·have hf:=JK #[] (by simp[p3])
   simp only[execOp,Instr.buildSlice,Sem.run_bind,run_underlying T.u,Result.andThen_ok,cV hi,hs]
   simp[p3,Ev,Array.range_zero'] at hf ⊢
   simp[hf,newRow]
  ·have hf:=JK ((Array.range n).map fun x=>z.cells[x % z.cells.size]!) (by simp)
   have vy:¬(16777216<n):=by omega
   simp only[execOp,Instr.buildSlice,Sem.run_bind,run_underlying T.u,Result.andThen_ok,cV hi,hs]
   simp[p3,vy,Ev,zeroValue,typeInfo,hi,hz] at hf ⊢
   simp[hf,newRow]
/-- The same for elements of several cells: the row's cells are reckoned out of the parts. -/
theorem eW {t e:TypeId} {size bytes:Nat} {z:Value} (T:SliceTy P t e size bytes z) {n:Nat} {parts:List (Nat×Operand)} {pv:List (Nat×Value)} {cs:List Value} (hv:Na L parts=some pv) (hf:Instr.fill (fun i=>some (i*size,size)) ((Array.range (n*size)).map fun x=>z.cells[x % z.cells.size]!) pv=some cs.toArray:=by kernel_rfl) (hn:n*size≠0:=by decide) (gf:n*size≤16777216:=by decide):
  OpRun P ⟨d,.buildSlice t n parts.toArray,ty,pos,aft,gd⟩ L w fun v w'=>∃g,v=.slice (some ⟨g,0,none⟩) n n∧Blk w' g e cs∧Ext w w'∧w.heap.size≤g∧g<w'.heap.size:=
 eX fun ρ h1 h2=>by
  obtain⟨i,hi,hz,hs,Az⟩:=T.i
  have U8:=rR h1 parts pv hv
  have vy:¬(16777216<n*size):=by omega
  refine⟨.slice (some ⟨w.heap.size,0,none⟩) n n,w.alloc (.cells cs.toArray e),?_,w.heap.size,rfl,Blk.new w e cs,nk w _,Nat.le_refl _,by simp⟩
  simp only[execOp,Instr.buildSlice,Sem.run_bind,run_underlying T.u,Result.andThen_ok,cV hi,hs,List.map_toArray]
  simp only[U8]
  simp[hn,vy,zeroValue,typeInfo,hi,hz] at hf ⊢
  simp[hf,newRow]
theorem dn {t e:TypeId} (T:ByteTy P t e) {n:Nat} {parts:Array (Nat×Operand)} {os:List Operand} {l:List UInt8} (hp:parts=((os.zipIdx).map fun p=>(p.2,p.1)).toArray:=by exact rfl) (hn:os.length=n:=by exact rfl) (hv:AH L os=some (l.map j3):=by exact rfl) (gf:n≤16777216:=by decide):
  OpRun P ⟨d,.buildSlice t n parts,ty,pos,aft,gd⟩ L w (km w e l):=by
 refine(j9 T.s hp hn hv gf (iH:=fun u hu=>by obtain⟨b,_,rfl⟩:=List.mem_map.1 hu;rfl)).mono ?_
 rintro v w' ⟨g,rfl,hb,he,h1,h2,h3⟩
 have hl:l.length=n:=by simpa using h3
 subst hl
 refine⟨some ⟨g,0,none⟩,l.length,rfl,⟨by simp,.inr ⟨g,l.length,_,rfl,h1,hb,Nat.le_refl _,by simp only[maxLen];omega,by simp,?_⟩⟩,he⟩
 rw[List.take_of_length_le (by simp)]
/-- make([]byte, n). -/
theorem l9 (z:Value) (n:Nat):(madeCells #[z] n).toList=List.replicate n z:=toList_madeCells_one z n
theorem tV {t e:TypeId} (T:ByteTy P t e) {x y:Operand} {k:IntKind} {n:Nat} {i:Int} (hx:ev L x=some (.int k i)) (hy:ev L y=some (.int k i)) (hi:i=n) (hb:n≤140737488355328):
  OpRun P ⟨d,.makeSlice t x y,ty,pos,aft,gd⟩ L w (km w e (List.replicate n 0)):=
 eX fun ρ h1 _=>by
  obtain⟨inf,qb,hz,hs,Az⟩:=T.s.i
  subst hi
  obtain⟨w',hr,f7,hg⟩:=run_make_full (P:=P) w w.heap.size t e inf (.int .u8 0) 1 T.s.u qb hz hs k k n (by rw[Az];omega) (by simp only[maxLen];omega) (Nat.le_refl _)
  refine⟨_,w',?_,some ⟨w.heap.size,0,none⟩,n,by rw[List.length_replicate],?_,hg⟩
  ·simp[execOp,h1 x _ hx,h1 y _ hy,hr]
  ·unfold OwnB
   rw[List.length_replicate,List.map_replicate]
   have:(madeCells (Value.int .u8 0).cells (n*1)).toList=List.replicate n (j3 0):=by rw[Nat.mul_one];exact toList_madeCells_one _ n
   rw[this] at f7
   exact f7
/-- '[]byte(s)' of a string. -/
theorem we {s t e:TypeId} (T:ByteTy P t e) (hs:P.underlying s=some .string) {x:Operand} {l:List UInt8} (hx:ev L x=some (.string (av l))) (hb:l.length≤maxLen):
  OpRun P ⟨d,.convert s t x,ty,pos,aft,gd⟩ L w fun v w'=>∃A c,v=.slice A l.length c∧RdB w' w.heap.size w'.heap.size A c l∧Ext w w':=
 eX fun ρ h1 _=>by
  have hr:=Lib.run_convert_string_bytes (P:=P) w s t e (av l) hs T.s.u T.e
  have gf:(av l).size=l.length:=by simp[ByteArray.size]
  refine⟨.slice (some ⟨w.heap.size,0,none⟩) l.length (grownCap w (av l).size 0 e),Lib.bytesWorld w e (av l),by simp only[execOp,h1 x _ hx,hr,Sem.run_bind,Result.andThen_ok,Sem.run_pure,gf],some ⟨w.heap.size,0,none⟩,_,rfl,⟨?_,?_,by simp,fun _=>⟨_,rfl,Nat.le_refl _,?_,fun j u hu=>?_⟩⟩,⟨?_,?_,?_,?_,fun k hk _=>Lib.bytesWorld_at_old w e (av l) k hk⟩⟩
  ·have:=grownCap_ge w (av l).size 0 e;simpa [ByteArray.size] using this
  ·exact grownCap_le_maxLen w (av l).size 0 e (by simpa [ByteArray.size] using hb)
  ·rw[Lib.bytesWorld_size];simp
  ·have hj:j<l.length:=by
    rcases Nat.lt_or_ge j l.length with h|h
    ·exact h
    ·rw[List.getElem?_eq_none (by simpa using h)] at hu;cases hu
   rw[Addr.add_lit,Nat.zero_add,Lib.bytesWorld_cell w e (av l) j (by simpa [ByteArray.size] using hj)]
   simp[hj] at hu
   subst hu
   simp[List.getD,hj]
  ·simp[Lib.bytesWorld,World.freeze,World.alloc,World.drew,-World.alloc_eq,-World.drew_eq]
  ·simp[Lib.bytesWorld,World.freeze,World.alloc,World.drew,-World.alloc_eq,-World.drew_eq]
  ·simp[Lib.bytesWorld,World.freeze,World.alloc,World.drew,-World.alloc_eq,-World.drew_eq]
  ·rw[Lib.bytesWorld_size];omega
/-! Calls. -/
def aX (P:Program) (f:FuncId):Bool:=match P.funcs[f]? with
 | some fn => !(fn.name == "runtime.NumGoroutine") && fn.body.isSome
 |none=>false
theorem r7 {f:FuncId} (h:aX P f=true) (args:Array Value):(callFunc f args).run P w=.ok (.enter f args) w:=by
 unfold aX at h
 cases hf:P.funcs[f]? with
 |none=>simp[hf] at h
 |some fn=>
  simp only[hf,Bool.and_eq_true,Bool.not_eq_true'] at h
  have hb:¬fn.body=none:=by cases hb:fn.body<;>simp[hb] at h ⊢
  have hn : ¬ fn.name = "runtime.NumGoroutine" := by simpa using h.1
  simp[callFunc,hf,hn,hb]
theorem tW {f:FuncId} {fo:Operand} {args:List Operand} {tys:Array TypeId} {first caps:Array Value} {vs:List Value} {Post:Value→World→Prop} (nB:aX P f=true)
  (sF:ev L fo=some (.func (.func f) first caps)) (ha:AH L args=some vs) (hc:Fn P f (first++vs.toArray++caps) w Post):
  OpRun P ⟨d,.call ⟨.value fo,args.toArray,tys⟩,ty,pos,aft,gd⟩ L w Post:=by
 intro a n K Q hA hk
 have Q1:=hA.evals ha
 have hfv:=hA.eval sF
 have lG:(execOp a.eval ⟨d,.call ⟨.value fo,args.toArray,tys⟩,ty,pos,aft,gd⟩).run P w=.ok (.enter f (first++vs.toArray++caps)) w:=by
  simp[execOp,resolve,invoke,hfv,Deferred.ofValue,r7 nB,Q1]
 unfold Oper.wp
 rw[lG]
 simp only[Oper.upon]
 refine Calls.mono hc ?_
 rintro e w' ⟨v,rfl,hp⟩
 exact hk v w' hp
theorem aw {f:FuncId} {fo:Operand} {args:List Operand} {tys:Array TypeId} {vs:List Value} {Post:Value→World→Prop} (nB:aX P f=true) (hc:Fn P f vs.toArray w Post) (sF:ev L fo=some (.func (.func f) #[] #[]):=by exact rfl) (ha:AH L args=some vs:=by exact rfl):
  OpRun P ⟨d,.call ⟨.value fo,args.toArray,tys⟩,ty,pos,aft,gd⟩ L w Post:=
 tW nB sF ha (by simpa using hc)
theorem wb {f:FuncId} {fi ca:List Operand} {vs us:List Value} (hf:AH L fi=some vs) (hc:AH L ca=some us):db P ⟨d,.makeFunc (.func f) fi.toArray ca.toArray,ty,pos,aft,gd⟩ L w (.func (.func f) vs.toArray us.toArray):=
 cf fun ρ h1 h2=>by simp[execOp,Instr.makeFunc,h2 fi vs hf,h2 ca us hc]
/-! A struct built of parts. -/
def fj (P:Program) (t:TypeId):Option (List (Nat×Nat)):=
 match P.underlying t with
 |some (.struct fs)=>fs.toList.mapM fun f=>(P.info? f.type).map fun i=>(f.offset,i.size)
 |_=>none
theorem qM:∀(fs:List Field) (ps:List (Nat×Nat)),fs.mapM (fun f=>(P.info? f.type).map fun i=>(f.offset,i.size))=some ps→((fs.mapM fun f=>(Functor.map (Prod.mk f.offset) (sizeOf f.type):Sem (Nat×Nat)))).run P w=.ok ps w
 |[],ps,h=>by
  simp at h;subst h;rfl
 |f::fs,ps,h=>by
  rw[List.mapM_cons] at h ⊢
  cases hi:P.info? f.type with
  |none=>simp[hi] at h
  |some i=>
   simp only[hi,Option.map_some,Option.bind_eq_bind,Option.bind_some] at h
   cases hr:fs.mapM (fun f=>(P.info? f.type).map fun i=>(f.offset,i.size)) with
   |none=>simp[hr] at h
   |some qs=>
    simp[hr] at h
    subst h
    simp[cV hi,qM fs qs hr]
theorem bi {t:TypeId} {parts:List (Nat×Operand)} {z:Value} {pl:List (Nat×Nat)} {pv:List (Nat×Value)} {cs:List Value} (hz:fV P t=some z) (hp:fj P t=some pl) (hv:Na L parts=some pv:=by exact rfl) (hf:Instr.fill (fun i=>pl[i]?) z.cells pv=some cs.toArray:=by exact rfl):
  db P ⟨d,.build t parts.toArray,ty,pos,aft,gd⟩ L w (.agg cs.toArray):=
 cf fun ρ h1 _=>by
  unfold fj at hp
  split at hp
  ·rename_i fs hu
   have hm:=qM (P:=P) (w:=w) fs.toList pl hp
   have U8:=rR h1 parts pv hv
   have hma:(fs.mapM fun f=>(do pure (f.offset,←sizeOf f.type):Sem (Nat×Nat))).run P w=.ok pl.toArray w:=by
    rw[Array.mapM_eq_mapM_toList]
    simp only[Sem.run_map,bind_pure_comp,hm,Result.andThen_ok]
   simp only[execOp,Instr.build,Sem.run_bind,vC hz,Result.andThen_ok,run_underlying hu,hma,List.map_toArray,U8,List.getElem?_toArray,hf]
   rfl
  ·cases hp
end
end Go.Proofs.YtiighkbehiddkaaGreat
namespace Go.Proofs.YtiighkbehiddkaaGreat
set_option linter.unusedVariables false
open Go.ChangeShapes Go.WideShapes Go.ChangeAt Go.RowKit
section
variable {H:Type} {br:TypeId×Value→H} {P:Program} {W W':World}
/-- Every type of the list can be read, wherever it leads. -/
def qI (P:Program) (ts:List TypeId):Bool:=ts.all fun t=>P.readableRec t&&decide (t<P.types.size)
theorem nw (hl:laidOutB P=true) (hb:Below W.heap.size W W') {sp:Nat→Bool}:∀{ts:List TypeId} {vs:List Value} {ds:List (DataW H)} {ps:List MemPlace},
  qI P ts=true→(∀x∈ps,x.block<W.heap.size)→(∀x∈ps,sp x.block=true)→DataW.TrodAll br P W 0 (fun _=>true) true ts vs ds ps→DataW.TrodAll br P W' 0 sp true ts vs ds ps
 |[],[],[],_,_,_,_,h=>h
 |[],[],_::_,_,_,_,_,h=>h.elim
 |[],_::_,_,_,_,_,_,h=>h.elim
 |_::_,[],_,_,_,_,_,h=>h.elim
 |_::_,_::_,[],_,_,_,_,h=>h.elim
 |t::ts,v::vs,d::ds,ps,hr,lc,hs,⟨p,q,h1,h2,e⟩=>by
  subst e
  unfold qI at hr
  simp only[List.all_cons,Bool.and_eq_true,decide_eq_true_eq] at hr
  exact⟨p,q,WideElems.Trod_stays hl hr.1.1 hr.1.2 h1 (fun x hx=>hb.same (lc x (List.mem_append_left _ hx))) (fun x hx=>hs x (List.mem_append_left _ hx)),
   nw hl hb (by simpa [qI] using hr.2) (fun x hx=>lc x (List.mem_append_right _ hx)) (fun x hx=>hs x (List.mem_append_right _ hx)) h2,rfl⟩
theorem DT {f:Func} {s:ChangeSpec} {apart fresh uN again:Bool} {args:Array Value} {ds gs:List (DataW H)} {before:List MemPlace} {tb:TypeId}
  (hl:laidOutB P=true) (Eg:qI P f.params.toList=true) (ri:f.resultTypes=#[tb]) (Tf:P.underlying tb=some .bool) (s9:s.vars=[])
  (JJ:s.fn H (ds++gs)={results:=[.lit (.bool true)],args:=ds})
  (hW:DataW.Whole br P f.params.toList s.vars apart W args.toList ds gs before) (hE:Ext W W'):
  s.post br P f apart fresh uN again W args (.bool true) W':=by
 have lc:=hW.lt
 have Xg:=hW
 obtain⟨p,q,hA,hV,rfl,hfz,H9⟩:=hW
 rw[s9] at hV
 have hq:gs=[]∧q=[]:=by
  cases gs with
  |nil=>exact⟨rfl,hV⟩
  |cons _ _=>exact hV.elim
 obtain⟨rfl,rfl⟩:=hq
 have hb:=hE.below
 have key:∀sp:Nat→Bool,(∀x∈p++[],sp x.block=true)→DataW.TrodAll br P W' 0 sp true f.params.toList args.toList ds p:=fun sp hs=>
  nw hl hb Eg (fun x hx=>lc x (by simpa using hx)) (fun x hx=>hs x (by simpa using hx)) hA
 have Vm:(Value.bool true).resultList f.resultTypes.size=[.bool true]:=by rw[ri];rfl
 have hR:∀(b:Nat) (sp:Nat→Bool) (hd:Bool),DataW.TrodAll br P W' b sp hd f.resultTypes.toList ((Value.bool true).resultList f.resultTypes.size) [.lit (.bool true)] []:=by
  intro b sp hd
  rw[Vm,ri]
  exact⟨[],[],shut_bool Tf true,rfl,rfl⟩
 have BO:∀x∈p++[],(fun b=>decide (b<W.heap.size)) x.block=true:=fun x hx=>by simpa using lc x hx
 refine⟨ds,[],p++[],[],p,[],Xg,by rw[JJ];exact hR _ _ _,by rw[JJ];exact key _ BO,by rw[JJ,s9];exact rfl,hb.frame _,fun _=>⟨?_,?_⟩⟩
 ·exact ok_one ri rfl (okWide_bool_mk Tf true)
 ·refine⟨[.lit (.bool true)]++ds,[],([]++p)++[],⟨[]++p,[],trodAll_append (key _ fun _ _=>rfl) (hR _ _ _),by rw[s9];exact rfl,rfl,?_,?_⟩,?_⟩
  ·intro b off hp
   have ZX:MemPlace.cell b off∈p++[]:=by simpa using hp
   rw[hb.frozen (lc _ ZX)]
   exact hfz b off ZX
  ·intro ha
   simpa using H9 ha
  ·intro x hx _
   simpa using hx
/-- What is known of an argument. -/
def vi (br:TypeId×Value→H) (P:Program) (W:World) (t:TypeId) (v:Value) (d:DataW H):Prop:=
 ∃ps b0,Value.okWide P W .any b0 t v∧DataW.Trod br P W 0 (fun _=>true) true t v d ps∧∀n∈d.weights P t,n≤reachBytes
def se (br:TypeId×Value→H) (P:Program) (W:World):List TypeId→List Value→List (DataW H)→Prop
 |[],[],[]=>True
 |t::ts,v::vs,d::ds=>vi br P W t v d∧se br P W ts vs ds
 |_,_,_=>False
theorem xJ {P:Program} {W:World}:∀{ts ts':List TypeId} {vs:List Value} {ds gs:List (DataW H)} {ps:List MemPlace},
  (∀(j:Nat) t v,ts[j]?=some t→vs[j]?=some v→∃b0,Value.okWide P W .any b0 t v)→DataW.TrodAll br P W 0 (fun _=>true) true ts vs ds ps→
  (DataW.weightsEach P (ts++ts') (ds++gs)).all (· ≤reachBytes)=true→se br P W ts vs ds
 |[],_,[],[],_,_,_,_,_=>trivial
 |[],_,[],_::_,_,_,_,h,_=>h.elim
 |[],_,_::_,_,_,_,_,h,_=>h.elim
 |_::_,_,[],_,_,_,_,h,_=>h.elim
 |_::_,_,_::_,[],_,_,_,h,_=>h.elim
 |t::ts,ts',v::vs,d::ds,gs,ps,hv,⟨p,q,h1,h2,e⟩,hw=>by
  simp only[List.cons_append,DataW.weightsEach,List.all_append,Bool.and_eq_true,List.all_eq_true,decide_eq_true_eq] at hw
  obtain⟨b0,hb⟩:=hv 0 t v rfl rfl
  exact⟨⟨p,b0,hb,h1,hw.1⟩,xJ (fun j t' v' ht hv'=>hv (j+1) t' v' ht hv') h2 (by simpa [List.all_eq_true] using hw.2)⟩
/-- THE LAW. -/
theorem yB {a:Assume} {C:Checked} {os:Os} {f:FuncId} {fn:Func} {s:ChangeSpec} {conds:List PathCond} {apart fresh uN again:Bool} {tb:TypeId}
  (own:ownKnob C.prog.godebug=none) (started:os.Started) (noInit:C.prog.inits.idxOf? f=none) (JJ:C.prog.funcs[f]?=some fn)
  (witness : ∃ (w : World) (tape : Tape) (i : Input), w.os = os ∧ (w.forCall tape i).Shaped C.prog ∧ i.vars = [] ∧ Input.okWide C.prog (w.forCall tape i) .any w.heap.size f i ∧
   s.pre6 br C.prog fn conds apart (w.forCall tape i).memory i.args∧a.holds C.prog (lone (Frame.enter C.prog f i.args .normal) [] (w.forCall tape i)))
  (hl:laidOutB C.prog=true) (Eg:qI C.prog fn.params.toList=true) (ri:fn.resultTypes=#[tb]) (Tf:C.prog.underlying tb=some .bool) (s9:s.vars=[])
  (hs:∀ds:List (DataW H),ds.length=fn.params.toList.length→s.fn H ds={results:=[.lit (.bool true)],args:=ds})
  (walk:∀(W:World) (args:Array Value) (ds:List (DataW H)),se br C.prog W fn.params.toList args.toList ds→Fn C.prog f args W fun v w'=>v=.bool true∧Ext W w'):
  ReturnsInHanded a C os f .any (s.pre6 br C.prog fn conds apart) (s.post br C.prog fn apart fresh uN again):=by
 refine returnsInHanded_of_change_sized own started noInit JJ witness ?_
 intro W base args ds gs before KR hW hcnd hwt _
 have Xg:=hW
 obtain⟨p,q,hA,hV,_⟩:=hW
 rw[s9] at hV
 have hgs:gs=[]:=by
  cases gs with
  |nil=>rfl
  |cons _ _=>exact hV.elim
 subst hgs
 have bI:∀{ts:List TypeId} {vs:List Value} {ds:List (DataW H)} {ps:List MemPlace},DataW.TrodAll br C.prog W 0 (fun _=>true) true ts vs ds ps→ds.length=ts.length:=by
  intro ts
  induction ts with
  |nil=>
   intro vs ds ps h
   cases vs with
   |nil=>cases ds with
    |nil=>rfl
    |cons _ _=>exact h.elim
   |cons _ _=>exact h.elim
  |cons t ts ih=>
   intro vs ds ps h
   cases vs with
   |nil=>exact h.elim
   |cons v vs=>cases ds with
    |nil=>exact h.elim
    |cons d ds=>obtain⟨_,_,_,h2,_⟩:=h;simp[ih h2]
 refine Calls.mono (walk W args ds (xJ (gs:=[]) (fun j t v ht hv=>⟨base,KR j t v (by simpa using ht) (by simpa using hv)⟩) hA (by simpa using hwt))) ?_
 rintro e W1 ⟨v,rfl,rfl,hE⟩
 exact⟨_,rfl,DT hl Eg ri Tf s9 (by simpa using hs ds (bI hA)) Xg hE⟩
end
/-! The arguments, opened. -/
section
variable {H:Type} {br:TypeId×Value→H} {P:Program} {W:World}
theorem rZ {t:TypeId} {ts:List TypeId} {vs:List Value} {ds:List (DataW H)} (h:se br P W (t::ts) vs ds):∃v r d rs,vs=v::r∧vi br P W t v d∧se br P W ts r rs:=by
 cases vs with
 |nil=>exact h.elim
 |cons v r=>cases ds with
  |nil=>exact h.elim
  |cons d rs=>exact⟨v,r,d,rs,rfl,h.1,h.2⟩
theorem CE {vs:List Value} {ds:List (DataW H)} (h:se br P W [] vs ds):vs=[]:=by
 cases vs with
 |nil=>rfl
 |cons v r=>exact h.elim
theorem Ng {t0 t1:TypeId} {args:Array Value} {ds:List (DataW H)} (h:se br P W [t0,t1] args.toList ds):∃v0 v1 d0 d1,args=#[v0,v1]∧vi br P W t0 v0 d0∧vi br P W t1 v1 d1:=by
 obtain⟨v0,r0,d0,rs0,e0,h0,h⟩:=rZ h
 obtain⟨v1,r1,d1,rs1,rfl,h1,h⟩:=rZ h
 have e:=CE h
 subst e
 exact⟨v0,v1,d0,d1,Array.toList_inj.1 e0,h0,h1⟩
/-- Cells of bytes. -/
def NF (zs:List Int):List UInt8:=zs.map fun z=>UInt8.ofNat z.toNat
/-- A slice of bytes, out of its cell's reading. -/
theorem x4 {t e:TypeId} {sp:Nat→Bool} (ht:P.underlying t=some (.slice e)) (he:P.underlying e=some (.int .u8)) (hc:P.cellsOf e=1) {cs:List Value} {fuel:Nat} {x:DataW H×List MemPlace}
  (h:DataW.trod br P W 0 sp true fuel t cs=some x):∃A c l,cs=[.slice A (List.length l) c]∧RdB W 0 W.heap.size A c l:=by
 rcases open_ints ht he hc h with⟨tj,_⟩|⟨a,len,cap,zs,tj,_,hl,hm,hz,_,mG,hwf⟩
 ·exact⟨none,0,[],tj,RdB.nil _ _ _⟩
 ·have vy:len≤zs.length:=by rw[hz];split<;>omega
  have bI:(NF (zs.take len)).length=len:=by simp[NF,Nat.min_eq_left vy]
  refine⟨some a,cap,NF (zs.take len),by rw[bI];exact tj,?_⟩
  refine Rd.top (hi:=W.heap.size) ?_|>.mono (Nat.le_refl _) (Nat.le_refl _)
  refine⟨by rw[bI];exact hl,hm,by simp[bI],fun eB=>⟨a,rfl,Nat.zero_le _,?_,?_⟩⟩
  ·have h0:0<len:=by
    rcases Nat.eq_zero_or_pos len with h0|h0
    ·subst h0;exact absurd (by simp[NF]) eB
    ·exact h0
   have:=World.block_lt_of_cell? W _ (mG 0 (by omega))
   have hb:(a.add 0).block=a.block:=by unfold Addr.add;split<;>rfl
   rw[hb] at this
   exact this
  ·intro j u hu
   have hj:j<len:=by
    have:=(List.getElem?_eq_some_iff.1 hu).1
    simpa [bI] using this
   rw[mG j (by omega)]
   have hw:=hwf (zs.getD j 0) (by
    have:j<zs.length:=by omega
    simp[List.getD,List.getElem?_eq_getElem this])
   rw[List.getElem?_map] at hu
   have We:j<zs.length:=by omega
   have Zq:0≤zs.getD j 0∧zs.getD j 0<256:=by
    simp only[Lit.wf,IntKind.min,IntKind.max,IntKind.signed,IntKind.bits,Bool.and_eq_true] at hw
    have h2:=of_decide_eq_true hw.1
    have h3:=of_decide_eq_true hw.2
    constructor
    ·exact h2
    ·have:zs.getD j 0≤255:=h3
     omega
   have e1:(NF (zs.take len))[j]?=some (UInt8.ofNat (zs.getD j 0).toNat):=by
    simp[NF,hj,List.getD,List.getElem?_eq_getElem We]
   rw[e1] at hu
   simp only[Option.map_some,Option.some.injEq] at hu
   subst hu
   have h1:(UInt8.ofNat (zs.getD j 0).toNat).toNat=(zs.getD j 0).toNat:=by
    rw[UInt8.toNat_ofNat']
    omega
   show some (Value.int .u8 (zs.getD j 0))=some (Value.int .u8 ((UInt8.ofNat (zs.getD j 0).toNat).toNat:Int))
   rw[h1,Int.toNat_of_nonneg Zq.1]
end
end Go.Proofs.YtiighkbehiddkaaGreat
namespace Go.Proofs.YtiighkbehiddkaaGreat
set_option linter.unusedVariables false
theorem kU {x:Int} (h1:-9223372036854775808≤x:=by omega) (h2:x≤9223372036854775807:=by omega):IntKind.i64.wrap x=x:=by rw[IntKind.wrap_i64];omega
theorem sl {x:Int} (h1:0≤x:=by omega) (h2:x≤18446744073709551615:=by omega):IntKind.u64.wrap x=x:=by
 simp only[IntKind.wrap,IntKind.signed,IntKind.bits]
 simp
 omega
theorem wu8 {x:Int} (h1:0≤x) (h2:x≤255):IntKind.u8.wrap x=x:=by
 simp only[IntKind.wrap,IntKind.signed,IntKind.bits]
 simp
 omega
theorem Tz (x:Int):IntKind.u8.wrap x=x % 256:=by
 simp only[IntKind.wrap,IntKind.signed,IntKind.bits]
 simp
theorem bt {p:Prop} {_:Decidable p} (h:p):Value.bool (decide p)=.bool true:=congrArg Value.bool (decide_eq_true h)
theorem bf {p:Prop} {_:Decidable p} (h:¬p):Value.bool (decide p)=.bool false:=congrArg Value.bool (decide_eq_false h)
/-- The number that bytes begin with, from its i-th group on: number, size, error. -/
def eQ (i da:Nat):List UInt8→Nat×Nat×Nat
 |[]=>(0,0,4)
 |c::cs=>
  if(i=9∧1<c.toNat)∨(0<i∧c.toNat=0) then(0,0,6)
  else if c.toNat<128 then(da+c.toNat*128 ^ i,i+1,0)
  else eQ (i+1) (da+(c.toNat % 128)*128 ^ i) cs
def bd (l:List UInt8):Nat×Nat×Nat:=eQ 0 0 l
/-- The encoding of a number, with fuel. -/
def me:Nat→Nat→List UInt8
 |0,_=>[]
 |f+1,n=>if n<128 then[UInt8.ofNat n] else UInt8.ofNat (128+n % 128)::me f (n / 128)
def br (n:Nat):List UInt8:=me 10 n
theorem gh:∀(l:List UInt8) (i da:Nat),i≤9→da<128 ^ i→
  (eQ i da l).1<18446744073709551616∧(eQ i da l).2.1≤i+l.length∧((eQ i da l).2.2=0∨(eQ i da l).2.2=4∨(eQ i da l).2.2=6)∧
  ((eQ i da l).2.2≠0→(eQ i da l).1=0∧(eQ i da l).2.1=0)∧((eQ i da l).2.2=0→i+1≤(eQ i da l).2.1∧(eQ i da l).2.1≤10)
 |[],i,da,_,_=>by simp[eQ]
 |c::cs,i,da,hi,ha=>by
  have hc:=c.toNat_lt
  simp only[eQ,List.length_cons]
  have h9:i≤8→128 ^ i≤72057594037927936:=fun h=>by
   have:=Nat.pow_le_pow_right (n:=128) (by omega) h;simpa using this
  have h99:i=9→128 ^ i=9223372036854775808:=fun h=>by subst h;rfl
  split
  ·simp
  ·rename_i hb
   split
   ·rename_i lc
    refine⟨?_,by show i+1≤i+(cs.length+1);omega,by simp,by simp,fun _=>⟨by simp,by show i+1≤10;omega⟩⟩
    by_cases e:i=9
    ·have dM:c.toNat≤1:=by omega
     have:=h99 e
     simp only
     have:c.toNat*128 ^ i≤1*128 ^ i:=Nat.mul_le_mul_right _ dM
     omega
    ·have:=h9 (by omega)
     simp only
     have:c.toNat*128 ^ i≤127*128 ^ i:=Nat.mul_le_mul_right _ (by omega)
     omega
   ·rename_i NT
    have hi8:i≤8:=by omega
    have hm:(c.toNat % 128)*128 ^ i≤127*128 ^ i:=Nat.mul_le_mul_right _ (by omega)
    have ih:=gh cs (i+1) (da+(c.toNat % 128)*128 ^ i) (by omega) (by omega)
    obtain⟨h1,h2,h3,h4,h5⟩:=ih
    exact⟨h1,by omega,h3,h4,fun h=>⟨by have:=(h5 h).1;omega,(h5 h).2⟩⟩
theorem m1 (l:List UInt8):(bd l).1<18446744073709551616:=(gh l 0 0 (by omega) (by simp)).1
theorem gA (l:List UInt8):(bd l).2.1≤l.length:=by have:=(gh l 0 0 (by omega) (by simp)).2.1;simpa [bd] using this
theorem vH (l:List UInt8):(bd l).2.2=0∨(bd l).2.2=4∨(bd l).2.2=6:=(gh l 0 0 (by omega) (by simp)).2.2.1
theorem vJ (l:List UInt8) (h:(bd l).2.2≠0):(bd l).1=0∧(bd l).2.1=0:=(gh l 0 0 (by omega) (by simp)).2.2.2.1 h
theorem GY (l:List UInt8) (h:(bd l).2.2=0):1≤(bd l).2.1∧(bd l).2.1≤10:=by have:=(gh l 0 0 (by omega) (by simp)).2.2.2.2 h;simpa [bd] using this
/-- One round of a reader's loop. -/
theorem nG (l:List UInt8) (i da:Nat) (hi:i<l.length):
  eQ i da (l.drop i)=if(i=9∧1<(l.getD i 0).toNat)∨(0<i∧(l.getD i 0).toNat=0) then(0,0,6)
   else if(l.getD i 0).toNat<128 then(da+(l.getD i 0).toNat*128 ^ i,i+1,0)
   else eQ (i+1) (da+((l.getD i 0).toNat % 128)*128 ^ i) (l.drop (i+1)):=by
 rw[List.drop_eq_getElem_cons hi,eQ]
 simp[List.getD,hi]
/-- The bits of a program's number and the sums of a reference's are the same. -/
theorem Ku (da c i:Nat) (ha:da<128 ^ i):da|||c*128 ^ i=da+c*128 ^ i:=by
 have e:(128:Nat)^ i=2 ^(7*i):=by rw[Nat.pow_mul]
 rw[e] at ha ⊢
 have:=Nat.two_pow_add_eq_or_of_lt ha c
 rw[Nat.or_comm,Nat.mul_comm c,←this,Nat.add_comm]
theorem nJ (i:Nat) (h:i≤9:=by omega):128 ^ i≤9223372036854775808:=by
 have:=Nat.pow_le_pow_right (n:=128) (by omega) h;simpa using this
theorem vg (c:Nat) (h:c<256):bits .and .u8 (c:Int) 127=((c % 128:Nat):Int):=by
 have:=u8_and_nat c 127 h (by omega)
 rw[show((127:Nat):Int)=127 from rfl] at this
 rw[this]
 congr 1
 exact Nat.and_two_pow_sub_one_eq_mod c 7
theorem OP (n:Nat):bits .or .u8 ((n % 256:Nat):Int) 128=((128+n % 128:Nat):Int):=by
 have hb:bits .or .u8 ((n % 256:Nat):Int) ((128:Nat):Int)=((n % 256|||128:Nat):Int):=u8_or_nat (n % 256) 128 (by omega) (by omega)
 rw[show((128:Nat):Int)=128 from rfl] at hb
 rw[hb]
 congr 1
 have h7:n % 128<2 ^ 7:=by omega
 have:=Nat.two_pow_add_eq_or_of_lt h7 1
 by_cases h:n % 256<128
 ·have e:n % 256=n % 128:=by omega
  rw[e,Nat.or_comm]
  simpa using this.symm
 ·have e:n % 256=128+n % 128:=by omega
  have e2:(128+n % 128)=(2 ^ 7*1|||n % 128):=by simpa using this
  rw[e,e2,Nat.or_comm,←Nat.or_assoc]
  simp
theorem vK (a b:Nat):(a:Int).tmod (b:Int)=((a % b:Nat):Int):=rfl
theorem N7 (a b:Nat):(a:Int).tdiv (b:Int)=((a / b:Nat):Int):=rfl
theorem wC (a b:Nat) (h:a*b≤18446744073709551615):IntKind.u64.wrap ((a:Int)*(b:Int))=((a*b:Nat):Int):=by
 rw[←Int.natCast_mul];exact sl
theorem CN (a b:Nat) (h:a+b≤18446744073709551615):IntKind.u64.wrap ((a:Int)+(b:Int))=((a+b:Nat):Int):=by
 rw[←Int.natCast_add];exact sl
theorem N1 (m:Nat):IntKind.u8.wrap (m:Int)=((m % 256:Nat):Int):=by rw[Tz];omega
theorem J3 (m:Nat):IntKind.u8.wrap (m:Int)=((UInt8.ofNat m).toNat:Int):=by rw[N1];simp
theorem Kv (m:Nat):bits .or .u8 ((m % 256:Nat):Int) 128=((UInt8.ofNat (128+m % 128)).toNat:Int):=by
 rw[OP]
 congr 1
 simp
 omega
theorem TF (m:Nat):(m:Int)/ 2 ^(7:Int).toNat=((m / 128:Nat):Int):=by
 rw[show(7:Int).toNat=7 from rfl]
 omega
/-- uint64(c) << (7 * i) behind an or. -/
theorem mp (da c i:Nat) (hi:i≤9) (ha:da<128 ^ i) (hc:da+c*128 ^ i<18446744073709551616):
  bits .or .u64 (da:Int) (IntKind.u64.wrap ((c:Int)*2 ^(7*(i:Int)).toNat))=((da+c*128 ^ i:Nat):Int):=by
 have e:((c:Int)*2 ^(7*(i:Int)).toNat)=((c*128 ^ i:Nat):Int):=by
  have h1:(7*(i:Int)).toNat=7*i:=by omega
  rw[h1,Int.natCast_mul]
  congr 1
  rw[show(128:Nat)^ i=2 ^(7*i) by rw[Nat.pow_mul]]
  simp
 have hp:=nJ i (h:=hi)
 rw[e,sl,u64_or_nat da (c*128 ^ i) (by omega) (by omega),Ku da c i ha]
theorem fG (l:List UInt8) (k da:Nat) (h:l.length≤k:=by omega):eQ k da (l.drop k)=(0,0,4):=by
 rw[List.drop_of_length_le h];rfl
theorem fH (l:List UInt8) (k da:Nat) (h:k<l.length) (hb:(k=9∧1<(l.getD k 0).toNat)∨(0<k∧(l.getD k 0).toNat=0):=by omega):eQ k da (l.drop k)=(0,0,6):=by
 rw[nG l k da h,if_pos hb]
theorem iA (l:List UInt8) (k da:Nat) (h:k<l.length) (hk:k≤9) (ha:da<128 ^ k) (hb:¬((k=9∧1<(l.getD k 0).toNat)∨(0<k∧(l.getD k 0).toNat=0)):=by omega) (lc:(l.getD k 0).toNat<128:=by omega):
  eQ k da (l.drop k)=(da+(l.getD k 0).toNat*128 ^ k,k+1,0)∧da+(l.getD k 0).toNat*128 ^ k<18446744073709551616:=by
 have e:eQ k da (l.drop k)=(da+(l.getD k 0).toNat*128 ^ k,k+1,0):=by rw[nG l k da h,if_neg hb,if_pos lc]
 refine⟨e,?_⟩
 have:=(gh (l.drop k) k da hk ha).1
 rw[e] at this
 exact this
theorem sd (da x k:Nat) (ha:da<128 ^ k):da+(x % 128)*128 ^ k<128 ^(k+1):=by
 have hm:(x % 128)*128 ^ k≤127*128 ^ k:=Nat.mul_le_mul_right _ (by omega)
 rw[Nat.pow_succ]
 omega
theorem lU (l:List UInt8) (k da:Nat) (h:k<l.length) (hk:k≤9) (ha:da<128 ^ k) (hb:¬((k=9∧1<(l.getD k 0).toNat)∨(0<k∧(l.getD k 0).toNat=0)):=by omega) (lc:¬(l.getD k 0).toNat<128:=by omega):
  eQ k da (l.drop k)=eQ (k+1) (da+((l.getD k 0).toNat % 128)*128 ^ k) (l.drop (k+1))∧k≤8∧da+((l.getD k 0).toNat % 128)*128 ^ k<128 ^(k+1)∧da+((l.getD k 0).toNat % 128)*128 ^ k<18446744073709551616:=by
 have hk8:k≤8:=by omega
 have h1:=sd da (l.getD k 0).toNat k ha
 have h2:=nJ (k+1)
 exact⟨by rw[nG l k da h,if_neg hb,if_neg lc],hk8,h1,by omega⟩
theorem x8 (l:List UInt8) (k da:Nat) (h:k<l.length) (hk:k≤9) (ha:da<128 ^ k) (hb:¬((k=9∧1<(l.getD k 0).toNat)∨(0<k∧(l.getD k 0).toNat=0)):=by omega):
  da+((l.getD k 0).toNat % 128)*128 ^ k<18446744073709551616:=by
 by_cases lc:(l.getD k 0).toNat<128
 ·rw[Nat.mod_eq_of_lt lc];exact(iA l k da h hk ha (hb:=hb) (lc:=lc)).2
 ·exact(lU l k da h hk ha (hb:=hb) (lc:=lc)).2.2.2
/-- What a call of Get returns. -/
def zx (l:List UInt8):Value:=.tuple #[.int .u64 ((bd l).1:Int),.int .i64 ((bd l).2.1:Int),.int .i64 ((bd l).2.2:Int)]
theorem b5 {l:List UInt8} {n s e:Nat} (h:bd l=(n,s,e)):Value.tuple #[.int .u64 (n:Int),.int .i64 (s:Int),.int .i64 (e:Int)]=zx l:=by simp[zx,h]
theorem ib (f n:Nat):me (f+1) n=if n<128 then[UInt8.ofNat n] else UInt8.ofNat (128+n % 128)::me f (n / 128):=rfl
theorem tu:∀(f n:Nat),n<128 ^(f+1)→me (f+1) n=me (f+2) n
 |0,n,h=>by
  have h':n<128:=by simpa using h
  simp[me,h']
 |f+1,n,h=>by
  have hn:n / 128<128 ^(f+1):=by
   rw[Nat.div_lt_iff_lt_mul (by omega)]
   rw[Nat.pow_succ] at h
   exact h
  rw[ib,ib (f+2),tu f (n / 128) hn]
theorem IL (k:Nat) (n:Nat) (h:n<128 ^(k+1)) (hk:k≤9):me (k+1) n=br n:=by
 have key:∀m,me (k+1) n=me (k+1+m) n:=by
  intro m
  induction m with
  |zero=>rfl
  |succ m ih=>
   rw[ih]
   exact tu (k+m) n (Nat.lt_of_lt_of_le h (Nat.pow_le_pow_right (by omega) (by omega)))|>.trans (by rw[show k+m+2=k+1+(m+1) by omega])|>fun e=>by rw[show k+1+m=k+m+1 by omega];exact e
 rw[key (9 - k),show k+1+(9 - k)=10 by omega]
 rfl
theorem tq (n:Nat) (h:n<128):br n=[UInt8.ofNat n]:=by simp[br,me,h]
theorem AI (n:Nat) (h:128≤n) (hn:n<18446744073709551616):br n=UInt8.ofNat (128+n % 128)::br (n / 128):=by
 have h1:n / 128<128 ^ 9:=by
  have:(128:Nat)^ 9=9223372036854775808:=rfl
  omega
 rw[br,ib,if_neg (by omega),IL 8 _ h1 (by omega)]
theorem cw (n:Nat):1≤(br n).length∧(br n).length≤10:=by
 have key:∀f m,(me f m).length≤f:=by
  intro f
  induction f with
  |zero=>intro m;simp[me]
  |succ f ih=>intro m;rw[ib];split<;>simp;exact ih _
 refine⟨?_,key 10 n⟩
 rw[br,ib];split<;>simp
/-- How many bits a number has. -/
def bl (n:Nat):Nat:=if n=0 then 0 else Nat.log2 n+1
/-- A cut's bounds. -/
theorem u3 (l:List UInt8) {i k:Int} {a n:Nat} (h1:i=(a:Int):=by omega) (h2:k=(a:Int)+(n:Int):=by omega):(l.drop i.toNat).take (k.toNat - i.toNat)=(l.drop a).take n:=by
 rw[show k.toNat - i.toNat=n by omega,show i.toNat=a by omega]
/-- The bytes whose length bytes begin with: bytes, size, error. -/
def cM (l:List UInt8) (most:Int):List UInt8×Nat×Nat:=
 if most<0 then([],0,2)
 else if(bd l).2.2≠0 then([],0,(bd l).2.2)
 else if most<((bd l).1:Int) then([],0,5)
 else if l.length -(bd l).2.1<(bd l).1 then([],0,4)
 else((l.drop (bd l).2.1).take (bd l).1,(bd l).2.1+(bd l).1,0)
theorem f5 {l:List UInt8} {most:Int} (h:most<0:=by omega):cM l most=([],0,2):=by rw[cM,if_pos h]
theorem ff {l:List UInt8} {most:Int} (h:¬most<0:=by omega) (h1:(bd l).2.2≠0:=by omega):cM l most=([],0,(bd l).2.2):=by rw[cM,if_neg h,if_pos h1]
theorem eE {l:List UInt8} {most:Int} (h:¬most<0:=by omega) (h1:¬(bd l).2.2≠0:=by omega) (h2:most<((bd l).1:Int):=by omega):cM l most=([],0,5):=by rw[cM,if_neg h,if_neg h1,if_pos h2]
theorem ed {l:List UInt8} {most:Int} (h:¬most<0:=by omega) (h1:¬(bd l).2.2≠0:=by omega) (h2:¬most<((bd l).1:Int):=by omega) (h3:l.length -(bd l).2.1<(bd l).1:=by omega):cM l most=([],0,4):=by rw[cM,if_neg h,if_neg h1,if_neg h2,if_pos h3]
theorem fJ {l:List UInt8} {most:Int} (h:¬most<0:=by omega) (h1:¬(bd l).2.2≠0:=by omega) (h2:¬most<((bd l).1:Int):=by omega) (h3:¬l.length -(bd l).2.1<(bd l).1:=by omega):cM l most=((l.drop (bd l).2.1).take (bd l).1,(bd l).2.1+(bd l).1,0):=by rw[cM,if_neg h,if_neg h1,if_neg h2,if_neg h3]
theorem qy (l:List UInt8) (most:Int) (h:(cM l most).2.2≠0):(cM l most).1=[]∧(cM l most).2.1=0:=by
 unfold cM at h ⊢
 repeat' split
 all_goals first|exact⟨rfl,rfl⟩|(simp_all)
theorem kD (l:List UInt8) (most:Int):(cM l most).1.length≤l.length∧(cM l most).2.1≤l.length∧(cM l most).2.2≤6:=by
 have h1:=gA l
 have h2:=vH l
 unfold cM
 repeat' split
 all_goals(simp only[List.length_nil,List.length_take,List.length_drop];omega)
end Go.Proofs.YtiighkbehiddkaaGreat
