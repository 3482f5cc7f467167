/-
 A region that draws its order of evaluation, walked by facts: each operation of its main part gets a fact on its slot that steps which only make memory keep; the operations behind the main part go one by one. Plain laws, over any program. No condition.
 The contracts of the varint functions: what each returns and what it leaves of memory. Conditions: the sizes of what came in, and that it reads as bytes.
 The contracts of the readers. Conditions: that the reader lies in memory, or is nil or zero; sizes.
 Leaving a function some of whose results lie in memory cells. Plain laws, over any program. No condition.
-/
import Derived.Test.YtiighkbehiddkaaGreatS01
import Derived.Test.YtiighkbehiddkaaGreatRows
namespace Go.Proofs.YtiighkbehiddkaaGreat
open Go.RowKit
set_option linter.unusedVariables false
abbrev gL:=Value→World→Prop
def bY (ops:Array Oper) (i:Nat):List Nat:=match ops[i]? with
 |some o=>(o.after.toList.filter (Region.binds .any)).map (·.on)
 |none=>[]
/-- All that an operation waits for: its own edges and those of what it waits for. -/
def sN (D:Nat→List Nat):Nat→List Nat→List Nat
 |0,l=>l
 |i+1,l=>sN D i (if l.contains i then l++D i else l)
def jR (ops:Array Oper) (i:Nat):Option Nat:=(ops[i]?).bind (·.dst)
/-- 'mu': the operations that may write memory that was there; 'fr': the facts that only steps keep that make memory; 'kept': the facts that hold at the end. -/
def zV (n:Nat) (ops:Array Oper) (s m:Nat) (ds:List Nat) (aZ us ts:List (List Nat)) (es:List (Option Nat)) (kept:List Bool) (all:List Nat) (vk:List (Nat×Nat)) (vols:List (List Nat)):Bool:=
 ((List.range m).all fun k=>match es.getD k none with|some e=>all.contains e|none=>true)&&
 (vk.all fun e=>Nat.blt e.1 m&&(match jR ops e.1 with|some d=>Nat.beq d e.2|none=>false))&&
 ((List.range m).all fun i=>Nat.blt i s||(vols.getD i []).all fun j=>match vk[j]? with|some e=>Nat.beq e.1 i||(sN (bY ops) e.1 (bY ops e.1)).contains i|none=>true)&&
 ((List.range m).all fun i=>Nat.blt i s||(List.range m).all fun k=>Nat.blt k s||Nat.beq k i||(match es.getD k none with|some e=>(ts.getD i []).contains e||(sN (bY ops) k (bY ops k)).contains i|none=>true))&&
 ((List.range m).all fun i=>Nat.blt i s||(aZ.getD i []).all fun j=>(List.range m).all fun k=>Nat.blt k s||(match es.getD k none with|some e=>(us.getD j []).contains e||Nat.beq k j||Nat.beq k i||(sN (bY ops) j (bY ops j)).contains k||(sN (bY ops) k (bY ops k)).contains i|none=>true))&&
 ((List.range m).all fun j=>bif Nat.blt j s then !kept.getD j false else(!kept.getD j false||((List.range m).all fun k=>Nat.blt k s||(match es.getD k none with|some e=>(us.getD j []).contains e||Nat.beq k j||(sN (bY ops) j (bY ops j)).contains k|none=>true))))&&
 (Nat.ble m ops.size&&Nat.ble s m)&&Nat.beq ds.length m&&Nat.beq aZ.length m&&
 ((List.range ops.size).all fun i=>(bY ops i).all fun j=>Nat.blt j i)&&
 ((List.range m).all fun i=>Nat.blt i s||match jR ops i,ds[i]? with|some d,some d'=>Nat.beq d d'&&Nat.blt d n|none,some d'=>Nat.ble n d'||((aZ.getD i []).any fun j=>match jR ops j with|some d=>Nat.beq d d'|none=>false)|_,_=>false)&&
 ((List.range ops.size).all fun t=>Nat.blt t m||(let c:=sN (bY ops) t (bY ops t);(List.range m).all fun j=>Nat.blt j s||c.contains j))&&
 ((List.range m).all fun i=>Nat.blt i s||let c:=sN (bY ops) i (bY ops i);(aZ.getD i []).all fun j=>c.contains j&&Nat.blt j m&&Nat.ble s j)&&
 ((List.range m).all fun i=>Nat.blt i s||(List.range m).all fun j=>Nat.blt j s||(jR ops i).isNone||(jR ops j).isNone||Nat.beq i j|| !Nat.beq (ds.getD i 0) (ds.getD j 0))
/-- From t on the operations come one by one. -/
def tH (ops:Array Oper) (m:Nat):Bool:=
 ((List.range ops.size).all fun i=>(bY ops i).all fun j=>Nat.blt j i)&&Nat.ble m ops.size&&
 (List.range ops.size).all fun t=>Nat.blt t m||(let c:=sN (bY ops) t (bY ops t);(List.range t).all fun j=>c.contains j)
/-- All operations behind s wait for s. -/
def JZ (ops:Array Oper) (s:Nat):Bool:=
 ((List.range ops.size).all fun i=>(bY ops i).all fun j=>Nat.blt j i)&&Nat.blt s ops.size&&
 (List.range ops.size).all fun t=>Nat.ble t s||(sN (bY ops) t (bY ops t)).contains s
theorem f6 (D:Nat→List Nat) (p:Nat→Prop) (hp:∀j,p j→∀k∈D j,p k):∀(i:Nat) (l:List Nat),(∀k∈l,p k)→∀x∈sN D i l,p x
 |0,l,h,x,hx=>h x hx
 |i+1,l,h,x,hx=>by
  simp only[sN] at hx
  refine f6 D p hp i _ ?_ x hx
  split
  ·rename_i hc
   intro k hk
   rcases List.mem_append.1 hk with hk|hk
   ·exact h k hk
   ·exact hp i (h i (by simpa using hc)) k hk
  ·exact h
def CT (F:List (Nat×gL)) (w:World) (K:Env→Prop):List Nat→Env→Prop
 |[],L=>K L
 |j::js,L=>match F[j]? with
  |some (d,φ)=>∀v,φ v w→CT F w K js ((d,v)::L)
  |none=>CT F w K js L
/-- Slots that an operation of the region writes anew: their old values. -/
def CO (Vs:List (Nat×Nat×Value)) (K:Env→Prop):List Nat→Env→Prop
 |[],L=>K L
 |j::js,L=>match Vs[j]? with
  |some (_,d,v)=>CO Vs K js ((d,v)::L)
  |none=>CO Vs K js L
def vj (w:World) (K:Env→Prop):List (Nat×gL)→List Bool→Env→Prop
 |[],_,L=>K L
 |(d,φ)::F,true::ks,L=>∀v,φ v w→vj w K F ks ((d,v)::L)
 |(d,_)::F,_::ks,L=>∀v,vj w K F ks ((d,v)::L)
 |(d,_)::F,[],L=>∀v,vj w K F [] ((d,v)::L)
def pP (R:World→World→Prop) (φ:gL):Prop:=∀v w w',φ v w→R w w'→φ v w'
abbrev CP (φ:gL):Prop:=pP Ext φ
def pQ (R:List Nat→World→World→Prop):List (Nat×gL)→List (List Nat)→Prop
 |[],_=>True
 |(_,φ)::F,u::us=>(CP φ∧∀e∈u,pP (R [e]) φ)∧pQ R F us
 |(_,φ)::F,[]=>(CP φ∧∀e∈([]:List Nat),pP (R [e]) φ)∧pQ R F []
theorem oe {R:List Nat→World→World→Prop}:∀{F:List (Nat×gL)} {us:List (List Nat)},pQ R F us→∀(i d:Nat) (φ:gL),F[i]?=some (d,φ)→CP φ∧∀e∈us.getD i [],pP (R [e]) φ
 |[],_,_,i,d,φ,h=>by simp at h
 |(d',φ')::F,u::us,hs,0,d,φ,h=>by simp at h;obtain⟨rfl,rfl⟩:=h;simpa using hs.1
 |(d',φ')::F,[],hs,0,d,φ,h=>by simp at h;obtain⟨rfl,rfl⟩:=h;simpa using hs.1
 |(d',φ')::F,[],hs,i+1,d,φ,h=>by simpa using oe hs.2 i d φ (by simpa using h)
 |(d',φ')::F,u::us,hs,i+1,d,φ,h=>by simpa using oe hs.2 i d φ (by simpa using h)
theorem iF {R:List Nat→World→World→Prop} {φ:gL} (h:CP φ):CP φ∧∀e∈([]:List Nat),pP (R [e]) φ:=⟨h,fun e he=>by cases he⟩
theorem vP {R:List Nat→World→World→Prop} {φ:gL} (h:∀Q:World→World→Prop,pP Q φ) (u:List Nat):CP φ∧∀e∈u,pP (R [e]) φ:=⟨h _,fun e _=>h _⟩
/-- One relation for all labels. -/
def sQ (R:World→World→Prop):List Nat→World→World→Prop
 |[]=>Ext
 |_::_=>R
theorem oR {R:World→World→Prop} (JQ:∀a b,Ext a b→R a b):∀l a b,Ext a b→sQ R l a b
 |[],_,_,h=>h
 |_::_,a,b,h=>JQ a b h
theorem Ka {R:World→World→Prop} {φ:gL} {x:Nat} (JQ:∀a b,Ext a b→R a b) (h:pP R φ):CP φ∧∀e∈[x],pP (sQ R [e]) φ:=⟨fun v w w' a b=>h v w w' a (JQ _ _ b),fun e _=>h⟩
theorem oQ {R:World→World→Prop} (GO:∀a b c,R a b→R b c→R a c):∀l e a b c,e∈l→sQ R l a b→sQ R [e] b c→sQ R l a c
 |[],_,_,_,_,h,_,_=>by cases h
 |_::_,_,a,b,c,_,h,k=>GO a b c h k
theorem oP {R:World→World→Prop} (JQ:∀a b,Ext a b→R a b) (GO:∀a b c,R a b→R b c→R a c):∀l a b c,sQ R l a b→Ext b c→sQ R l a c
 |[],_,_,_,h,k=>h.tr k
 |_::_,a,b,c,h,k=>GO a b c h (JQ b c k)
/-- What an operation leaves in its fact's slot; one without a slot leaves there what was there. -/
def m3 (o:Oper) (d:Nat) (L:Env) (v:Value):Value:=match o.dst with
 |some _=>v
 |none=>(L.get d).getD undef
/-- An operation with its guard. -/
def eV (P:Program) (ops:Array Oper) (o:Oper) (L:Env) (w:World) (Post:gL):Prop:=
 ∀(a:Act) (n:Nd) (K:Act→World→Prop) (Q:Exit→Act→World→Prop),Agree a n L→(∀v w',Post v w'→K (a.put o.dst v) w')→
  if Region.wanted o (yielded ops a.tmps) then o.wp P a w K Q else K (a.put o.dst undef) w
section
variable {P:Program} {ops:Array Oper} {o:Oper} {L:Env} {w:World} {Post:gL}
theorem am (h:OpRun P o L w Post) (hg:o.guard=none:=by exact rfl):eV P ops o L w Post:=fun a n K Q ha hk=>by
 rw[if_pos (by simp[Region.wanted,hg])];exact h a n K Q ha hk
theorem bn {j dj:Nat} {b:Bool} (h:OpRun P o L w Post) (hg:o.guard=some (j,b):=by exact rfl) (hj:(ops[j]?).bind (·.dst)=some dj:=by exact rfl) (hb:L.get dj=some (.bool b):=by exact rfl):eV P ops o L w Post:=fun a n K Q ha hk=>by
 rw[if_pos (by simp[Region.wanted,hg,ha.yield hj hb])];exact h a n K Q ha hk
theorem eF {j dj:Nat} {b c:Bool} (h:Post undef w) (hg:o.guard=some (j,b):=by exact rfl) (hj:(ops[j]?).bind (·.dst)=some dj:=by exact rfl) (hb:L.get dj=some (.bool c):=by exact rfl) (eB:c= !b:=by exact rfl):eV P ops o L w Post:=fun a n K Q ha hk=>by
 rw[if_neg (by simp[Region.wanted,hg,ha.yield hj hb,eB])];exact hk _ _ h
theorem qe {j dj:Nat} {b:Bool} (hg:o.guard=some (j,b)) (hj:(ops[j]?).bind (·.dst)=some dj) (hb:L.get dj=some undef) (h:Post undef w):eV P ops o L w Post:=fun a n K Q ha hk=>by
 have hy:yielded ops a.tmps j=none:=by
  have h1:=ha.get dj _ hb
  rw[Array.getD_eq_getD_getElem?] at h1
  unfold yielded
  rw[hj]
  simp only[Option.bind_some]
  cases hc:a.tmps[dj]? with
  |none=>rfl
  |some u=>rw[hc] at h1;simp only[Option.getD_some] at h1;subst h1;rfl
 rw[if_neg (by simp[Region.wanted,hg,hy])];exact hk _ _ h
/-- What yields a known value and leaves the world. -/
theorem ax {c:Value} (h:db P o L w c):OpRun P o L w fun v w'=>v=c∧Ext w w':=h.mono fun _ _ ⟨hv,hw⟩=>⟨hv,by subst hw;exact aP _⟩
end
theorem nL {P:Program} {o:Oper} {L:Env} {w:World} {p:Prop} {_:Decidable p} (h:db P o L w (.bool (decide p))) (hp:p:=by omega):OpRun P o L w fun v w'=>v=.bool true∧Ext w w':=h.mono fun _ _ ⟨hv,hw⟩=>⟨by rw[hv,decide_eq_true hp],by subst hw;exact aP _⟩
theorem fL {P:Program} {o:Oper} {L:Env} {w:World} {p:Prop} {_:Decidable p} (h:db P o L w (.bool (decide p))) (hp:¬p:=by omega):OpRun P o L w fun v w'=>v=.bool false∧Ext w w':=h.mono fun _ _ ⟨hv,hw⟩=>⟨by rw[hv,decide_eq_false hp],by subst hw;exact aP _⟩
theorem DI {P:Program} {o:Oper} {L:Env} {w:World} {c c':Value} (hc:c=c') (h:db P o L w c):OpRun P o L w fun v w'=>v=c'∧Ext w w':=h.mono fun _ _ ⟨hv,hw⟩=>⟨by rw[hv,hc],by subst hw;exact aP _⟩
/-- What an operation does to the world: its label's relation. -/
def GG (R:List Nat→World→World→Prop):Option Nat→World→World→Prop
 |some e=>R [e]
 |none=>Ext
/-- The obligations, one for each operation of the main part. -/
def ND (P:Program) (R:List Nat→World→World→Prop) (es:List (Option Nat)) (ts:List (List Nat)) (Vs:List (Nat×Nat×Value)) (vols:List (List Nat)) (ops:Array Oper) (L:Env) (w:World) (F:List (Nat×gL)) (s:Nat):Nat→List (List Nat)→Prop
 |_,[]=>True
 | i, need :: rest => (bif Nat.blt i s then True else ∀ w', R (ts.getD i []) w w' → CO Vs (CT F w' (fun L' => match ops[i]?, F[i]? with
   |some o,some (d,φ)=>eV P ops o L' w' fun v w''=>φ (m3 o d L' v) w''∧GG R (es.getD i none) w' w''
   |_,_=>False) need) (vols.getD i []) L)∧ND P R es ts Vs vols ops L w F s (i+1) rest
theorem zR {P:Program} {R:List Nat→World→World→Prop} {es:List (Option Nat)} {ts:List (List Nat)} {Vs:List (Nat×Nat×Value)} {vols:List (List Nat)} {ops:Array Oper} {L:Env} {w:World} {F:List (Nat×gL)} {s:Nat}:∀(aZ:List (List Nat)) (k i:Nat),ND P R es ts Vs vols ops L w F s k aZ→i<aZ.length→s≤k+i→∀w',R (ts.getD (k+i) []) w w'→CO Vs (CT F w' (fun L'=>match ops[k+i]?,F[k+i]? with
      |some o,some (d,φ)=>eV P ops o L' w' fun v w''=>φ (m3 o d L' v) w''∧GG R (es.getD (k+i) none) w' w''
      |_,_=>False) (aZ.getD i [])) (vols.getD (k+i) []) L
  |[],k,i,_,hi,_,_,_=>by simp at hi
  | need :: rest, k, 0, h, _, wP, w', hw => by
    have hb:Nat.blt k s=false:=by
      cases hb:Nat.blt k s with
      |false=>rfl
      |true=>have:=Nat.le_of_ble_eq_true hb;omega
    have h1:=h.1
    rw[hb] at h1
    simpa using h1 w' hw
  | need :: rest, k, i + 1, h, hi, wP, w', hw => by
    rw[show k+(i+1)=k+1+i by omega] at hw wP ⊢
    simpa using zR rest (k+1) i h.2 (by simpa using hi) wP w' hw
theorem zS {P:Program} {Vs:List (Nat×Nat×Value)} {vols:List (List Nat)} {ops:Array Oper} {L:Env} {w w1:World} {F:List (Nat×gL)} {s:Nat} (h1:Ext w w1):∀(aZ:List (List Nat)) (k:Nat),ND P (fun _=>Ext) [] [] Vs vols ops L w F s k aZ→ND P (fun _=>Ext) [] [] Vs vols ops L w1 F s k aZ
 |[],_,h=>h
 |need::rest,k,h=>by
  refine⟨?_,zS h1 rest (k+1) h.2⟩
  have h0:=h.1
  cases hb:Nat.blt k s with
  |true=>exact trivial
  |false=>
   rw[hb] at h0
   intro w' hw
   exact h0 w' (h1.tr hw)
theorem C4 {L0:Env}:∀{Vs:List (Nat×Nat×Value)} {j k d:Nat} {v:Value},L0.sub (Vs.map (·.2))→Vs[j]?=some (k,d,v)→L0.get d=some v
 |[],_,_,_,_,_,h=>by simp at h
 |(k',d',v')::Vs,0,k,d,v,hs,h=>by
  simp only[List.getElem?_cons_zero,Option.some.injEq,Prod.mk.injEq] at h
  obtain⟨_,rfl,rfl⟩:=h
  exact hs.1
 |(k',d',v')::Vs,j+1,k,d,v,hs,h=>C4 (Vs:=Vs) hs.2 (by simpa using h)
theorem qz {Vs:List (Nat×Nat×Value)} {K:Env→Prop} {a:Act} {n:Nd}:∀(js:List Nat) (L:Env),CO Vs K js L→Agree a n L→(∀j∈js,∀(k d:Nat) (v:Value),Vs[j]?=some (k,d,v)→a.tmps.getD d undef=v)→∃L',K L'∧Agree a n L'
 |[],L,h,ha,_=>⟨L,h,ha⟩
 |j::js,L,h,ha,hf=>by
  simp only[CO] at h
  cases hj:Vs[j]? with
  |none=>rw[hj] at h;exact qz js L h ha fun k hk=>hf k (by simp[hk])
  |some p=>
   obtain⟨k,d,v⟩:=p
   rw[hj] at h
   refine qz js _ h ⟨ha.size,ha.defers,fun i u hi=>?_⟩ fun k hk=>hf k (by simp[hk])
   rw[Env.get_cons] at hi
   split at hi
   ·rename_i e;subst e;simp only[Option.some.injEq] at hi;subst hi;exact hf j (by simp) k d v hj
   ·exact ha.get i u hi
theorem sc {F:List (Nat×gL)} {w:World} {K:Env→Prop} {a:Act} {n:Nd}:∀(js:List Nat) (L:Env),CT F w K js L→Agree a n L→(∀j∈js,∀(d:Nat) (φ:gL),F[j]?=some (d,φ)→φ (a.tmps.getD d undef) w)→
  ∃L',K L'∧Agree a n L'∧(∀j∈js,∀(d:Nat) (φ:gL),F[j]?=some (d,φ)→L'.get d=some (a.tmps.getD d undef))∧∀d,L.get d=some (a.tmps.getD d undef)→L'.get d=some (a.tmps.getD d undef)
 |[],L,h,ha,_=>⟨L,h,ha,fun j hj=>by simp at hj,fun d hd=>hd⟩
 |j::js,L,h,ha,hf=>by
  simp only[CT] at h
  cases hj:F[j]? with
  |none=>
   rw[hj] at h
   obtain⟨L',h1,h2,h3,h4⟩:=sc js L h ha fun k hk=>hf k (by simp[hk])
   refine⟨L',h1,h2,fun k hk d φ he=>?_,h4⟩
   rcases List.mem_cons.1 hk with e|hk
   ·subst e;rw[hj] at he;cases he
   ·exact h3 k hk d φ he
  |some p=>
   obtain⟨d,φ⟩:=p
   rw[hj] at h
   obtain⟨L',h1,h2,h3,h4⟩:=sc js _ (h _ (hf j (by simp) d φ hj)) ⟨ha.size,ha.defers,fun i v hi=>by
    rw[Env.get_cons] at hi
    split at hi
    ·rename_i e;subst e;simpa using hi
    ·exact ha.get i v hi⟩ fun k hk=>hf k (by simp[hk])
   refine⟨L',h1,h2,fun k hk d' φ' he=>?_,fun d' uH=>h4 d' ?_⟩
   ·rcases List.mem_cons.1 hk with e|hk
    ·subst e
     rw[hj] at he
     simp only[Option.some.injEq,Prod.mk.injEq] at he
     obtain⟨rfl,rfl⟩:=he
     exact h4 d (by rw[Env.get_cons,if_pos rfl])
    ·exact h3 k hk d' φ' he
   ·rw[Env.get_cons]
    split
    ·rename_i e;subst e;rfl
    ·exact uH
theorem oX {w:World} {K K':Env→Prop} (h:∀L,K L→K' L):∀(F:List (Nat×gL)) (ks:List Bool) (L:Env),vj w K F ks L→vj w K' F ks L
 |[],_,L,hk=>h L hk
 |(d,φ)::F,[],L,hk=>fun v=>oX h F [] _ (hk v)
 |(d,φ)::F,true::ks,L,hk=>fun v hv=>oX h F ks _ (hk v hv)
 |(d,φ)::F,false::ks,L,hk=>fun v=>oX h F ks _ (hk v)
theorem oW {w:World} {K:Env→Prop} {a:Act} {n:Nd}:∀(F:List (Nat×gL)) (ks:List Bool) (L:Env),vj w K F ks L→Agree a n L→(∀(i d:Nat) (φ:gL),F[i]?=some (d,φ)→ks.getD i false=true→φ (a.tmps.getD d undef) w)→∃L',K L'∧Agree a n L'
 |[],_,L,h,ha,_=>⟨L,h,ha⟩
 |(d,φ)::F,ks,L,h,ha,hf=>by
  have hA:Agree a n ((d,a.tmps.getD d undef)::L):=⟨ha.size,ha.defers,fun i v hi=>by
   rw[Env.get_cons] at hi
   split at hi
   ·rename_i e;subst e;simpa using hi
   ·exact ha.get i v hi⟩
  rcases ks with _|⟨_|_,ks⟩
  ·exact oW F [] _ (h _) hA fun i d' φ' hi hk=>by simp at hk
  ·exact oW F ks _ (h _) hA fun i d' φ' hi hk=>hf (i+1) d' φ' (by simpa using hi) (by simpa using hk)
  ·exact oW F ks _ (h _ (hf 0 d φ rfl rfl)) hA fun i d' φ' hi hk=>hf (i+1) d' φ' (by simpa using hi) (by simpa using hk)
theorem iL {ops:Array Oper} {listed:Array Bool} {i:Nat} (hs:listed.size=ops.size):i∈Region.ready .any ops listed↔i<ops.size∧listed.getD i false=false∧∀k∈bY ops i,listed.getD k false=true:=by
 simp only[Region.ready,List.mem_filter,List.mem_range,Bool.and_eq_true,Bool.not_eq_true']
 constructor
 ·rintro⟨hi,hl,hd⟩
  have hg:listed.getD i true=listed.getD i false:=by simp[Array.getD_eq_getD_getElem?,Array.getElem?_eq_getElem (show i<listed.size by omega)]
  refine⟨hi,by rw[←hg];exact hl,fun k hk=>?_⟩
  simp only[bY,Array.getElem?_eq_getElem hi,List.mem_map,List.mem_filter] at hk
  obtain⟨e,⟨he,hb⟩,rfl⟩:=hk
  simp only[Array.getElem?_eq_getElem hi,Option.map_some,Option.getD_some,Array.all_eq_true'] at hd
  have:=hd e (by simpa using he)
  simpa [hb] using this
 ·rintro⟨hi,hl,hd⟩
  have hg:listed.getD i true=listed.getD i false:=by simp[Array.getD_eq_getD_getElem?,Array.getElem?_eq_getElem (show i<listed.size by omega)]
  refine⟨hi,by rw[hg];exact hl,?_⟩
  simp only[Array.getElem?_eq_getElem hi,Option.map_some,Option.getD_some,Array.all_eq_true']
  intro e he
  cases hb:Region.binds .any e with
  |false=>simp
  |true=>
   have:=hd e.on (by simp only[bY,Array.getElem?_eq_getElem hi,List.mem_map,List.mem_filter];exact⟨e,⟨by simpa using he,hb⟩,rfl⟩)
   simp[this]
theorem f4 (l:Array Bool) (i j:Nat) (hi:i<l.size:=by omega):(l.setIfInBounds i true).getD j false=if i=j then true else l.getD j false:=by
 simp only[Array.getD_eq_getD_getElem?,Array.getElem?_setIfInBounds]
 split
 ·rename_i e;subst e;simp
 ·rfl
theorem xG (l:List Nat) (H9:l.Nodup) (p q:Nat→Bool) (i:Nat) (hi:i∈l) (hp:p i=true) (hq:q i=false) (eB:∀j,j≠i→q j=p j):l.countP q+1=l.countP p:=by
 induction l with
 |nil=>simp at hi
 |cons x l ih=>
  rw[List.nodup_cons] at H9
  by_cases hx:x=i
  ·subst hx
   have:l.countP q=l.countP p:=List.countP_congr fun j hj=>by rw[eB j (fun e=>H9.1 (e▸hj))]
   simp[hp,hq,this]
  ·have qb:i∈l:=by rcases List.mem_cons.1 hi with h|h;exact absurd h.symm hx;exact h
   have:=ih H9.2 qb
   rw[List.countP_cons,List.countP_cons,eB x hx]
   omega
section
variable {P:Program} {ops:Array Oper} {Q:Exit→Act→World→Prop}
/-- The tail: one by one. -/
theorem zB (lc:∀i,i<ops.size→∀j∈bY ops i,j<i) (m:Nat) (nB:∀t,m≤t→t<ops.size→∀j,j<t→j∈sN (bY ops) t (bY ops t)):
  ∀(k t fuel:Nat) (listed:Array Bool) (a:Act) (w:World),ops.size - t=k→m≤t→t≤ops.size→k≤fuel→listed.size=ops.size→(∀j,j<ops.size→(listed.getD j false=true↔j<t))→
   wpList P ops Q (ops.toList.drop t) a w→wpAny P .any ops Q fuel listed a w
 |0,t,fuel,listed,a,w,hk,hm,ht,hf,hs,hl,h=>by
  have e:t=ops.size:=by omega
  subst e
  have hr:Region.ready .any ops listed=[]:=by
   rcases hr:Region.ready .any ops listed with _|⟨i,r⟩
   ·rfl
   ·have:=(iL hs).1 (show i∈Region.ready .any ops listed by rw[hr];simp)
    have h1:=(hl i this.1).2 this.1
    rw[this.2.1] at h1;cases h1
  have hq:Q .normal a w:=by
   rw[List.drop_of_length_le (by simp)] at h;exact h
  cases fuel with
  |zero=>exact⟨hr,hq⟩
  |succ fuel=>exact⟨fun _=>hq,fun i hi=>by rw[hr] at hi;simp at hi⟩
 |k+1,t,fuel,listed,a,w,hk,hm,ht,hf,hs,hl,h=>by
  have Jq:t<ops.size:=by omega
  obtain⟨fuel,rfl⟩:∃f,fuel=f+1:=⟨fuel - 1,by omega⟩
  have xn:∀j,listed.getD j false=true→∀x∈bY ops j,listed.getD x false=true:=by
   intro j hj x hx
   by_cases rv:j<ops.size
   ·have h1:=(hl j rv).1 hj
    have h2:=lc j rv x hx
    exact(hl x (by omega)).2 (by omega)
   ·have:bY ops j=[]:=by simp[bY,Array.getElem?_eq_none (Nat.le_of_not_lt rv)]
    rw[this] at hx;simp at hx
  have Ad:t∈Region.ready .any ops listed:=(iL hs).2 ⟨Jq,by
   cases hb:listed.getD t false with
   |false=>rfl
   |true=>exact absurd ((hl t Jq).1 hb) (Nat.lt_irrefl _),fun x hx=>by have:=lc t Jq x hx;exact(hl x (by omega)).2 this⟩
  refine⟨fun e=>by rw[e] at Ad;simp at Ad,fun i hi=>?_⟩
  have hit:i=t:=by
   have h1:=(iL hs).1 hi
   rcases Nat.lt_trichotomy i t with VH|e|hgt
   ·have:=(hl i h1.1).2 VH;rw[h1.2.1] at this;cases this
   ·exact e
   ·have gW:=f6 (bY ops) (fun x=>listed.getD x false=true) xn i (bY ops i) h1.2.2 t (nB i (by omega) h1.1 t hgt)
    have:=(hl t Jq).1 gW
    omega
  subst hit
  have QS:ops.toList.drop i=ops[i]::ops.toList.drop (i+1):=by
   rw[List.drop_eq_getElem_cons (by simpa using Jq)];simp
  rw[QS] at h
  have Al:∀a' w',wpList P ops Q (ops.toList.drop (i+1)) a' w'→wpAny P .any ops Q fuel (listed.setIfInBounds i true) a' w':=by
   intro a' w' h'
   refine zB lc m nB k (i+1) fuel _ a' w' (by omega) (by omega) (by omega) (by omega) (by simpa using hs) (fun j hj=>?_) h'
   rw[f4 _ _ _]
   split
   ·rename_i e;subst e;simp
   ·rename_i eB;rw[hl j hj];omega
  unfold wpOp
  simp only[Array.getElem?_eq_getElem Jq]
  simp only[wpList] at h
  split at h
  ·rename_i hw;rw[if_pos hw];exact h.imp (Oper.wp_mono Al) id
  ·rename_i hw;rw[if_neg hw];exact Al _ _ h
/-- What is left of a region whose first s operations have been carried out. -/
def zt (P:Program) (ops:Array Oper) (Q:Exit→Act→World→Prop) (s:Nat) (n:Nd) (L:Env) (w:World):Prop:=
 ∀(a:Act) (fuel:Nat) (listed:Array Bool),Agree a n L→listed.size=ops.size→(∀j,j<ops.size→(listed.getD j false=true↔j<s))→ops.size - s≤fuel→wpAny P .any ops Q fuel listed a w
theorem FV (k j:Nat):(Array.replicate k false).getD j false=false:=by
 simp only[Array.getD_eq_getD_getElem?,Array.getElem?_replicate]
 split<;>rfl
theorem eH {id:Nat} {n:Nd} {L:Env} {w:World} (h:∀w',Ext w w'→zt P ops Q 0 n L w') (hm:P.follows .mixedOrders=true:=by exact ej):WC P (.region id ops true) Q n L w:=by
 intro a ha
 refine wp_region_any hm (h _ (F1 w) a ops.size (Array.replicate ops.size false) ha (by simp) (fun j _=>?_) (by omega))
 rw[FV]
 simp
theorem fE {m:Nat} {n:Nd} {L:Env} {w:World} (h:WL P ops Q (ops.toList.drop m) n L w) (ep:tH ops m=true:=by kernel_rfl):zt P ops Q m n L w:=by
 intro a fuel listed ha hs hl hf
 simp only[tH,Bool.and_eq_true,List.all_eq_true,List.mem_range,Bool.or_eq_true] at ep
 obtain⟨⟨hd,Qj⟩,nB⟩:=ep
 refine zB (fun i hi j hj=>Nat.le_of_ble_eq_true (hd i hi j hj)) m ?_ (ops.size - m) m fuel listed a w rfl (Nat.le_refl _) (Nat.le_of_ble_eq_true Qj) hf hs hl (h a ha)
 intro t ht UN j hj
 rcases nB t UN with h|h
 ·have:=Nat.le_of_ble_eq_true h;omega
 ·simpa using h j hj
theorem C2 {s d:Nat} {o:Oper} {n:Nd} {L:Env} {w:World} {Post:gL} (ep:JZ ops s=true) (ho:ops[s]?=some o) (hr:OpRun P o L w Post) (hg:o.guard=none) (hd:o.dst=some d) (hn:Nat.blt d n.n=true)
  (k:∀v w',Post v w'→zt P ops Q (s+1) n ((d,v)::L) w'):zt P ops Q s n L w:=by
 intro a fuel listed ha hs hl hf
 simp only[JZ,Bool.and_eq_true,List.all_eq_true,List.mem_range,Bool.or_eq_true] at ep
 obtain⟨⟨JM,UQ⟩,nB⟩:=ep
 have UR:s<ops.size:=Nat.le_of_ble_eq_true UQ
 have lc:∀i,i<ops.size→∀j∈bY ops i,j<i:=fun i hi j hj=>Nat.le_of_ble_eq_true (JM i hi j hj)
 have xn:∀j,listed.getD j false=true→∀x∈bY ops j,listed.getD x false=true:=by
  intro j hj x hx
  by_cases rv:j<ops.size
  ·have h1:=(hl j rv).1 hj
   have h2:=lc j rv x hx
   exact(hl x (by omega)).2 (by omega)
  ·have:bY ops j=[]:=by simp[bY,Array.getElem?_eq_none (Nat.le_of_not_lt rv)]
   rw[this] at hx;simp at hx
 have Zv:listed.getD s false=false:=by
  cases hb:listed.getD s false with
  |false=>rfl
  |true=>exact absurd ((hl s UR).1 hb) (Nat.lt_irrefl _)
 have Zu:s∈Region.ready .any ops listed:=(iL hs).2 ⟨UR,Zv,fun x hx=>by have:=lc s UR x hx;exact(hl x (by omega)).2 this⟩
 obtain⟨fuel,rfl⟩:∃f,fuel=f+1:=⟨fuel - 1,by omega⟩
 refine⟨fun e=>by rw[e] at Zu;simp at Zu,fun i hi=>?_⟩
 obtain⟨Id,B3,JH⟩:=(iL hs).1 hi
 have NT:s≤i:=by
  rcases Nat.lt_or_ge i s with h|h
  ·rw[(hl i Id).2 h] at B3;cases B3
  ·exact h
 have e:i=s:=by
  rcases nB i Id with h|h
  ·have:=Nat.le_of_ble_eq_true h;omega
  ·have:=f6 (bY ops) (fun x=>listed.getD x false=true) xn i (bY ops i) JH s (by simpa using h)
   simp only[Zv] at this;cases this
 subst e
 have oM:ops[i]=o:=by rw[Array.getElem?_eq_getElem Id] at ho;exact Option.some.inj ho
 unfold wpOp
 simp only[Array.getElem?_eq_getElem Id,oM]
 rw[if_pos (by simp[Region.wanted,hg])]
 refine .inl (hr a n _ _ ha fun v w' hp=>?_)
 rw[hd]
 refine k v w' hp _ fuel _ (ha.put (Nat.le_of_ble_eq_true hn) v) (by simpa using hs) (fun j hj=>?_) (by omega)
 rw[f4 _ _ _]
 split
 ·rename_i e;subst e;simp
 ·rename_i eB
  rw[hl j hj];omega
theorem fh (R:List Nat→World→World→Prop) (JQ:∀l a b,Ext a b→R l a b) (GO:∀l e a b c,e∈l→R l a b→R [e] b c→R l a c) (hR3:∀l a b c,R l a b→Ext b c→R l a c) (s m:Nat) (F:List (Nat×gL)) (aZ us ts:List (List Nat)) (es:List (Option Nat)) (kept:List Bool) (all:List Nat) (L:Env) (Vs:List (Nat×Nat×Value)) (vols:List (List Nat)) {n:Nd} {L0:Env} {w:World} (it:pQ R F us) (hop:ND P R es ts Vs vols ops L w F s 0 aZ) (uv:∀w',R all w w'→vj w' (fun L'=>zt P ops Q m n L' w') F kept L) (CZ:∀i v,L.get i=some v→L0.get i=some v:=by exact fun _ _ h=>h) (Mz:L0.sub (Vs.map (·.2)):=by exact trivial) (ep:zV n.n ops s m (F.map (·.1)) aZ us ts es kept all (Vs.map fun e=>(e.1,e.2.1)) vols=true:=by kernel_rfl) (hL:F.all (fun p=>(L.get p.1).isNone)=true:=by exact rfl):zt P ops Q s n L0 w:=by
 intro a fuel0 listed0 ha0 hs0 CX hf0
 have ha:=ha0.sub CZ
 simp only[zV,Bool.and_eq_true,List.all_eq_true,List.mem_range,Bool.or_eq_true] at ep
 obtain⟨⟨⟨⟨⟨⟨⟨⟨⟨⟨⟨⟨⟨Fo,hvk⟩,UG⟩,VJ⟩,Wp⟩,Jz⟩,Ju⟩,Rv⟩,Qg⟩,hd⟩,hds⟩,nB⟩,H9⟩,QU⟩:=ep
 have Qj:m≤ops.size:=Nat.le_of_ble_eq_true Ju.1
 have hsm:s≤m:=Nat.le_of_ble_eq_true Ju.2
 have Rv:F.length=m:=by simpa using Nat.eq_of_beq_eq_true Rv
 have Qg:aZ.length=m:=Nat.eq_of_beq_eq_true Qg
 have lc:∀i,i<ops.size→∀j∈bY ops i,j<i:=fun i hi j hj=>Nat.le_of_ble_eq_true (hd i hi j hj)
 have nb:∀i,s≤i→Nat.blt i s=true→False:=fun i hi h=>by have:=Nat.le_of_ble_eq_true h;omega
 have WG:∀t,m≤t→t<ops.size→∀j,s≤j→j<m→j∈sN (bY ops) t (bY ops t):=by
  intro t ht UN j vt hj
  rcases nB t UN with h|h
  ·have:=Nat.le_of_ble_eq_true h;omega
  ·rcases h j hj with h|h
   ·exact(nb j vt h).elim
   ·simpa using h
 have xz:∀i,s≤i→i<m→∃(d:Nat) (φ:gL),F[i]?=some (d,φ)∧((jR ops i=some d∧d<n.n)∨(jR ops i=none∧(n.n≤d∨∃j∈aZ.getD i [],jR ops j=some d))):=by
  intro i rg hi
  have h:=(hds i hi).resolve_left (nb i rg)
  have B5:F[i]?=some F[i]:=List.getElem?_eq_getElem (by omega)
  refine⟨F[i].1,F[i].2,B5,?_⟩
  rw[List.getElem?_map,B5] at h
  simp only[Option.map_some] at h
  cases hdo:jR ops i with
  |none=>
   rw[hdo] at h
   simp only[Bool.or_eq_true,List.any_eq_true] at h
   refine .inr ⟨rfl,?_⟩
   rcases h with h|⟨j,hj,h⟩
   ·exact .inl (Nat.le_of_ble_eq_true h)
   ·refine .inr ⟨j,hj,?_⟩
    cases L8:jR ops j with
    |none=>rw[L8] at h;cases h
    |some d=>rw[L8] at h;rw[Nat.eq_of_beq_eq_true h]
  |some d=>
   rw[hdo] at h
   simp only[Bool.and_eq_true] at h
   have e:=Nat.eq_of_beq_eq_true h.1
   subst e
   exact .inl ⟨rfl,Nat.le_of_ble_eq_true h.2⟩
 have Yc:∀(i j d d':Nat),s≤i→i<m→s≤j→j<m→i≠j→jR ops i=some d→jR ops j=some d'→d≠d':=by
  intro i j d d' rg NS vt rv eB hi hj e
  obtain⟨x,φ,Rw,hx⟩:=xz i rg NS
  obtain⟨y,φ',Cr,hy⟩:=xz j vt rv
  have ex:x=d:=by
   rcases hx with⟨e1,_⟩|⟨e1,_⟩
   ·rw[hi] at e1;exact(Option.some.inj e1).symm
   ·rw[hi] at e1;cases e1
  have ey:y=d':=by
   rcases hy with⟨e1,_⟩|⟨e1,_⟩
   ·rw[hj] at e1;exact(Option.some.inj e1).symm
   ·rw[hj] at e1;cases e1
  subst ex ey
  rcases((QU i NS).resolve_left (nb i rg)) j rv with h|h
  ·rcases h with h|h
   ·rcases h with h|h
    ·rcases h with h|h
     ·exact nb j vt h
     ·rw[hi] at h;cases h
    ·rw[hj] at h;cases h
   ·exact eB (Nat.eq_of_beq_eq_true h)
  ·simp[List.getD,List.getElem?_map,Rw,Cr] at h;exact Nat.ne_of_beq_eq_false h e
 have hLn:∀(i d:Nat) (φ:gL),F[i]?=some (d,φ)→L.get d=none:=by
  intro i d φ hi
  have:=List.all_eq_true.1 hL (d,φ) (List.mem_of_getElem? hi)
  simpa only[Option.isNone_iff_eq_none] using this
 have QK:∀i,s≤i→i<m→∀j∈aZ.getD i [],∀k,s≤k→k<m→∀e,es.getD k none=some e→k=j∨k=i∨e∈us.getD j []∨k∈sN (bY ops) j (bY ops j)∨i∈sN (bY ops) k (bY ops k):=by
  intro i rg hi j hj k wP hk e he
  have h:=(((Wp i hi).resolve_left (nb i rg)) j hj k hk).resolve_left (nb k wP)
  rw[he] at h
  simp only[Bool.or_eq_true] at h
  rcases h with(((h|h)|h)|h)|h
  ·exact .inr (.inr (.inl (by simpa using h)))
  ·exact .inl (Nat.eq_of_beq_eq_true h)
  ·exact .inr (.inl (Nat.eq_of_beq_eq_true h))
  ·exact .inr (.inr (.inr (.inl (by simpa using h))))
  ·exact .inr (.inr (.inr (.inr (by simpa using h))))
 have Qt:∀i,s≤i→i<m→∀k,s≤k→k<m→k≠i→∀e,es.getD k none=some e→e∈ts.getD i []∨i∈sN (bY ops) k (bY ops k):=by
  intro i rg hi k wP hk eB e he
  have h:=(((VJ i hi).resolve_left (nb i rg)) k hk)
  rw[he] at h
  simp only[Bool.or_eq_true] at h
  rcases h with(h|h)|h|h
  ·exact(nb k wP h).elim
  ·exact absurd (Nat.eq_of_beq_eq_true h) eB
  ·exact .inl (by simpa using h)
  ·exact .inr (by simpa using h)
 have Q2:∀k,k<m→∀e,es.getD k none=some e→e∈all:=by
  intro k hk e he
  have h:=Fo k hk
  rw[he] at h
  simpa using h
 have bnb:∀i,s≤i→Nat.blt i s=false:=fun i hi=>by
  cases hb:Nat.blt i s with
  |false=>rfl
  |true=>exact(nb i hi hb).elim
 have Qz:∀j,j<m→kept.getD j false=true→s≤j:=by
  intro j hj LQ
  rcases Nat.lt_or_ge j s with h|h
  ·have h1:=Jz j hj
   have hb:Nat.blt j s=true:=Nat.ble_eq_true_of_le h
   rw[hb,LQ] at h1
   simp at h1
  ·exact h
 have LS:∀j,j<m→kept.getD j false=true→∀k,s≤k→k<m→∀e,es.getD k none=some e→k=j∨e∈us.getD j []∨k∈sN (bY ops) j (bY ops j):=by
  intro j hj LQ k wP hk e he
  have h0:=Jz j hj
  rw[bnb j (Qz j hj LQ)] at h0
  simp only[cond_false,Bool.or_eq_true,List.all_eq_true,List.mem_range] at h0
  rcases h0 with h|h
  ·rw[LQ] at h;exact absurd h (by decide)
  ·have h:=(h k hk).resolve_left (nb k wP)
   rw[he] at h
   simp only[Bool.or_eq_true] at h
   rcases h with(h|h)|h
   ·exact .inr (.inl (by simpa using h))
   ·exact .inl (Nat.eq_of_beq_eq_true h)
   ·exact .inr (.inr (by simpa using h))
 have UI:∀(j k d:Nat) (v:Value),Vs[j]?=some (k,d,v)→k<m∧jR ops k=some d:=by
  intro j k d v hj
  have h:=hvk (k,d) (List.mem_map.2 ⟨(k,d,v),List.mem_of_getElem? hj,rfl⟩)
  obtain⟨h1,h2⟩:=h
  refine⟨Nat.le_of_ble_eq_true h1,?_⟩
  cases uH:jR ops k with
  |none=>rw[uH] at h2;cases h2
  |some d'=>rw[uH] at h2;rw[Nat.eq_of_beq_eq_true h2]
 have Pj:∀i,s≤i→i<m→∀j∈vols.getD i [],∀(k d:Nat) (v:Value),Vs[j]?=some (k,d,v)→k=i∨i∈sN (bY ops) k (bY ops k):=by
  intro i rg hi j hj k d v he
  have h:=(UG i hi).resolve_left (nb i rg) j hj
  rw[List.getElem?_map,he] at h
  simp only[Option.map_some,Bool.or_eq_true] at h
  rcases h with h|h
  ·exact .inl (Nat.eq_of_beq_eq_true h)
  ·exact .inr (by simpa using h)
 -- the main part
 have main:∀(c fuel:Nat) (listed:Array Bool) (a:Act) (w':World),(List.range m).countP (fun j=> !listed.getD j false)=c→(ops.size - m)+c≤fuel→listed.size=ops.size→
   (∀t,m≤t→listed.getD t false=false)→(∀j,j<s→listed.getD j false=true)→(∀j,listed.getD j false=true→∀x∈bY ops j,listed.getD x false=true)→R all w w'→(∀i,s≤i→i<m→listed.getD i false=false→R (ts.getD i []) w w')→(∀(j k d:Nat) (v:Value),Vs[j]?=some (k,d,v)→listed.getD k false=false→a.tmps.getD d undef=v)→Agree a n L→
   (∀(i d:Nat) (φ:gL),F[i]?=some (d,φ)→s≤i→listed.getD i false=true→(∀k,s≤k→k<m→∀e,es.getD k none=some e→listed.getD k false=true→k=i∨e∈us.getD i []∨k∈sN (bY ops) i (bY ops i))→φ (a.tmps.getD d undef) w')→wpAny P .any ops Q fuel listed a w':=by
  intro c
  induction c with
  |zero=>
   intro fuel listed a w' hc hf hs ht Ep xn hE hS hV hA Im
   have gW:∀j,j<m→listed.getD j false=true:=by
    intro j hj
    have:=List.countP_eq_zero.1 hc j (by simpa using hj)
    simpa using this
   obtain⟨L',hW,NX⟩:=oW F kept L (uv w' hE) hA (fun i d φ hi LQ=>by
    have vz:i<m:=by rw[←Rv];exact(List.getElem?_eq_some_iff.1 hi).1
    exact Im i d φ hi (Qz i vz LQ) (gW i vz) (fun k wP hk e he _=>LS i vz LQ k wP hk e he))
   exact hW a fuel listed NX hs (fun j hj=>⟨(fun h=>by
    rcases Nat.lt_or_ge j m with h'|h'
    ·exact h'
    ·rw[ht j h'] at h;cases h),gW j⟩) (by omega)
  |succ c ih=>
   intro fuel listed a w' hc hf hs ht Ep xn hE hS hV hA Im
   obtain⟨fuel,rfl⟩:∃f,fuel=f+1:=⟨fuel - 1,by omega⟩
   -- some operation of the main part is not listed; the least such is ready
   have Ws:∃j,j<m∧listed.getD j false=false:=by
    rcases Classical.em (∃j,j<m∧listed.getD j false=false) with h|h
    ·exact h
    ·exfalso
     have:(List.range m).countP (fun j=> !listed.getD j false)=0:=by
      rw[List.countP_eq_zero]
      intro j hj
      have We:j<m:=by simpa using hj
      cases hb:listed.getD j false with
      |true=>simp
      |false=>exact absurd ⟨j,We,hb⟩ h
     omega
   have Ls:∃j,j∈Region.ready .any ops listed:=by
    obtain⟨j,hj⟩:=Ws
    have key:∀j,(j<m∧listed.getD j false=false)→∃k,k∈Region.ready .any ops listed:=by
     intro j
     induction j using Nat.strongRecOn with
     |_ j ihj=>
      rintro⟨EN,QD⟩
      by_cases uH:∀x∈bY ops j,listed.getD x false=true
      ·exact⟨j,(iL hs).2 ⟨by omega,QD,uH⟩⟩
      ·obtain⟨x,hx⟩:=Classical.not_forall.1 uH
       obtain⟨hx1,h8⟩:=Classical.not_imp.1 hx
       have:=lc j (by omega) x hx1
       exact ihj x this ⟨by omega,by simpa using h8⟩
    exact key j hj
   refine⟨fun e=>by obtain⟨j,hj⟩:=Ls;rw[e] at hj;simp at hj,fun i hi=>?_⟩
   obtain⟨Id,B3,JH⟩:=(iL hs).1 hi
   have vz:i<m:=by
    rcases Nat.lt_or_ge i m with h|h
    ·exact h
    ·exfalso
     obtain⟨j,EN,QD⟩:=Ws
     have vt:s≤j:=by
      rcases Nat.lt_or_ge j s with h'|h'
      ·rw[Ep j h'] at QD;cases QD
      ·exact h'
     have:=f6 (bY ops) (fun x=>listed.getD x false=true) xn i (bY ops i) JH j (WG i h Id j vt (by omega))
     simp only[QD] at this
     cases this
   have rg:s≤i:=by
    rcases Nat.lt_or_ge i s with h|h
    ·rw[Ep i h] at B3;cases B3
    ·exact h
   obtain⟨d,φ,Rw,Tl⟩:=xz i rg vz
   have hEi:R (ts.getD (0+i) []) w w':=by rw[Nat.zero_add];exact hS i rg vz B3
   have Th:=zR aZ 0 i hop (by omega) (by omega) w' hEi
   simp only[Nat.zero_add,Array.getElem?_eq_getElem Id,Rw] at Th
   obtain⟨L1,Th,hA1⟩:=qz (vols.getD i []) L Th hA (fun j hj k d' v' My=>by
    refine hV j k d' v' My ?_
    rcases Pj i rg vz j hj k d' v' My with h|h
    ·subst h;exact B3
    ·cases Jy:listed.getD k false with
     |false=>rfl
     |true=>
      have:=f6 (bY ops) (fun x=>listed.getD x false=true) xn k (bY ops k) (xn k Jy) i h
      simp only[B3] at this;cases this)
   obtain⟨L',hG,NX,X4,_⟩:=sc (aZ.getD i []) L1 Th hA1 (fun j hj d' φ' Cr=>by
    have h1:=((H9 i vz).resolve_left (nb i rg)) j hj
    have hjc:j∈sN (bY ops) i (bY ops i):=by simpa using h1.1.1
    have vt:s≤j:=Nat.le_of_ble_eq_true h1.2
    refine Im j d' φ' Cr vt (f6 (bY ops) (fun x=>listed.getD x false=true) xn i (bY ops i) JH j hjc) (fun k wP hk e he gS=>?_)
    rcases QK i rg vz j hj k wP hk e he with h|h|h|h|h
    ·exact .inl h
    ·subst h;rw[B3] at gS;cases gS
    ·exact .inr (.inl h)
    ·exact .inr (.inr h)
    ·have:=f6 (bY ops) (fun x=>listed.getD x false=true) xn k (bY ops k) (xn k gS) i h
     simp only[B3] at this;cases this)
   have rF:jR ops i=ops[i].dst:=by simp only[jR,Array.getElem?_eq_getElem Id,Option.bind_some]
   have hsv:∀v,m3 ops[i] d L' v=if ops[i].dst=none then a.tmps.getD d undef else v:=by
    intro v
    rcases Tl with⟨e1,NV⟩|⟨e1,NV⟩
    ·rw[rF] at e1
     simp only[m3,e1]
     rfl
    ·have e1':=e1
     rw[rF] at e1
     simp only[m3,e1]
     rw[if_pos trivial]
     rcases NV with NV|⟨j,hj,L8⟩
     ·cases hL':L'.get d with
      |none=>
       have:a.tmps.size≤d:=by rw[hA.size];exact NV
       simp[Array.getD_eq_getD_getElem?,Array.getElem?_eq_none this]
      |some u=>exact(NX.get d u hL').symm
     ·have h1:=((H9 i vz).resolve_left (nb i rg)) j hj
      have EN:j<m:=Nat.le_of_ble_eq_true h1.1.2
      have vt:s≤j:=Nat.le_of_ble_eq_true h1.2
      obtain⟨dj,φj,Cr,WA⟩:=xz j vt EN
      have e:dj=d:=by
       rcases WA with⟨e2,_⟩|⟨e2,_⟩
       ·rw[L8] at e2;exact(Option.some.inj e2).symm
       ·rw[L8] at e2;cases e2
      subst e
      rw[X4 j hj dj φj Cr]
      rfl
   have Al:∀v w'',(φ (m3 ops[i] d L' v) w''∧GG R (es.getD i none) w' w'')→wpAny P .any ops Q fuel (listed.setIfInBounds i true) (a.put ops[i].dst v) w'':=by
    rintro v w'' ⟨hv,C0⟩
    rw[hsv] at hv
    have hE':R all w w'':=by
     cases EW:es.getD i none with
     |some e=>rw[EW] at C0;exact GO _ e _ _ _ (Q2 i vz e EW) hE C0
     |none=>rw[EW] at C0;exact hR3 _ _ _ _ hE C0
    have QT:∀x,ops[i].dst=some x→x<a.tmps.size:=by
     intro x hx
     rw[hA.size]
     rcases Tl with⟨e1,NV⟩|⟨e1,_⟩
     ·rw[rF,hx] at e1;cases e1;exact NV
     ·rw[rF,hx] at e1;cases e1
    have B5:∀s,(a.put ops[i].dst v).tmps.getD s undef=if ops[i].dst=some s then v else a.tmps.getD s undef:=by
     intro s
     cases e1:ops[i].dst with
     |none=>simp[Act.put]
     |some x=>
      by_cases e:x=s
      ·subst e
       have:=QT x e1
       simp[Act.put,this]
      ·simp[Act.put,Array.getD_eq_getD_getElem?,Array.getElem?_setIfInBounds_ne e,e]
    have PO:(a.put ops[i].dst v).tmps.size=n.n:=by
     cases e1:ops[i].dst<;>simp[Act.put,hA.size]
    have PP:(a.put ops[i].dst v).defers=n.ds:=by
     cases e1:ops[i].dst<;>simpa [Act.put] using hA.defers
    refine ih fuel _ _ w'' ?_ (by omega) (by simpa using hs) (fun t ht'=>?_) (fun j hj=>by rw[f4 _ _ _];split;rfl;exact Ep j hj) (fun j hj x hx=>?_) hE' (fun j vt EN rv=>?_) (fun j k d' v' My Jy=>?_) ⟨PO,PP,fun s u hu=>?_⟩ (fun j d' φ' Cr vt hl qq=>?_)
    ·have:=xG (List.range m) List.nodup_range (fun j=> !listed.getD j false) (fun j=> !(listed.setIfInBounds i true).getD j false) i (by simpa using vz) (by simp[B3]) (by rw[f4 _ _ _];simp)
      (fun j hj=>by rw[f4 _ _ _,if_neg (fun e=>hj e.symm)])
     omega
    ·rw[f4 _ _ _,if_neg (by omega)];exact ht t ht'
    ·rw[f4 _ _ _] at hj ⊢
     split
     ·rfl
     ·split at hj
      ·rename_i e;subst e;exact JH x hx
      ·exact xn j hj x hx
    ·rw[f4 _ _ _] at rv
     split at rv
     ·cases rv
     ·rename_i hij
      have h0:=hS j vt EN rv
      cases EW:es.getD i none with
      |none=>rw[EW] at C0;exact hR3 _ _ _ _ h0 C0
      |some e=>
       rw[EW] at C0
       rcases Qt j vt EN i rg vz (fun e=>hij e) e EW with h|h
       ·exact GO _ e _ _ _ h h0 C0
       ·have:=f6 (bY ops) (fun x=>listed.getD x false=true) xn i (bY ops i) JH j h
        simp only[rv] at this;cases this
    ·obtain⟨qo,hkd⟩:=UI j k d' v' My
     rw[f4 _ _ _] at Jy
     split at Jy
     ·cases Jy
     ·rename_i hik
      rw[B5]
      have wP:s≤k:=by
       rcases Nat.lt_or_ge k s with h|h
       ·rw[Ep k h] at Jy;cases Jy
       ·exact h
      rw[if_neg (fun e=>Yc i k d' d' rg vz wP qo hik (by rw[rF];exact e) hkd rfl)]
      exact hV j k d' v' My Jy
    ·rw[B5]
     split
     ·rename_i e
      rcases Tl with⟨e1,_⟩|⟨e1,_⟩
      ·rw[rF,e] at e1;cases e1;rw[hLn i _ φ Rw] at hu;cases hu
      ·rw[rF,e] at e1;cases e1
     ·exact hA.get s u hu
    ·rw[B5]
     rw[f4 _ _ _] at hl
     by_cases e:i=j
     ·subst e
      rw[Rw] at Cr
      simp only[Option.some.injEq,Prod.mk.injEq] at Cr
      obtain⟨rfl,rfl⟩:=Cr
      rcases Tl with⟨e1,_⟩|⟨e1,_⟩
      ·rw[rF] at e1
       rw[if_pos e1]
       rw[if_neg (by rw[e1];simp)] at hv
       exact hv
      ·rw[rF] at e1
       rw[if_neg (by rw[e1];simp)]
       rw[if_pos e1] at hv
       exact hv
     ·rw[if_neg e] at hl
      have EN:j<m:=by rw[←Rv];exact(List.getElem?_eq_some_iff.1 Cr).1
      have eB:¬ops[i].dst=some d':=by
       intro e2
       obtain⟨dj,φj,M3,L8⟩:=xz j vt EN
       rw[Cr] at M3
       simp only[Option.some.injEq,Prod.mk.injEq] at M3
       obtain⟨rfl,rfl⟩:=M3
       rcases L8 with⟨e3,_⟩|⟨e3,h3|⟨jj,hjj,Wz⟩⟩
       ·exact Yc i j d' d' rg vz vt EN e (by rw[rF];exact e2) e3 rfl
       ·have h9:d'<n.n:=by rw[←hA.size];exact QT d' e2
        exact absurd h9 (by omega)
       ·have h1:=((H9 j EN).resolve_left (nb j vt)) jj hjj
        have V3:jj<m:=Nat.le_of_ble_eq_true h1.1.2
        have US:s≤jj:=Nat.le_of_ble_eq_true h1.2
        have rv:=f6 (bY ops) (fun x=>listed.getD x false=true) xn j (bY ops j) (xn j hl) jj (by simpa using h1.1.1)
        refine Yc i jj d' d' rg vz US V3 (fun e4=>?_) (by rw[rF];exact e2) Wz rfl
        subst e4
        simp only[B3] at rv;cases rv
      rw[if_neg eB]
      have BO:=Im j d' φ' Cr vt hl (fun k wP hk e2 dk gS=>qq k wP hk e2 dk (by rw[f4 _ _ _];split;rfl;exact gS))
      have PH:=oe it j d' φ' Cr
      cases EW:es.getD i none with
      |none=>rw[EW] at C0;exact PH.1 _ _ _ BO C0
      |some e2=>
       rw[EW] at C0
       rcases qq i rg vz e2 EW (by rw[f4 _ _ _];simp) with h|h|h
       ·exact absurd h e
       ·exact PH.2 e2 h _ _ _ BO C0
       ·have:=f6 (bY ops) (fun x=>listed.getD x false=true) xn j (bY ops j) (xn j hl) i h
        simp only[B3] at this;cases this
   have yS:=hG a n (fun a' w''=>wpAny P .any ops Q fuel (listed.setIfInBounds i true) a' w'') Q NX Al
   unfold wpOp
   simp only[Array.getElem?_eq_getElem Id]
   split at yS
   ·rename_i hw;rw[if_pos hw];exact .inl yS
   ·rename_i hw;rw[if_neg hw];exact yS
 refine main ((List.range m).countP fun j=> !listed0.getD j false) fuel0 listed0 a w rfl ?_ hs0 (fun t ht=>?_) (fun j hj=>?_) (fun j hj x hx=>?_) (JQ _ _ _ (aP w)) (fun _ _ _ _=>JQ _ _ _ (aP w)) (fun j k d v My _=>ha0.get d v (C4 Mz My)) ha (fun i d φ Ya rg hl _=>?_)
 ·have h1:(List.range m).countP (fun j=> !listed0.getD j false)≤m - s:=by
   have h2:(List.range m).countP (fun j=> !listed0.getD j false)≤(List.range m).countP (fun j=>Nat.ble s j):=by
    refine List.countP_mono_left fun j hj hb=>?_
    have EN:j<m:=by simpa using hj
    rcases Nat.lt_or_ge j s with h|h
    ·rw[(CX j (by omega)).2 h] at hb;cases hb
    ·exact Nat.ble_eq_true_of_le h
   refine Nat.le_trans h2 ?_
   have h3:∀k,(List.range k).countP (fun j=>Nat.ble s j)≤k - s:=by
    intro k
    induction k with
    |zero=>simp
    |succ k ih=>
     rw[List.range_succ,List.countP_append]
     simp only[List.countP_cons,List.countP_nil]
     by_cases h:s≤k
     ·rw[Nat.ble_eq_true_of_le h];simp;omega
     ·have hb:Nat.ble s k=false:=by
       cases hb:Nat.ble s k with
       |false=>rfl
       |true=>exact absurd (Nat.le_of_ble_eq_true hb) h
      rw[hb];simp;omega
   exact h3 m
  omega
 ·cases hb:listed0.getD t false with
  |false=>rfl
  |true=>
   exfalso
   by_cases Jq:t<ops.size
   ·have:=(CX t Jq).1 hb
    omega
   ·rw[Array.getD_eq_getD_getElem?,Array.getElem?_eq_none (by omega)] at hb;cases hb
 ·exact(CX j (by omega)).2 hj
 ·by_cases rv:j<ops.size
  ·have h1:=(CX j rv).1 hj
   have h2:=lc j rv x hx
   exact(CX x (by omega)).2 (by omega)
  ·have:bY ops j=[]:=by simp[bY,Array.getElem?_eq_none (Nat.le_of_not_lt rv)]
   rw[this] at hx;simp at hx
 ·exfalso
  have vz:i<m:=by
   rw[←Rv];exact(List.getElem?_eq_some_iff.1 Ya).1
  have:=(CX i (by omega)).1 hl
  omega
theorem fD {id:Nat} (m:Nat) (F:List (Nat×gL)) (aZ:List (List Nat)) (L:Env) (Vs:List (Nat×Nat×Value)) (vols:List (List Nat)) {n:Nd} {L0:Env} {w:World} (it:pQ (fun _=>Ext) F []) (hop:ND P (fun _=>Ext) [] [] Vs vols ops L w F 0 0 aZ) (uv:∀w',Ext w w'→vj w' (fun L'=>WL P ops Q (ops.toList.drop m) n L' w') F (List.replicate m true) L) (hm:P.follows .mixedOrders=true:=by exact ej) (CZ:∀i v,L.get i=some v→L0.get i=some v:=by exact fun _ _ h=>h) (Mz:L0.sub (Vs.map (·.2)):=by exact trivial) (ep:(zV n.n ops 0 m (F.map (·.1)) aZ [] [] [] (List.replicate m true) [] (Vs.map fun e=>(e.1,e.2.1)) vols&&tH ops m)=true:=by kernel_rfl) (hL:F.all (fun p=>(L.get p.1).isNone)=true:=by exact rfl):WC P (.region id ops true) Q n L0 w:=by
 rw[Bool.and_eq_true] at ep
 refine eH (hm:=hm) fun w1 h1=>fh (fun _=>Ext) (fun _ _ _ h=>h) (fun _ _ _ _ _ _ h k=>h.tr k) (fun _ _ _ _ h k=>h.tr k) 0 m F aZ [] [] [] (List.replicate m true) [] L Vs vols it (zS h1 aZ 0 hop) (CZ:=CZ) (Mz:=Mz) (ep:=ep.1) (hL:=hL) fun w' h2=>?_
 exact oX (fun L' h=>fE h (ep:=ep.2)) F _ L (uv w' (h1.tr h2))
end
/-! Facts that steps which only make memory keep. -/
abbrev a0 (c:Value):gL:=fun v _=>v=c
def O5 (lo:Nat) (l:List UInt8):gL:=fun v w=>∃A c,v=.slice A l.length c∧RdB w lo w.heap.size A c l
def iP (lo:Nat) (e:TypeId) (l:List UInt8):gL:=fun v w=>∃A c,v=.slice A l.length c∧OwnB w lo e A c l
def DY (x:Value):gL:=fun v w=>∃p,v=.pointer (some p)∧w.cell? p=some x
def xP:gL:=fun _ _=>True
theorem dU {R:World→World→Prop} (c:Value):pP R (a0 c):=fun _ _ _ h _=>h
theorem ly {R:World→World→Prop}:pP R xP:=fun _ _ _ _ _=>trivial
theorem tI (lo:Nat) (l:List UInt8):CP (O5 lo l):=fun v w w' ⟨A,c,hv,hr⟩ he=>⟨A,c,hv,(hr.ext he).mono (Nat.le_refl _) he.size⟩
theorem fp (lo:Nat) (e:TypeId) (l:List UInt8):CP (iP lo e l):=fun v w w' ⟨A,c,hv,hr⟩ he=>⟨A,c,hv,Own.ext hr he⟩
theorem xD {w w':World} {p:Addr} {x:Value} (he:Ext w w') (h:w.cell? p=some x):w'.cell? p=some x:=
 (World.cell?_of_block (he.block p.block (World.block_lt_of_cell? w _ h) (by simp))).trans h
theorem x9 (x:Value):CP (DY x):=fun v w w' ⟨p,hv,hc⟩ he=>⟨p,hv,xD he hc⟩
theorem sA {R:List Nat→World→World→Prop} {c:Value} {u:List Nat}:CP (a0 c)∧∀e∈u,pP (R [e]) (a0 c):=vP (fun _=>dU _) _
theorem sE {c:Value}:CP (a0 c)∧∀e∈([]:List Nat),pP Ext (a0 c):=⟨dU _,fun _ he=>by cases he⟩
theorem qO {P:Program} {o:Oper} {L:Env} {w:World} {c c':Value} (h:db P o L w c) (hc:c=c'):OpRun P o L w fun v w'=>v=c'∧Ext w w':=DI hc h
end Go.Proofs.YtiighkbehiddkaaGreat
namespace Go.Proofs.YtiighkbehiddkaaGreat
open Go.RowKit
set_option linter.unusedVariables false
set_option maxRecDepth 4000
theorem cE:ByteTy Tryz.prog 32 5:=⟨iI Tryz.underlying32 rfl,Tryz.underlying5⟩
theorem Gp:aX Tryz.prog 102=true:=by kernel_rfl
theorem CI:aX Tryz.prog 47=true:=by kernel_rfl
theorem Nq:aX Tryz.prog 76=true:=by kernel_rfl
theorem oU:aX Tryz.prog 77=true:=by kernel_rfl
theorem Np:aX Tryz.prog 80=true:=by kernel_rfl
theorem sO:aX Tryz.prog 92=true:=by kernel_rfl
theorem qf:cu Tryz.prog 5=true:=by kernel_rfl
theorem hY (w:World) (lo hi:Nat) (A:Option Addr) (c:Nat) (l:List UInt8) (hr:RdB w lo hi A c l) (bI:l.length≤140737488355328:=by omega):
  Fn Tryz.prog 47 #[(.slice A l.length c)] w (km w 5 l):=by
 replace hr:=hr.top
 refine aO Tryz.func47 ?_
 refine af (aa ?_)
 refine va ?_
 refine ag (ae (af (af (aa ?_))))
 refine vm ?_
 refine ab (jg Tryz.underlying32 rfl) ?_
 refine ag (ae ?_)
 refine dJ (fun dM=>?_) (fun dM=>?_)
 ·have hA:A=none:=by cases A<;>simp_all
  subst hA
  have hl:l=[]:=RdB.nil_eq hr
  subst hl
  refine af (aa ?_)
  refine va ?_
  refine ag (ae (aE (az ?_)))
  refine aY ?_
  exact⟨none,0,rfl,Own.nil_ w w.heap.size _ _,aP w⟩
 ·refine aS (ae (af (aa ?_)))
  refine ar (dn (l:=[]) cE (os:=[])) ?_
  rintro v w201 ⟨A5,c5,rfl,Aj,f0⟩
  replace hr:=hr.ext f0
  have t8:=f0.size
  refine vm ?_
  refine ar (cG cE Aj hr (hb:=(by simpa using bI))) ?_
  rintro v w202 ⟨A7,c7,rfl,sw,jw,Tp⟩
  have U0:=fun g e=>Own.lt Aj (g:=g) e
  have pn:=jw.size
  rw[show[]++l=l from by simp] at sw;rw[show[]++l=l from by simp]
  refine va ?_
  refine ag (ae (aE ?_))
  refine aY ?_
  exact⟨A7,c7,rfl,Own.mono sw (by omega),f0.gr jw (fun g e=>(U0 g e).1)⟩
theorem mU (w:World) (lo hi:Nat) (A:Option Addr) (c:Nat) (l:List UInt8) (hr:RdB w lo hi A c l) (bI:l.length≤140737488355328:=by omega):
  Fn Tryz.prog 76 #[(.slice A l.length c)] w (km w 5 l):=by
 replace hr:=hr.top
 refine aO Tryz.func76 ?_
 refine af (aa ?_)
 refine va ?_
 refine ag (ae (af (af (aa ?_))))
 refine vm ?_
 refine ab (jg Tryz.underlying32 rfl) ?_
 refine ag (ae ?_)
 refine dJ (fun dM=>?_) (fun dM=>?_)
 ·have hA:A=none:=by cases A<;>simp_all
  subst hA
  have hl:l=[]:=RdB.nil_eq hr
  subst hl
  refine af (aa ?_)
  refine va ?_
  refine ag (ae (aE (az ?_)))
  refine aY ?_
  exact⟨none,0,rfl,Own.nil_ w w.heap.size _ _,aP w⟩
 ·refine aS (ae (af (aa ?_)))
  refine ar (dn (l:=[]) cE (os:=[])) ?_
  rintro v w201 ⟨A5,c5,rfl,Aj,f0⟩
  replace hr:=hr.ext f0
  have t8:=f0.size
  refine vm ?_
  refine ar (cG cE Aj hr (hb:=(by simpa using bI))) ?_
  rintro v w202 ⟨A7,c7,rfl,sw,jw,Tp⟩
  have U0:=fun g e=>Own.lt Aj (g:=g) e
  have pn:=jw.size
  rw[show[]++l=l from by simp] at sw;rw[show[]++l=l from by simp]
  refine va ?_
  refine ag (ae (aE ?_))
  refine aY ?_
  exact⟨A7,c7,rfl,Own.mono sw (by omega),f0.gr jw (fun g e=>(U0 g e).1)⟩
theorem iY (w:World) (lo hi:Nat) (A:Option Addr) (c:Nat) (l:List UInt8) (n:Nat) (hr:RdB w lo hi A c l) (bI:l.length≤140737488355000:=by omega) (hn:n<18446744073709551616:=by omega):
  Fn Tryz.prog 92 #[(.slice A l.length c),(.int .u64 (↑n:Int))] w (km w 5 (l++br n)):=by
 replace hr:=hr.top
 refine aO Tryz.func92 ?_
 refine af (aa ?_)
 refine va ?_
 refine ag (ae (af (aa ?_)))
 refine vm ?_
 refine ar (aw CI (hY _ _ _ _ _ _ hr)) ?_
 rintro v w1 ⟨A7,c7,rfl,sw,eS⟩
 refine va ?_
 refine ag (ae (af (a9 ?_)))
 refine cU (fun s=>s.1) (fun s=>[(1,.int .u64 (s.1:Int)),(5,.slice s.2.2.1 s.2.1.length s.2.2.2)]) (fun s w'=>OwnB w' w.heap.size 5 s.2.2.1 s.2.2.2 s.2.1∧Ext w w'∧s.1<18446744073709551616∧l++br n=s.2.1++br s.1) ((n,l,A7,c7)) (⟨sw,eS,hn,rfl⟩) ?_ (hL:=⟨rfl,rfl,trivial⟩)
 rintro⟨m,out,A1,c1⟩ w1 ⟨ho,hE,hm,heq⟩
 have ud:=hE.size
 have Qu:=congrArg List.length heq
 simp only[List.length_append] at Qu
 have kM:=cw n
 have my:=cw m
 simp only at hm
 refine af (af (aa ?_))
 refine vm ?_
 refine ab (bw) ?_
 refine ag (ae ?_)
 refine aL (fun dM=>?_) (fun dM=>?_)
 ·refine aS (ae (af (a9 (aa ?_))))
  iterate 2 refine vm ?_
  refine ab (bv Tryz.underlying36 Tryz.underlying5 (hm:=N1 m)) ?_
  refine ab (gC (Kv m)) ?_
  refine ar (dn (l:=[UInt8.ofNat (128+m % 128)]) cE (os:=[.tmp 15])) ?_
  rintro v w2 ⟨A16,c16,rfl,wX,kB⟩
  replace ho:=Own.ext ho kB
  replace hE:=hE.tr kB
  have qh:=kB.size
  refine ar (cG cE ho (OwnB.rd wX) (hb:=by simp;omega)) ?_
  rintro v w3 ⟨A17,c17,rfl,LJ,LX,ha17⟩
  have U3:=fun g e=>Own.lt ho (g:=g) e
  replace hE:=hE.gr LX (fun g e=>by have:=U3 g e;omega)
  refine va ?_
  refine ag (bb (ae (aa ?_)))
  refine vm ?_
  refine ab (Ks rfl rfl (by omega) (by simp[IntKind.bits]) (TF m)) ?_
  refine va ?_
  refine ag ?_
  refine cB ((m / 128,out++[UInt8.ofNat (128+m % 128)],A17,c17)) (by show m / 128<m;omega) (⟨LJ,hE,by show m / 128<_;omega,by show _=(out++[_])++_;rw[heq,AI m (by omega) hm];simp⟩) (hL:=⟨rfl,rfl,trivial⟩)
 ·refine cW (bx (bx (ce (ae (af (aa ?_))))))
  iterate 2 refine vm ?_
  refine ab (bv Tryz.underlying36 Tryz.underlying5 (hm:=J3 m)) ?_
  refine ar (dn (l:=[UInt8.ofNat m]) cE (os:=[.tmp 20])) ?_
  rintro v w202 ⟨A21,c21,rfl,kw,pA⟩
  replace ho:=Own.ext ho pA
  replace hE:=hE.tr pA
  have z6:=pA.size
  refine ar (cG cE ho (OwnB.rd kw) (hb:=by simp;omega)) ?_
  rintro v w203 ⟨A22,c22,rfl,LI,LW,ha22⟩
  have U1:=fun g e=>Own.lt ho (g:=g) e
  replace hE:=hE.gr LW (fun g e=>by have:=U1 g e;omega)
  refine va ?_
  refine ag (ae (aE ?_))
  refine aY ?_
  rw[heq,tq m (by omega)]
  exact⟨A22,c22,rfl,LI,hE⟩
theorem uV (w:World) (lo hi:Nat) (A:Option Addr) (c:Nat) (l:List UInt8) (hr:RdB w lo hi A c l):
  Fn Tryz.prog 102 #[(.slice A l.length c)] w (fun v w'=>v=zx l∧w'=w):=by
 refine aO (args:=[(.slice A l.length c)]) Tryz.func102 ?_
 refine af (aa ?_)
 iterate 3 refine va ?_
 refine ag (ae (af (af (aa ?_))))
 refine vm ?_
 refine ab (bj Tryz.underlying32) ?_
 refine vm ?_
 refine ag (ae (a9 ?_))
 refine cU (σ:=Nat×Nat) (fun s=>l.length - s.1) (fun s=>[(2,.int .u64 (s.2:Int)),(7,.slice A l.length c),(8,.int .i64 (l.length:Int)),(9,.int .i64 (s.1:Int))]) (fun s w'=>w'=w∧s.1≤l.length∧s.1≤9∧s.2<128 ^ s.1∧bd l=eQ s.1 s.2 (l.drop s.1)) ((0,0)) (⟨rfl,Nat.zero_le _,by decide,by decide,rfl⟩) ?_
 rintro⟨k,da⟩ _ ⟨rfl,hk,n6,im,hv⟩
 simp only at hk n6 im hv
 refine af (aa ?_)
 refine ab (bz) ?_
 refine ag (ae (af ?_))
 refine aL (fun dM=>?_) (fun dM=>?_)
 ·have gS:k<l.length:=by omega
  refine aS (ae (af (a9 (af (aa ?_)))))
  refine vm ?_
  refine ar (eA cE hr) ?_
  rintro v _ ⟨rfl,p12,rfl,LG,ZI,ZT⟩
  replace LG:World.cell? _ p12=some (j3 (l.getD k 0)):=LG
  refine ab (dv qf rfl LG) ?_
  have hx:=(l.getD k 0).toNat_lt
  have hx:(l.getD k 0).toNat<256:=hx
  iterate 2 refine va ?_
  refine ag (ae (af (a9 (af (af (aa ?_))))))
  refine vm ?_
  refine ve ?_
  refine aG (d:=16) (fun h9=>?_) (fun h9=>?_)
  ·refine vm ?_
   refine aj (aF) ?_
   refine aj (bw) ?_
   refine aG (d:=19) (fun hb=>?_) (fun hb=>?_)
   ·refine ab (ay) ?_
    refine va ?_
    refine ag (ae ?_)
    refine aR ?_
    refine aS (ae ?_)
    refine aR ?_
    refine af (aa ?_)
    iterate 3 refine va ?_
    refine ag (ae (aE (aQ (az (aQ (az (az (aQ (az ?_)))))))))
    refine dB ?_
    first
     |exact⟨b5 (n:=0) (s:=0) (e:=6) (hv.trans (fH l k da gS)),rfl⟩
     |exact⟨b5 (s:=k+1) (e:=0) (hv.trans fN.1),rfl⟩
     |exact⟨b5 (n:=0) (s:=0) (e:=4) (hv.trans (fG l k da)),rfl⟩
   ·refine ab (ay) ?_
    refine va ?_
    refine ag (ae ?_)
    refine aC ?_
    refine aa ?_
    refine vm ?_
    refine ab (bw) ?_
    refine aG (d:=22) (fun h0=>?_) (fun h0=>?_)
    ·refine vm ?_
     refine aj (aF) ?_
     refine aj (cI) ?_
     refine aG (d:=25) (fun hz=>?_) (fun hz=>?_)
     ·refine ab (ay) ?_
      refine va ?_
      refine ag (ae ?_)
      refine aR ?_
      refine af (aa ?_)
      iterate 3 refine va ?_
      refine ag (ae (aE (aQ (az (aQ (az (az (aQ (az ?_)))))))))
      refine dB ?_
      first
       |exact⟨b5 (n:=0) (s:=0) (e:=6) (hv.trans (fH l k da gS)),rfl⟩
       |exact⟨b5 (s:=k+1) (e:=0) (hv.trans fN.1),rfl⟩
       |exact⟨b5 (n:=0) (s:=0) (e:=4) (hv.trans (fG l k da)),rfl⟩
     ·refine ab (ay) ?_
      refine va ?_
      refine ag (ae ?_)
      refine aC ?_
      refine af (aa ?_)
      refine vm ?_
      refine ab (bz) ?_
      refine va ?_
      refine ag (ae ?_)
      refine aL (fun iD=>?_) (fun iD=>?_)
      ·have fN:=iA l k da gS n6 im
       refine af (aa ?_)
       iterate 2 refine vm ?_
       refine ab (bv Tryz.underlying5 Tryz.underlying36) ?_
       refine vm ?_
       refine ab (go) ?_
       refine ab (ml rfl rfl (by omega) (by show(7*(k:Int))≤64;omega) rfl) ?_
       refine ab (gC (mp da (l.getD k 0).toNat k n6 im fN.2)) ?_
       refine vm ?_
       refine ab (bH) ?_
       iterate 3 refine va ?_
       refine ag (ae (aE (aQ (az (aQ (az (az (aQ (az ?_)))))))))
       refine dB ?_
       first
        |exact⟨b5 (n:=0) (s:=0) (e:=6) (hv.trans (fH l k da gS)),rfl⟩
        |exact⟨b5 (s:=k+1) (e:=0) (hv.trans fN.1),rfl⟩
        |exact⟨b5 (n:=0) (s:=0) (e:=4) (hv.trans (fG l k da)),rfl⟩
      ·have pu:=lU l k da gS n6 im
       refine aS (bb (ae (aa ?_)))
       iterate 2 refine vm ?_
       refine ab (gC (vg _ hx) (QX:=.inl rfl)) ?_
       refine ab (bv Tryz.underlying5 Tryz.underlying36) ?_
       refine vm ?_
       refine ab (go) ?_
       refine ab (ml rfl rfl (by omega) (by show(7*(k:Int))≤64;omega) rfl) ?_
       refine ab (gC (mp da ((l.getD k 0).toNat % 128) k n6 im pu.2.2.2)) ?_
       refine va ?_
       refine ag (bb (ae (aa ?_)))
       refine ab (bH) ?_
       refine vm ?_
       refine ag ?_
       refine cB ((k+1,da+((l.getD k 0).toNat % 128)*128 ^ k)) (by show l.length -(k+1)<l.length - k;omega) (⟨rfl,by show k+1≤_;omega,by show k+1≤9;omega,pu.2.2.1,hv.trans pu.1⟩)
    ·refine vm ?_
     iterate 2 refine aA ?_
     refine ab (ap) ?_
     refine va ?_
     refine ag (ae ?_)
     refine aC ?_
     refine af (aa ?_)
     refine vm ?_
     refine ab (bz) ?_
     refine va ?_
     refine ag (ae ?_)
     refine aL (fun iD=>?_) (fun iD=>?_)
     ·have fN:=iA l k da gS n6 im
      refine af (aa ?_)
      iterate 2 refine vm ?_
      refine ab (bv Tryz.underlying5 Tryz.underlying36) ?_
      refine vm ?_
      refine ab (go) ?_
      refine ab (ml rfl rfl (by omega) (by show(7*(k:Int))≤64;omega) rfl) ?_
      refine ab (gC (mp da (l.getD k 0).toNat k n6 im fN.2)) ?_
      refine vm ?_
      refine ab (bH) ?_
      iterate 3 refine va ?_
      refine ag (ae (aE (aQ (az (aQ (az (az (aQ (az ?_)))))))))
      refine dB ?_
      first
       |exact⟨b5 (n:=0) (s:=0) (e:=6) (hv.trans (fH l k da gS)),rfl⟩
       |exact⟨b5 (s:=k+1) (e:=0) (hv.trans fN.1),rfl⟩
       |exact⟨b5 (n:=0) (s:=0) (e:=4) (hv.trans (fG l k da)),rfl⟩
     ·have pu:=lU l k da gS n6 im
      refine aS (bb (ae (aa ?_)))
      iterate 2 refine vm ?_
      refine ab (gC (vg _ hx) (QX:=.inl rfl)) ?_
      refine ab (bv Tryz.underlying5 Tryz.underlying36) ?_
      refine vm ?_
      refine ab (go) ?_
      refine ab (ml rfl rfl (by omega) (by show(7*(k:Int))≤64;omega) rfl) ?_
      refine ab (gC (mp da ((l.getD k 0).toNat % 128) k n6 im pu.2.2.2)) ?_
      refine va ?_
      refine ag (bb (ae (aa ?_)))
      refine ab (bH) ?_
      refine vm ?_
      refine ag ?_
      refine cB ((k+1,da+((l.getD k 0).toNat % 128)*128 ^ k)) (by show l.length -(k+1)<l.length - k;omega) (⟨rfl,by show k+1≤_;omega,by show k+1≤9;omega,pu.2.2.1,hv.trans pu.1⟩)
  ·refine vm ?_
   iterate 2 refine aA ?_
   refine ab (ap) ?_
   refine va ?_
   refine ag (ae ?_)
   refine aC ?_
   refine aa ?_
   refine vm ?_
   refine ab (bw) ?_
   refine aG (d:=22) (fun h0=>?_) (fun h0=>?_)
   ·refine vm ?_
    refine aj (aF) ?_
    refine aj (cI) ?_
    refine aG (d:=25) (fun hz=>?_) (fun hz=>?_)
    ·refine ab (ay) ?_
     refine va ?_
     refine ag (ae ?_)
     refine aR ?_
     refine af (aa ?_)
     iterate 3 refine va ?_
     refine ag (ae (aE (aQ (az (aQ (az (az (aQ (az ?_)))))))))
     refine dB ?_
     first
      |exact⟨b5 (n:=0) (s:=0) (e:=6) (hv.trans (fH l k da gS)),rfl⟩
      |exact⟨b5 (s:=k+1) (e:=0) (hv.trans fN.1),rfl⟩
      |exact⟨b5 (n:=0) (s:=0) (e:=4) (hv.trans (fG l k da)),rfl⟩
    ·refine ab (ay) ?_
     refine va ?_
     refine ag (ae ?_)
     refine aC ?_
     refine af (aa ?_)
     refine vm ?_
     refine ab (bz) ?_
     refine va ?_
     refine ag (ae ?_)
     refine aL (fun iD=>?_) (fun iD=>?_)
     ·have fN:=iA l k da gS n6 im
      refine af (aa ?_)
      iterate 2 refine vm ?_
      refine ab (bv Tryz.underlying5 Tryz.underlying36) ?_
      refine vm ?_
      refine ab (go) ?_
      refine ab (ml rfl rfl (by omega) (by show(7*(k:Int))≤64;omega) rfl) ?_
      refine ab (gC (mp da (l.getD k 0).toNat k n6 im fN.2)) ?_
      refine vm ?_
      refine ab (bH) ?_
      iterate 3 refine va ?_
      refine ag (ae (aE (aQ (az (aQ (az (az (aQ (az ?_)))))))))
      refine dB ?_
      first
       |exact⟨b5 (n:=0) (s:=0) (e:=6) (hv.trans (fH l k da gS)),rfl⟩
       |exact⟨b5 (s:=k+1) (e:=0) (hv.trans fN.1),rfl⟩
       |exact⟨b5 (n:=0) (s:=0) (e:=4) (hv.trans (fG l k da)),rfl⟩
     ·have pu:=lU l k da gS n6 im
      refine aS (bb (ae (aa ?_)))
      iterate 2 refine vm ?_
      refine ab (gC (vg _ hx) (QX:=.inl rfl)) ?_
      refine ab (bv Tryz.underlying5 Tryz.underlying36) ?_
      refine vm ?_
      refine ab (go) ?_
      refine ab (ml rfl rfl (by omega) (by show(7*(k:Int))≤64;omega) rfl) ?_
      refine ab (gC (mp da ((l.getD k 0).toNat % 128) k n6 im pu.2.2.2)) ?_
      refine va ?_
      refine ag (bb (ae (aa ?_)))
      refine ab (bH) ?_
      refine vm ?_
      refine ag ?_
      refine cB ((k+1,da+((l.getD k 0).toNat % 128)*128 ^ k)) (by show l.length -(k+1)<l.length - k;omega) (⟨rfl,by show k+1≤_;omega,by show k+1≤9;omega,pu.2.2.1,hv.trans pu.1⟩)
   ·refine vm ?_
    iterate 2 refine aA ?_
    refine ab (ap) ?_
    refine va ?_
    refine ag (ae ?_)
    refine aC ?_
    refine af (aa ?_)
    refine vm ?_
    refine ab (bz) ?_
    refine va ?_
    refine ag (ae ?_)
    refine aL (fun iD=>?_) (fun iD=>?_)
    ·have fN:=iA l k da gS n6 im
     refine af (aa ?_)
     iterate 2 refine vm ?_
     refine ab (bv Tryz.underlying5 Tryz.underlying36) ?_
     refine vm ?_
     refine ab (go) ?_
     refine ab (ml rfl rfl (by omega) (by show(7*(k:Int))≤64;omega) rfl) ?_
     refine ab (gC (mp da (l.getD k 0).toNat k n6 im fN.2)) ?_
     refine vm ?_
     refine ab (bH) ?_
     iterate 3 refine va ?_
     refine ag (ae (aE (aQ (az (aQ (az (az (aQ (az ?_)))))))))
     refine dB ?_
     first
      |exact⟨b5 (n:=0) (s:=0) (e:=6) (hv.trans (fH l k da gS)),rfl⟩
      |exact⟨b5 (s:=k+1) (e:=0) (hv.trans fN.1),rfl⟩
      |exact⟨b5 (n:=0) (s:=0) (e:=4) (hv.trans (fG l k da)),rfl⟩
    ·have pu:=lU l k da gS n6 im
     refine aS (bb (ae (aa ?_)))
     iterate 2 refine vm ?_
     refine ab (gC (vg _ hx) (QX:=.inl rfl)) ?_
     refine ab (bv Tryz.underlying5 Tryz.underlying36) ?_
     refine vm ?_
     refine ab (go) ?_
     refine ab (ml rfl rfl (by omega) (by show(7*(k:Int))≤64;omega) rfl) ?_
     refine ab (gC (mp da ((l.getD k 0).toNat % 128) k n6 im pu.2.2.2)) ?_
     refine va ?_
     refine ag (bb (ae (aa ?_)))
     refine ab (bH) ?_
     refine vm ?_
     refine ag ?_
     refine cB ((k+1,da+((l.getD k 0).toNat % 128)*128 ^ k)) (by show l.length -(k+1)<l.length - k;omega) (⟨rfl,by show k+1≤_;omega,by show k+1≤9;omega,pu.2.2.1,hv.trans pu.1⟩)
 ·refine cW (bx (bx (ce (ae (af (aa ?_))))))
  iterate 3 refine va ?_
  refine ag (ae (aE ?_))
  refine dB ?_
  first
   |exact⟨b5 (n:=0) (s:=0) (e:=6) (hv.trans (fH l k da gS)),rfl⟩
   |exact⟨b5 (s:=k+1) (e:=0) (hv.trans fN.1),rfl⟩
   |exact⟨b5 (n:=0) (s:=0) (e:=4) (hv.trans (fG l k da)),rfl⟩
theorem qH (w:World) (lo hi:Nat) (A:Option Addr) (c:Nat) (l:List UInt8) (hr:RdB w lo hi A c l):
  Fn Tryz.prog 80 #[(.slice A l.length c)] w (fun v w'=>v=zx l∧w'=w):=by
 refine aO (args:=[(.slice A l.length c)]) Tryz.func80 ?_
 refine af (aa ?_)
 iterate 3 refine va ?_
 refine ag (ae (af (aa ?_)))
 iterate 2 refine va ?_
 refine ag (ae (af (af (aa ?_))))
 refine va ?_
 refine ag (ae (a9 ?_))
 refine cU (σ:=Nat×Nat) (fun s=>l.length - s.1) (fun s=>[(0,.slice A l.length c),(5,.int .u64 (s.2:Int)),(6,.int .u64 ((128 ^ s.1:Nat):Int)),(7,.int .i64 (s.1:Int))]) (fun s w'=>w'=w∧s.1≤l.length∧s.1≤9∧s.2<128 ^ s.1∧bd l=eQ s.1 s.2 (l.drop s.1)) ((0,0)) (⟨rfl,Nat.zero_le _,by decide,by decide,rfl⟩) ?_
 rintro⟨k,da⟩ _ ⟨rfl,hk,n6,im,hv⟩
 simp only at hk n6 im hv
 have hpow:=nJ k (h:=n6)
 refine af (af (aa ?_))
 iterate 2 refine vm ?_
 refine ab (bj Tryz.underlying32) ?_
 refine ab (bz) ?_
 refine ag (ae ?_)
 refine aL (fun dM=>?_) (fun dM=>?_)
 ·have gS:k<l.length:=by omega
  refine aS (ae (af (a9 (af (af (aa ?_))))))
  refine vm ?_
  refine ve ?_
  refine aG (d:=15) (fun h9=>?_) (fun h9=>?_)
  ·refine vm ?_
   iterate 2 refine aj (aF) ?_
   refine bP (eA cE hr) ?_
   rintro v _ ⟨rfl,p19,rfl,wV,PZ,P9⟩
   replace wV:World.cell? _ p19=some (j3 (l.getD k 0)):=wV
   refine aj (dv qf rfl wV) ?_
   have hx:=(l.getD k 0).toNat_lt
   refine aj (bw) ?_
   refine aG (d:=21) (fun hb=>?_) (fun hb=>?_)
   ·refine ab (ay) ?_
    refine vm ?_
    iterate 3 refine aA ?_
    iterate 5 refine cN ?_
    refine aA ?_
    refine ab (ay) ?_
    refine ag (ae ?_)
    refine aR ?_
    refine af (aa ?_)
    iterate 3 refine va ?_
    refine ag (ae (aE (az (aQ (az (az (aQ (az ?_))))))))
    refine dB ?_
    first
     |exact⟨b5 (n:=0) (s:=0) (e:=6) (hv.trans (fH l k da gS)),rfl⟩
     |exact⟨b5 (s:=k+1) (e:=0) (hv.trans (by rw[fN.1,Nat.mod_eq_of_lt (by omega)])),rfl⟩
     |exact⟨b5 (n:=0) (s:=0) (e:=4) (hv.trans (fG l k da)),rfl⟩
   ·refine ab (ay) ?_
    refine vm ?_
    refine aj (aF) ?_
    refine aj (bw) ?_
    refine aG (d:=25) (fun h0=>?_) (fun h0=>?_)
    ·refine aj (aF) ?_
     iterate 2 refine aj (aF) ?_
     refine bP (eA cE hr) ?_
     rintro v _ ⟨rfl,p29,rfl,yP,PV,P5⟩
     replace yP:World.cell? _ p29=some (j3 (l.getD k 0)):=yP
     refine aj (dv qf rfl yP) ?_
     refine aj (cI) ?_
     refine aG (d:=31) (fun hz=>?_) (fun hz=>?_)
     ·refine aj (ay) ?_
      refine ab (ap) ?_
      refine ag (ae ?_)
      refine aR ?_
      refine af (aa ?_)
      iterate 3 refine va ?_
      refine ag (ae (aE (az (aQ (az (az (aQ (az ?_))))))))
      refine dB ?_
      first
       |exact⟨b5 (n:=0) (s:=0) (e:=6) (hv.trans (fH l k da gS)),rfl⟩
       |exact⟨b5 (s:=k+1) (e:=0) (hv.trans (by rw[fN.1,Nat.mod_eq_of_lt (by omega)])),rfl⟩
       |exact⟨b5 (n:=0) (s:=0) (e:=4) (hv.trans (fG l k da)),rfl⟩
     ·refine aj (ay) ?_
      refine ab (ap) ?_
      refine ag (ae ?_)
      refine aC ?_
      refine aS (ae (af (aa ?_)))
      iterate 4 refine vm ?_
      refine ar (eA cE hr) ?_
      rintro v _ ⟨rfl,p38,rfl,nW,Es,Eu⟩
      replace nW:World.cell? _ p38=some (j3 (l.getD k 0)):=nW
      refine ab (dv qf rfl nW) ?_
      refine ab (qP rfl rfl (vK _ 128)) ?_
      refine ab (bv Tryz.underlying5 Tryz.underlying36) ?_
      have PG:=x8 l k da gS n6 im
      have Jr:(128 ^ k)*((l.getD k 0).toNat % 128)<18446744073709551616:=by rw[Nat.mul_comm];omega
      refine ab (go (hm:=wC (128 ^ k) ((l.getD k 0).toNat % 128) (by omega))) ?_
      refine ab (bH (hm:=(CN da ((128 ^ k)*((l.getD k 0).toNat % 128)) (by rw[Nat.mul_comm (128 ^ k)];omega)).trans (congrArg (fun z:Nat=>((da+z:Nat):Int)) (Nat.mul_comm _ _)))) ?_
      refine va ?_
      refine ag (ae (af (af (aa ?_))))
      iterate 2 refine vm ?_
      refine ar (eA cE hr) ?_
      rintro v _ ⟨rfl,p46,rfl,nU,Er,Et⟩
      replace nU:World.cell? _ p46=some (j3 (l.getD k 0)):=nU
      refine ab (dv qf rfl nU) ?_
      refine ab (bz) ?_
      refine ag (ae ?_)
      refine aL (fun e9=>?_) (fun e9=>?_)
      ·have fN:=iA l k da gS n6 im
       refine af (aa ?_)
       iterate 2 refine vm ?_
       refine ab (bH) ?_
       iterate 3 refine va ?_
       refine ag (ae (aE (az (aQ (az (az (aQ (az ?_))))))))
       refine dB ?_
       first
        |exact⟨b5 (n:=0) (s:=0) (e:=6) (hv.trans (fH l k da gS)),rfl⟩
        |exact⟨b5 (s:=k+1) (e:=0) (hv.trans (by rw[fN.1,Nat.mod_eq_of_lt (by omega)])),rfl⟩
        |exact⟨b5 (n:=0) (s:=0) (e:=4) (hv.trans (fG l k da)),rfl⟩
      ·have pu:=lU l k da gS n6 im
       have ro:=nJ (k+1)
       refine aS (ae (aa ?_))
       refine vm ?_
       refine ab (go (hm:=(wC 128 (128 ^ k) (by rw[Nat.pow_succ] at ro;omega)).trans (congrArg (fun z:Nat=>(z:Int)) ((Nat.mul_comm _ _).trans (Nat.pow_succ 128 k).symm)))) ?_
       refine va ?_
       refine ag (bb (ae (aa ?_)))
       refine vm ?_
       refine ab (bH) ?_
       refine va ?_
       refine ag ?_
       refine cB ((k+1,da+((l.getD k 0).toNat % 128)*128 ^ k)) (by show l.length -(k+1)<l.length - k;omega) (⟨rfl,by show k+1≤_;omega,by show k+1≤9;omega,pu.2.2.1,hv.trans pu.1⟩)
    ·refine aj (aF) ?_
     iterate 5 refine aA ?_
     refine aj (ap) ?_
     refine ab (ap) ?_
     refine ag (ae ?_)
     refine aC ?_
     refine aS (ae (af (aa ?_)))
     iterate 4 refine vm ?_
     refine ar (eA cE hr) ?_
     rintro v _ ⟨rfl,p38,rfl,nW,Es,Eu⟩
     replace nW:World.cell? _ p38=some (j3 (l.getD k 0)):=nW
     refine ab (dv qf rfl nW) ?_
     refine ab (qP rfl rfl (vK _ 128)) ?_
     refine ab (bv Tryz.underlying5 Tryz.underlying36) ?_
     refine ab (go (hm:=wC (128 ^ k) ((l.getD k 0).toNat % 128) (by omega))) ?_
     refine ab (bH (hm:=(CN da ((128 ^ k)*((l.getD k 0).toNat % 128)) (by rw[Nat.mul_comm (128 ^ k)];omega)).trans (congrArg (fun z:Nat=>((da+z:Nat):Int)) (Nat.mul_comm _ _)))) ?_
     refine va ?_
     refine ag (ae (af (af (aa ?_))))
     iterate 2 refine vm ?_
     refine ar (eA cE hr) ?_
     rintro v _ ⟨rfl,p46,rfl,nU,Er,Et⟩
     replace nU:World.cell? _ p46=some (j3 (l.getD k 0)):=nU
     refine ab (dv qf rfl nU) ?_
     refine ab (bz) ?_
     refine ag (ae ?_)
     refine aL (fun e9=>?_) (fun e9=>?_)
     ·have fN:=iA l k da gS n6 im
      refine af (aa ?_)
      iterate 2 refine vm ?_
      refine ab (bH) ?_
      iterate 3 refine va ?_
      refine ag (ae (aE (az (aQ (az (az (aQ (az ?_))))))))
      refine dB ?_
      first
       |exact⟨b5 (n:=0) (s:=0) (e:=6) (hv.trans (fH l k da gS)),rfl⟩
       |exact⟨b5 (s:=k+1) (e:=0) (hv.trans (by rw[fN.1,Nat.mod_eq_of_lt (by omega)])),rfl⟩
       |exact⟨b5 (n:=0) (s:=0) (e:=4) (hv.trans (fG l k da)),rfl⟩
     ·have pu:=lU l k da gS n6 im
      have ro:=nJ (k+1)
      refine aS (ae (aa ?_))
      refine vm ?_
      refine ab (go (hm:=(wC 128 (128 ^ k) (by rw[Nat.pow_succ] at ro;omega)).trans (congrArg (fun z:Nat=>(z:Int)) ((Nat.mul_comm _ _).trans (Nat.pow_succ 128 k).symm)))) ?_
      refine va ?_
      refine ag (bb (ae (aa ?_)))
      refine vm ?_
      refine ab (bH) ?_
      refine va ?_
      refine ag ?_
      refine cB ((k+1,da+((l.getD k 0).toNat % 128)*128 ^ k)) (by show l.length -(k+1)<l.length - k;omega) (⟨rfl,by show k+1≤_;omega,by show k+1≤9;omega,pu.2.2.1,hv.trans pu.1⟩)
  ·refine vm ?_
   iterate 5 refine aA ?_
   refine ab (ap) ?_
   refine vm ?_
   refine aj (aF) ?_
   refine aj (bw) ?_
   refine aG (d:=25) (fun h0=>?_) (fun h0=>?_)
   ·refine aj (aF) ?_
    iterate 2 refine aj (aF) ?_
    refine bP (eA cE hr) ?_
    rintro v _ ⟨rfl,p29,rfl,yP,PV,P5⟩
    replace yP:World.cell? _ p29=some (j3 (l.getD k 0)):=yP
    refine aj (dv qf rfl yP) ?_
    have hx:=(l.getD k 0).toNat_lt
    refine aj (cI) ?_
    refine aG (d:=31) (fun hz=>?_) (fun hz=>?_)
    ·refine aj (ay) ?_
     refine ab (ap) ?_
     refine ag (ae ?_)
     refine aR ?_
     refine af (aa ?_)
     iterate 3 refine va ?_
     refine ag (ae (aE (az (aQ (az (az (aQ (az ?_))))))))
     refine dB ?_
     first
      |exact⟨b5 (n:=0) (s:=0) (e:=6) (hv.trans (fH l k da gS)),rfl⟩
      |exact⟨b5 (s:=k+1) (e:=0) (hv.trans (by rw[fN.1,Nat.mod_eq_of_lt (by omega)])),rfl⟩
      |exact⟨b5 (n:=0) (s:=0) (e:=4) (hv.trans (fG l k da)),rfl⟩
    ·refine aj (ay) ?_
     refine ab (ap) ?_
     refine ag (ae ?_)
     refine aC ?_
     refine aS (ae (af (aa ?_)))
     iterate 4 refine vm ?_
     refine ar (eA cE hr) ?_
     rintro v _ ⟨rfl,p38,rfl,nW,Es,Eu⟩
     replace nW:World.cell? _ p38=some (j3 (l.getD k 0)):=nW
     refine ab (dv qf rfl nW) ?_
     refine ab (qP rfl rfl (vK _ 128)) ?_
     refine ab (bv Tryz.underlying5 Tryz.underlying36) ?_
     have PG:=x8 l k da gS n6 im
     have Jr:(128 ^ k)*((l.getD k 0).toNat % 128)<18446744073709551616:=by rw[Nat.mul_comm];omega
     refine ab (go (hm:=wC (128 ^ k) ((l.getD k 0).toNat % 128) (by omega))) ?_
     refine ab (bH (hm:=(CN da ((128 ^ k)*((l.getD k 0).toNat % 128)) (by rw[Nat.mul_comm (128 ^ k)];omega)).trans (congrArg (fun z:Nat=>((da+z:Nat):Int)) (Nat.mul_comm _ _)))) ?_
     refine va ?_
     refine ag (ae (af (af (aa ?_))))
     iterate 2 refine vm ?_
     refine ar (eA cE hr) ?_
     rintro v _ ⟨rfl,p46,rfl,nU,Er,Et⟩
     replace nU:World.cell? _ p46=some (j3 (l.getD k 0)):=nU
     refine ab (dv qf rfl nU) ?_
     refine ab (bz) ?_
     refine ag (ae ?_)
     refine aL (fun e9=>?_) (fun e9=>?_)
     ·have fN:=iA l k da gS n6 im
      refine af (aa ?_)
      iterate 2 refine vm ?_
      refine ab (bH) ?_
      iterate 3 refine va ?_
      refine ag (ae (aE (az (aQ (az (az (aQ (az ?_))))))))
      refine dB ?_
      first
       |exact⟨b5 (n:=0) (s:=0) (e:=6) (hv.trans (fH l k da gS)),rfl⟩
       |exact⟨b5 (s:=k+1) (e:=0) (hv.trans (by rw[fN.1,Nat.mod_eq_of_lt (by omega)])),rfl⟩
       |exact⟨b5 (n:=0) (s:=0) (e:=4) (hv.trans (fG l k da)),rfl⟩
     ·have pu:=lU l k da gS n6 im
      have ro:=nJ (k+1)
      refine aS (ae (aa ?_))
      refine vm ?_
      refine ab (go (hm:=(wC 128 (128 ^ k) (by rw[Nat.pow_succ] at ro;omega)).trans (congrArg (fun z:Nat=>(z:Int)) ((Nat.mul_comm _ _).trans (Nat.pow_succ 128 k).symm)))) ?_
      refine va ?_
      refine ag (bb (ae (aa ?_)))
      refine vm ?_
      refine ab (bH) ?_
      refine va ?_
      refine ag ?_
      refine cB ((k+1,da+((l.getD k 0).toNat % 128)*128 ^ k)) (by show l.length -(k+1)<l.length - k;omega) (⟨rfl,by show k+1≤_;omega,by show k+1≤9;omega,pu.2.2.1,hv.trans pu.1⟩)
   ·refine aj (aF) ?_
    iterate 5 refine aA ?_
    refine aj (ap) ?_
    refine ab (ap) ?_
    refine ag (ae ?_)
    refine aC ?_
    refine aS (ae (af (aa ?_)))
    iterate 4 refine vm ?_
    refine ar (eA cE hr) ?_
    rintro v _ ⟨rfl,p38,rfl,nW,Es,Eu⟩
    replace nW:World.cell? _ p38=some (j3 (l.getD k 0)):=nW
    refine ab (dv qf rfl nW) ?_
    have hx:=(l.getD k 0).toNat_lt
    refine ab (qP rfl rfl (vK _ 128)) ?_
    refine ab (bv Tryz.underlying5 Tryz.underlying36) ?_
    have PG:=x8 l k da gS n6 im
    have Jr:(128 ^ k)*((l.getD k 0).toNat % 128)<18446744073709551616:=by rw[Nat.mul_comm];omega
    refine ab (go (hm:=wC (128 ^ k) ((l.getD k 0).toNat % 128) (by omega))) ?_
    refine ab (bH (hm:=(CN da ((128 ^ k)*((l.getD k 0).toNat % 128)) (by rw[Nat.mul_comm (128 ^ k)];omega)).trans (congrArg (fun z:Nat=>((da+z:Nat):Int)) (Nat.mul_comm _ _)))) ?_
    refine va ?_
    refine ag (ae (af (af (aa ?_))))
    iterate 2 refine vm ?_
    refine ar (eA cE hr) ?_
    rintro v _ ⟨rfl,p46,rfl,nU,Er,Et⟩
    replace nU:World.cell? _ p46=some (j3 (l.getD k 0)):=nU
    refine ab (dv qf rfl nU) ?_
    refine ab (bz) ?_
    refine ag (ae ?_)
    refine aL (fun e9=>?_) (fun e9=>?_)
    ·have fN:=iA l k da gS n6 im
     refine af (aa ?_)
     iterate 2 refine vm ?_
     refine ab (bH) ?_
     iterate 3 refine va ?_
     refine ag (ae (aE (az (aQ (az (az (aQ (az ?_))))))))
     refine dB ?_
     first
      |exact⟨b5 (n:=0) (s:=0) (e:=6) (hv.trans (fH l k da gS)),rfl⟩
      |exact⟨b5 (s:=k+1) (e:=0) (hv.trans (by rw[fN.1,Nat.mod_eq_of_lt (by omega)])),rfl⟩
      |exact⟨b5 (n:=0) (s:=0) (e:=4) (hv.trans (fG l k da)),rfl⟩
    ·have pu:=lU l k da gS n6 im
     have ro:=nJ (k+1)
     refine aS (ae (aa ?_))
     refine vm ?_
     refine ab (go (hm:=(wC 128 (128 ^ k) (by rw[Nat.pow_succ] at ro;omega)).trans (congrArg (fun z:Nat=>(z:Int)) ((Nat.mul_comm _ _).trans (Nat.pow_succ 128 k).symm)))) ?_
     refine va ?_
     refine ag (bb (ae (aa ?_)))
     refine vm ?_
     refine ab (bH) ?_
     refine va ?_
     refine ag ?_
     refine cB ((k+1,da+((l.getD k 0).toNat % 128)*128 ^ k)) (by show l.length -(k+1)<l.length - k;omega) (⟨rfl,by show k+1≤_;omega,by show k+1≤9;omega,pu.2.2.1,hv.trans pu.1⟩)
 ·refine cW (bx (bx (ce (ae (af (aa ?_))))))
  iterate 3 refine va ?_
  refine ag (ae (aE ?_))
  refine dB ?_
  first
   |exact⟨b5 (n:=0) (s:=0) (e:=6) (hv.trans (fH l k da gS)),rfl⟩
   |exact⟨b5 (s:=k+1) (e:=0) (hv.trans (by rw[fN.1,Nat.mod_eq_of_lt (by omega)])),rfl⟩
   |exact⟨b5 (n:=0) (s:=0) (e:=4) (hv.trans (fG l k da)),rfl⟩
theorem tO (w:World) (lo hi lo2 eO:Nat) (A:Option Addr) (c:Nat) (l:List UInt8) (B:Option Addr) (c2:Nat) (m:List UInt8) (hr:RdB w lo hi A c l) (kJ:RdB w lo2 eO B c2 m) (bI:l.length+m.length≤140737488350000):
  Fn Tryz.prog 126 #[(.slice A l.length c),(.slice B m.length c2)] w (km w 5 (l++br m.length++m)):=by
 replace hr:=hr.top
 replace kJ:=kJ.top
 have hE:=aP w
 have GL:=cw m.length
 refine aO Tryz.func126 ?_
 refine af (aa ?_)
 refine va ?_
 refine ag (ae (af (aa ?_)))
 iterate 2 refine vm ?_
 refine ab (bj Tryz.underlying32) ?_
 refine ab (bv Tryz.underlying3 Tryz.underlying36) ?_
 refine ar (aw sO (iY _ _ _ _ _ l (m.length) hr)) ?_
 rintro v w1 ⟨A9,c9,rfl,jv,ii⟩
 replace kJ:=kJ.ext ii
 replace hE:=hE.tr ii
 have rc:=ii.size
 refine vm ?_
 refine ar (cG cE jv kJ (hb:=by simp;omega)) ?_
 rintro v w2 ⟨A11,c11,rfl,yQ,Wo,ha11⟩
 have U5:=fun g e=>Own.lt jv (g:=g) e
 replace hE:=hE.gr Wo (fun g e=>by have:=U5 g e;omega)
 refine va ?_
 refine ag (ae (aE ?_))
 refine aY ?_
 exact⟨A11,c11,rfl,yQ,hE⟩
theorem Bk (w:World) (n:Nat) (hn:n<18446744073709551616) (ih:∀w',128≤n→Fn Tryz.prog 77 #[.int .u64 ((n / 128:Nat):Int)] w' (km w' 5 (br (n / 128)))):
  Fn Tryz.prog 77 #[(.int .u64 (↑n:Int))] w (km w 5 (br n)):=by
 have hE:=aP w
 have GL:=cw (n / 128)
 refine aO (args:=[(.int .u64 (↑n:Int))]) Tryz.func77 ?_
 refine af (aa ?_)
 refine va ?_
 refine ag (ae (af (af (aa ?_))))
 refine vm ?_
 refine ab (bz) ?_
 refine ag (ae ?_)
 refine aL (fun dM=>?_) (fun dM=>?_)
 ·refine af (aa ?_)
  refine vm ?_
  refine ab (bv Tryz.underlying36 Tryz.underlying5 (hm:=J3 n)) ?_
  refine ar (dn (l:=[UInt8.ofNat n]) cE (os:=[.tmp 6])) ?_
  rintro v w1 ⟨A7,c7,rfl,sw,eS⟩
  replace hE:=hE.tr eS
  refine va ?_
  refine ag (ae (aE (az ?_)))
  refine aY ?_
  rw[tq n (by omega)]
  exact⟨A7,c7,rfl,sw,hE⟩
 ·refine aS (ae (af (aa ?_)))
  refine vm ?_
  refine ab (qP rfl rfl (vK n 128)) ?_
  refine ab (bH (hm:=CN 128 (n % 128) (by omega))) ?_
  refine ab (bv Tryz.underlying36 Tryz.underlying5 (hm:=J3 (128+n % 128))) ?_
  refine ar (dn (l:=[UInt8.ofNat (128+n % 128)]) cE (os:=[.tmp 11])) ?_
  rintro v w201 ⟨A12,c12,rfl,rp,eK⟩
  replace hE:=hE.tr eK
  have na:=eK.size
  refine vm ?_
  refine ab (Kt rfl rfl (by decide) (m:=((n / 128:Nat):Int)) (by rw[show((n:Int).tdiv 128)=((n / 128:Nat):Int) from N7 n 128];exact sl)) ?_
  refine ar (aw oU (ih _ (by omega))) ?_
  rintro v w202 ⟨A15,c15,rfl,VB,jm⟩
  replace hE:=hE.tr jm
  replace rp:=Own.ext rp jm
  have qi:=jm.size
  refine ar (cG cE rp (OwnB.rd VB) (hb:=by simp;omega)) ?_
  rintro v w203 ⟨A16,c16,rfl,wX,Ik,ha16⟩
  have U4:=fun g e=>Own.lt rp (g:=g) e
  replace hE:=hE.gr Ik (fun g e=>by have:=U4 g e;omega)
  refine va ?_
  refine ag (ae (aE ?_))
  refine aY ?_
  rw[AI n (by omega) hn]
  exact⟨A16,c16,rfl,Own.mono wX (by omega),hE⟩
theorem fK:∀(n:Nat) (w:World),n<18446744073709551616→Fn Tryz.prog 77 #[.int .u64 (n:Int)] w (km w 5 (br n)):=by
 intro n
 induction n using Nat.strongRecOn with
 |_ n ih=>intro w hn;exact Bk w n hn fun w' h=>ih (n / 128) (by omega) w' (by omega)
theorem so (w:World) (lo2 eO:Nat) (B:Option Addr) (c2:Nat) (m:List UInt8) (kJ:RdB w lo2 eO B c2 m) (bI:m.length≤140737488350000):
  Fn Tryz.prog 79 #[(.slice B m.length c2)] w (km w 5 (br m.length++m)):=by
 replace kJ:=kJ.top
 have hE:=aP w
 have GL:=cw m.length
 refine aO Tryz.func79 ?_
 refine af (aa ?_)
 refine va ?_
 refine ag (ae (af (aa ?_)))
 refine vm ?_
 refine ab (bj Tryz.underlying32) ?_
 refine ab (bv Tryz.underlying3 Tryz.underlying36) ?_
 refine ar (aw oU (fK (m.length) _ (by omega))) ?_
 rintro v w1 ⟨A6,c6,rfl,ie,lm⟩
 replace kJ:=kJ.ext lm
 replace hE:=hE.tr lm
 have Ea:=lm.size
 refine vm ?_
 refine ar (cG cE ie kJ) ?_
 rintro v w2 ⟨A8,c8,rfl,sh,mB,ha8⟩
 have hq8:=fun g e=>Own.lt ie (g:=g) e
 replace hE:=hE.gr mB (fun g e=>by have:=hq8 g e;omega)
 refine va ?_
 refine ag (ae (aE ?_))
 refine aY ?_
 exact⟨A8,c8,rfl,sh,hE⟩
/-- What a call of GetBytes leaves. -/
def xU (w:World) (l:List UInt8) (most:Int) (v:Value) (w':World):Prop:=
 ∃A c,v=.tuple #[.slice A (cM l most).1.length c,.int .i64 ((cM l most).2.1:Int),.int .i64 ((cM l most).2.2:Int)]∧OwnB w' w.heap.size 5 A c (cM l most).1∧Ext w w'
theorem bT {w w':World} {l:List UInt8} {most:Int} {p:List UInt8} {s e:Nat} (h:cM l most=(p,s,e)) {A:Option Addr} {c:Nat} (hE:Ext w w') (ho:OwnB w' w.heap.size 5 A c p:=by exact Own.nil_ _ _ _ _):
  xU w l most (.tuple #[.slice A p.length c,.int .i64 (s:Int),.int .i64 (e:Int)]) w':=by
 unfold xU;rw[h];exact⟨A,c,rfl,ho,hE⟩
theorem uU (w:World) (lo hi:Nat) (A:Option Addr) (c:Nat) (l:List UInt8) (most:Int) (hm:most≤9223372036854775807) (hr:RdB w lo hi A c l) (bI:l.length≤140737488355328):
  Fn Tryz.prog 146 #[(.slice A l.length c),(.int .i64 most)] w (xU w l most):=by
 replace hr:=hr.top
 have E6:=RdB.cap hr
 have hE:=aP w
 have hn:=m1 l
 have hs:=gA l
 refine aO Tryz.func146 ?_
 refine af (aa ?_)
 iterate 3 refine va ?_
 refine ag (ae (af (af (aa ?_))))
 refine vm ?_
 refine ab (bz) ?_
 refine ag (ae ?_)
 refine aL (fun dM=>?_) (fun dM=>?_)
 ·refine af (aa ?_)
  iterate 3 refine va ?_
  refine ag (ae (aE (az ?_)))
  refine dB ?_
  first
   |exact bT (s:=0) (e:=2) (f5) hE
   |exact bT (s:=0) (ff) hE
   |exact bT (s:=0) (e:=5) (eE) hE
   |exact bT (s:=0) (e:=4) (ed) hE
   |(rw[List.length_take,List.length_drop] at BV;exact bT (s:=(bd l).2.1+(bd l).1) (e:=0) (fJ) hE (ho:=Own.mono Ey (by omega)))
 ·refine aS (ae (af (aa ?_)))
  refine vm ?_
  refine ab (aw Gp (uV _ _ _ _ _ l hr)) ?_
  refine vm ?_
  iterate 3 refine vx ?_
  iterate 3 refine va ?_
  refine ag (ae (af (a9 (af (aa ?_)))))
  refine vm ?_
  refine ab (bS) ?_
  refine va ?_
  refine ag (ae ?_)
  refine aL (fun eN=>?_) (fun eN=>?_)
  ·refine af (aa ?_)
   refine vm ?_
   iterate 3 refine va ?_
   refine ag (ae (aE (aQ (az ?_))))
   refine dB ?_
   first
    |exact bT (s:=0) (e:=2) (f5) hE
    |exact bT (s:=0) (ff) hE
    |exact bT (s:=0) (e:=5) (eE) hE
    |exact bT (s:=0) (e:=4) (ed) hE
    |(rw[List.length_take,List.length_drop] at BV;exact bT (s:=(bd l).2.1+(bd l).1) (e:=0) (fJ) hE (ho:=Own.mono Ey (by omega)))
  ·refine af (aa ?_)
   iterate 2 refine vm ?_
   refine ab (bv Tryz.underlying3 Tryz.underlying36) ?_
   refine ab (bw) ?_
   refine va ?_
   refine ag (ae ?_)
   refine aL (fun e9=>?_) (fun e9=>?_)
   ·refine af (aa ?_)
    iterate 3 refine va ?_
    refine ag (ae (aE (aQ (az ?_))))
    refine dB ?_
    first
     |exact bT (s:=0) (e:=2) (f5) hE
     |exact bT (s:=0) (ff) hE
     |exact bT (s:=0) (e:=5) (eE) hE
     |exact bT (s:=0) (e:=4) (ed) hE
     |(rw[List.length_take,List.length_drop] at BV;exact bT (s:=(bd l).2.1+(bd l).1) (e:=0) (fJ) hE (ho:=Own.mono Ey (by omega)))
   ·refine af (aa ?_)
    iterate 2 refine vm ?_
    refine ab (bj Tryz.underlying32) ?_
    refine vm ?_
    refine ab (jx) ?_
    refine ab (bv Tryz.underlying3 Tryz.underlying36) ?_
    refine ab (bw) ?_
    refine va ?_
    refine ag (ae ?_)
    refine aL (fun iD=>?_) (fun iD=>?_)
    ·refine af (aa ?_)
     iterate 3 refine va ?_
     refine ag (ae (aE (aQ (az ?_))))
     refine dB ?_
     first
      |exact bT (s:=0) (e:=2) (f5) hE
      |exact bT (s:=0) (ff) hE
      |exact bT (s:=0) (e:=5) (eE) hE
      |exact bT (s:=0) (e:=4) (ed) hE
      |(rw[List.length_take,List.length_drop] at BV;exact bT (s:=(bd l).2.1+(bd l).1) (e:=0) (fJ) hE (ho:=Own.mono Ey (by omega)))
    ·have kA:(bd l).1≤l.length:=by omega
     refine aS (bb (ae (af (aa ?_))))
     iterate 2 refine vm ?_
     refine ab (bv Tryz.underlying36 Tryz.underlying3 (hm:=kU)) ?_
     refine ab (bH) ?_
     refine va ?_
     refine ag (ae (af (aa ?_)))
     iterate 4 refine vm ?_
     refine ar (dP cE hr (r8 rfl rfl rfl (by omega) (by omega) (by omega) (by omega))) ?_
     rintro v _ ⟨rfl,A42,c42,rfl,PL,BV⟩
     have Lg:(l.drop (Int.toNat (↑(bd l).2.1:Int))).take ((Int.toNat ((↑(bd l).2.1:Int)+(↑(bd l).1:Int))) -(Int.toNat (↑(bd l).2.1:Int)))=((l.drop (bd l).2.1).take (bd l).1):=u3 l
     rw[Lg] at PL BV;rw[Lg];clear Lg
     refine ar (aw Nq (mU _ _ _ _ _ _ PL)) ?_
     rintro v w201 ⟨A43,c43,rfl,Ey,kY⟩
     replace hE:=hE.tr kY
     have HA:=kY.size
     refine vm ?_
     iterate 3 refine va ?_
     refine ag (ae (aE ?_))
     refine dB ?_
     first
      |exact bT (s:=0) (e:=2) (f5) hE
      |exact bT (s:=0) (ff) hE
      |exact bT (s:=0) (e:=5) (eE) hE
      |exact bT (s:=0) (e:=4) (ed) hE
      |(rw[List.length_take,List.length_drop] at BV;exact bT (s:=(bd l).2.1+(bd l).1) (e:=0) (fJ) hE (ho:=Own.mono Ey (by omega)))
theorem sq (w:World) (lo hi:Nat) (A:Option Addr) (c:Nat) (l:List UInt8) (most:Int) (hm:most≤9223372036854775807) (hr:RdB w lo hi A c l) (bI:l.length≤140737488355328):
  Fn Tryz.prog 122 #[(.slice A l.length c),(.int .i64 most)] w (xU w l most):=by
 replace hr:=hr.top
 have E6:=RdB.cap hr
 have hE:=aP w
 have hn:=m1 l
 have hs:=gA l
 refine aO Tryz.func122 ?_
 refine af (aa ?_)
 iterate 3 refine va ?_
 refine ag (ae (af (af (aa ?_))))
 refine vm ?_
 refine ab (bz) ?_
 refine ag (ae ?_)
 refine aL (fun dM=>?_) (fun dM=>?_)
 ·refine af (aa ?_)
  iterate 3 refine va ?_
  refine ag (ae (aE (az ?_)))
  refine dB ?_
  first
   |exact bT (s:=0) (e:=2) (f5) hE
   |exact bT (s:=0) (ff) hE
   |exact bT (s:=0) (e:=5) (eE) hE
   |exact bT (s:=0) (e:=4) (ed) hE
   |exact bT (s:=(bd l).2.1+(bd l).1) (e:=0) (fJ) hE (ho:=Own.mono Ez (by omega))
 ·refine aS (ae (af (aa ?_)))
  refine vm ?_
  refine ab (aw Np (qH _ _ _ _ _ l hr)) ?_
  refine vm ?_
  iterate 3 refine vx ?_
  iterate 3 refine va ?_
  refine ag (ae (af (af (aa ?_))))
  refine vm ?_
  refine ab (bS) ?_
  refine ag (ae ?_)
  refine aL (fun eN=>?_) (fun eN=>?_)
  ·refine af (aa ?_)
   refine vm ?_
   iterate 3 refine va ?_
   refine ag (ae (aE (az ?_)))
   refine dB ?_
   first
    |exact bT (s:=0) (e:=2) (f5) hE
    |exact bT (s:=0) (ff) hE
    |exact bT (s:=0) (e:=5) (eE) hE
    |exact bT (s:=0) (e:=4) (ed) hE
    |exact bT (s:=(bd l).2.1+(bd l).1) (e:=0) (fJ) hE (ho:=Own.mono Ez (by omega))
  ·refine aS (ae (af (af (aa ?_))))
   iterate 2 refine vm ?_
   refine ab (bv Tryz.underlying3 Tryz.underlying36) ?_
   refine ab (bw) ?_
   refine ag (ae ?_)
   refine aL (fun e9=>?_) (fun e9=>?_)
   ·refine af (aa ?_)
    iterate 3 refine va ?_
    refine ag (ae (aE (az ?_)))
    refine dB ?_
    first
     |exact bT (s:=0) (e:=2) (f5) hE
     |exact bT (s:=0) (ff) hE
     |exact bT (s:=0) (e:=5) (eE) hE
     |exact bT (s:=0) (e:=4) (ed) hE
     |exact bT (s:=(bd l).2.1+(bd l).1) (e:=0) (fJ) hE (ho:=Own.mono Ez (by omega))
   ·refine aS (ae (af (af (aa ?_))))
    iterate 2 refine vm ?_
    refine ab (bj Tryz.underlying32) ?_
    refine vm ?_
    refine ab (jx) ?_
    refine ab (bv Tryz.underlying3 Tryz.underlying36) ?_
    refine ab (bw) ?_
    refine ag (ae ?_)
    refine aL (fun iD=>?_) (fun iD=>?_)
    ·refine af (aa ?_)
     iterate 3 refine va ?_
     refine ag (ae (aE (az ?_)))
     refine dB ?_
     first
      |exact bT (s:=0) (e:=2) (f5) hE
      |exact bT (s:=0) (ff) hE
      |exact bT (s:=0) (e:=5) (eE) hE
      |exact bT (s:=0) (e:=4) (ed) hE
      |exact bT (s:=(bd l).2.1+(bd l).1) (e:=0) (fJ) hE (ho:=Own.mono Ez (by omega))
    ·have kA:(bd l).1≤l.length:=by omega
     refine aS (ae (af (aa ?_)))
     iterate 4 refine vm ?_
     refine ab (bv Tryz.underlying36 Tryz.underlying3 (hm:=kU)) ?_
     refine ab (bH) ?_
     refine ar (dP cE hr (lq rfl rfl (by omega) (by omega) (by omega))) ?_
     rintro v _ ⟨rfl,A38,c38,rfl,PM,VP⟩
     have Li:(l.drop (Int.toNat (↑(bd l).2.1:Int))).take ((Int.toNat ((↑(bd l).2.1:Int)+(↑(bd l).1:Int))) -(Int.toNat (↑(bd l).2.1:Int)))=((l.drop (bd l).2.1).take (bd l).1):=u3 l
     rw[Li] at PM VP;rw[Li];clear Li
     refine ar (jh cE rfl rfl PM) ?_
     rintro v w201 ⟨A39,c39,rfl,Ez,E0⟩
     replace hE:=hE.tr E0
     iterate 2 refine vm ?_
     refine ab (bv Tryz.underlying36 Tryz.underlying3 (hm:=kU)) ?_
     refine ab (bH) ?_
     iterate 3 refine va ?_
     refine ag (ae (aE ?_))
     refine dB ?_
     first
      |exact bT (s:=0) (e:=2) (f5) hE
      |exact bT (s:=0) (ff) hE
      |exact bT (s:=0) (e:=5) (eE) hE
      |exact bT (s:=0) (e:=4) (ed) hE
      |exact bT (s:=(bd l).2.1+(bd l).1) (e:=0) (fJ) hE (ho:=Own.mono Ez (by omega))
end Go.Proofs.YtiighkbehiddkaaGreat
namespace Go.Proofs.YtiighkbehiddkaaGreat
open Go.RowKit
set_option linter.unusedVariables false
set_option maxRecDepth 4000
theorem R5:aX Tryz.prog 144=true:=by kernel_rfl
theorem R4:aX Tryz.prog 145=true:=by kernel_rfl
theorem R3:aX Tryz.prog 146=true:=by kernel_rfl
theorem R2:aX Tryz.prog 147=true:=by kernel_rfl
theorem AC:bB Tryz.prog 178 0=some 0:=by kernel_rfl
theorem lX:bB Tryz.prog 178 1=some 1:=by kernel_rfl
theorem gg:cu Tryz.prog 3=true:=by kernel_rfl
theorem dc:cu Tryz.prog 32=true:=by kernel_rfl
theorem ss:cu Tryz.prog 4=true:=by kernel_rfl
theorem OM:fj Tryz.prog 178=some [(0,1),(1,1)]:=by kernel_rfl
theorem gV:(Tryz.prog.info? 32).map (·.size)=some 1:=by kernel_rfl
theorem N0:fV Tryz.prog 178=some (.agg #[(.bool false),(.slice none 0 0)]):=by kernel_rfl
/-- What a call of a reader's method leaves of the reader: only its own block has been written; what is left reads as l'. -/
def qw (w w':World) (g lo hi:Nat) (l':List UInt8):Prop:=
 Gr w w' (some g)∧∃A' c',Blk w' g 178 [.bool true,.slice A' l'.length c']∧RdB w' lo hi A' c' l'
theorem AL (l:List UInt8) {i:Int} {a:Nat} (h1:i=(a:Int):=by omega):(l.drop i.toNat).take (l.length - i.toNat)=l.drop a:=by
 rw[show i.toNat=a by omega,List.take_of_length_le (by simp)]
theorem x5 (w:World) (g lo hi:Nat) (A:Option Addr) (c:Nat) (l:List UInt8) (aV:Blk w g 178 [.bool true,.slice A l.length c]) (hr:RdB w lo hi A c l) (eB:g<lo∨hi≤g) (bI:l.length≤140737488355328):
  Fn Tryz.prog 147 #[(.pointer (some ⟨g,0,none⟩)),(.func (.func 102) #[] #[])] w (fun v w'=>v=.tuple #[.int .u64 ((bd l).1:Int),.int .i64 ((bd l).2.2:Int)]∧qw w w' g lo hi (l.drop (bd l).2.1)):=by
 have hG:=(aP w).row (some g)
 have hs:=gA l
 have E6:=RdB.cap hr
 refine aO Tryz.func147 ?_
 refine af (aa ?_)
 iterate 2 refine va ?_
 refine ag (ae (af (aa ?_)))
 refine va ?_
 refine ag (ae (af (af (aa ?_))))
 refine vm ?_
 refine ab (dO Tryz.underlying150) ?_
 refine vm ?_
 refine aj (aF) ?_
 refine aj (bD) ?_
 refine aj (ah AC) ?_
 refine aj (ak ss aV) ?_
 refine aj (b6) ?_
 refine ab (ap) ?_
 refine ag (ae ?_)
 refine aC ?_
 refine aS (ae (af (aa ?_)))
 iterate 2 refine vm ?_
 refine vn ?_
 refine ab (ah lX) ?_
 refine ab (ak dc aV) ?_
 refine ab (aw Gp (uV _ _ _ _ _ l hr)) ?_
 refine vm ?_
 iterate 3 refine vx ?_
 iterate 3 refine va ?_
 refine ag (ae (af (af (aa ?_))))
 refine vm ?_
 refine ab (bS) ?_
 refine ag (ae ?_)
 refine aL (fun eN=>?_) (fun eN=>?_)
 ·refine af (aa ?_)
  iterate 2 refine vm ?_
  iterate 2 refine va ?_
  refine ag (ae (aE (az ?_)))
  refine cX ?_
  have bF:=vJ l (by omega)
  refine⟨by rw[bF.1];rfl,?_⟩
  rw[bF.2]
  exact⟨hG,A,c,aV,hr⟩
 ·refine aS (ae (af (aa ?_)))
  iterate 2 refine vm ?_
  refine vn ?_
  refine ab (ah lX) ?_
  refine ab (ak dc aV) ?_
  refine vm ?_
  refine ar (dP cE hr (iC rfl (by omega) (by omega))) ?_
  rintro v _ ⟨rfl,A40,c40,rfl,rj,ur⟩
  have yI:(l.drop (Int.toNat (↑(bd l).2.1:Int))).take (l.length -(Int.toNat (↑(bd l).2.1:Int)))=(l.drop (bd l).2.1):=AL l
  rw[yI] at rj ur;rw[yI];clear yI
  refine vn ?_
  refine ab (ah lX) ?_
  refine aB (aU gV aV) ?_
  rintro _ w201 ⟨Rr,JI⟩
  replace hG:=hG.gr JI (fun _ e=>by first|exact .inl e|(cases e;right;omega))
  replace rj:=rj.gr JI
  replace aV:=Rr
  refine ag (ae (af (aa ?_)))
  refine vm ?_
  iterate 2 refine va ?_
  refine ag (ae (aE ?_))
  refine cX ?_
  exact⟨by rw[show(bd l).2.2=0 by omega];rfl,hG,A40,c40,aV,rj⟩
theorem m7 (w:World) (g lo hi:Nat) (A:Option Addr) (c:Nat) (l:List UInt8) (aV:Blk w g 178 [.bool true,.slice A l.length c]) (hr:RdB w lo hi A c l) (eB:g<lo∨hi≤g) (bI:l.length≤140737488355328):
  Fn Tryz.prog 129 #[(.pointer (some ⟨g,0,none⟩))] w (fun v w'=>v=.tuple #[.int .u64 ((bd l).1:Int),.int .i64 ((bd l).2.2:Int)]∧qw w w' g lo hi (l.drop (bd l).2.1)):=by
 refine aO Tryz.func129 ?_
 refine af (aa ?_)
 iterate 2 refine va ?_
 refine ag (ae (af (aa ?_)))
 refine vm ?_
 refine ar (aw R2 (x5 _ g lo hi A c l aV hr eB bI)) ?_
 rintro v w1 ⟨rfl,it⟩
 iterate 2 refine vx ?_
 iterate 2 refine va ?_
 refine ag (ae (aE ?_))
 refine cX ?_
 exact⟨rfl,it⟩
theorem zm (w:World) (lo hi:Nat) (A:Option Addr) (c:Nat) (l:List UInt8) (most:Int) (hm:most≤9223372036854775807) (gm:Nat) (Fj:Blk w gm 3 [.int .i64 most]) (hr:RdB w lo hi A c l) (bI:l.length≤140737488355328):
  Fn Tryz.prog 145 #[(.slice A l.length c),(.pointer (some ⟨gm,0,none⟩))] w (xU w l most):=by
 refine aO Tryz.func145 ?_
 refine af (aa ?_)
 iterate 3 refine va ?_
 refine ag (ae (af (aa ?_)))
 refine vm ?_
 refine ab (ak gg Fj) ?_
 refine ar (aw R3 (uU _ _ _ _ _ l most hm hr bI)) ?_
 rintro v w1 ⟨A8,c8,rfl,sh,mg⟩
 iterate 3 refine vx ?_
 iterate 3 refine va ?_
 refine ag (ae (aE ?_))
 refine dB ?_
 exact⟨A8,c8,rfl,sh,mg⟩
theorem tG (w:World) (g lo hi:Nat) (A:Option Addr) (c:Nat) (l:List UInt8) (aV:Blk w g 178 [.bool true,.slice A l.length c]) (hr:RdB w lo hi A c l) (eB:g<lo∨hi≤g) (bI:l.length≤140737488355328) (most:Int) (hm:most≤9223372036854775807) (gm:Nat) (Fj:Blk w gm 3 [.int .i64 most]) (hgm:gm≠g):
  Fn Tryz.prog 144 #[(.pointer (some ⟨g,0,none⟩)),(.func (.func 145) #[] #[(.pointer (some ⟨gm,0,none⟩))])] w (fun v w'=>(∃B c2,v=.tuple #[.slice B (cM l most).1.length c2,.int .i64 ((cM l most).2.2:Int)]∧OwnB w' w.heap.size 5 B c2 (cM l most).1)∧qw w w' g lo hi (l.drop (cM l most).2.1)):=by
 have hG:=(aP w).row (some g)
 have Ih:=aV.lt
 have E6:=RdB.cap hr
 refine aO Tryz.func144 ?_
 refine af (aa ?_)
 iterate 2 refine va ?_
 refine ag (ae (af (aa ?_)))
 refine va ?_
 refine ag (ae (af (af (aa ?_))))
 refine vm ?_
 refine ab (dO Tryz.underlying150) ?_
 refine vm ?_
 refine aj (aF) ?_
 refine aj (bD) ?_
 refine aj (ah AC) ?_
 refine aj (ak ss aV) ?_
 refine aj (b6) ?_
 refine ab (ap) ?_
 refine ag (ae ?_)
 refine aC ?_
 refine aS (ae (af (aa ?_)))
 iterate 2 refine vm ?_
 refine vn ?_
 refine ab (ah lX) ?_
 refine ab (ak dc aV) ?_
 refine ar (tW R4 rfl rfl (zm _ _ _ _ _ l most hm gm Fj hr bI)) ?_
 rintro v w1 ⟨A26,c26,rfl,BR,uD⟩
 replace aV:=aV.ext uD
 replace hr:=hr.ext uD
 replace hG:=hG.gr uD (fun _ e=>by cases e)
 have HU:=fun g e=>Own.lt BR (g:=g) e
 have hvp:=kD l most
 refine vm ?_
 iterate 3 refine vx ?_
 iterate 3 refine va ?_
 refine ag (ae (af (af (aa ?_))))
 refine vm ?_
 refine ab (bS) ?_
 refine ag (ae ?_)
 refine aL (fun eN=>?_) (fun eN=>?_)
 ·refine af (aa ?_)
  iterate 2 refine vm ?_
  iterate 2 refine va ?_
  refine ag (ae (aE (az ?_)))
  refine cX ?_
  have bF:=qy l most (by omega)
  refine⟨⟨none,0,by rw[bF.1];rfl,by rw[bF.1];exact Own.nil_ _ _ _ _⟩,?_⟩
  rw[bF.2]
  exact⟨hG,A,c,aV,hr⟩
 ·refine aS (ae (af (aa ?_)))
  iterate 2 refine vm ?_
  refine vn ?_
  refine ab (ah lX) ?_
  refine ab (ak dc aV) ?_
  refine vm ?_
  refine ar (dP cE hr (iC rfl (by omega) (by omega))) ?_
  rintro v _ ⟨rfl,A40,c40,rfl,rj,ur⟩
  have yI:(l.drop (Int.toNat (↑(cM l most).2.1:Int))).take (l.length -(Int.toNat (↑(cM l most).2.1:Int)))=(l.drop (cM l most).2.1):=AL l
  rw[yI] at rj ur;rw[yI];clear yI
  refine vn ?_
  refine ab (ah lX) ?_
  refine aB (aU gV aV) ?_
  rintro _ w202 ⟨e8,dQ⟩
  replace hG:=hG.gr dQ (fun _ e=>by first|exact .inl e|(cases e;right;omega))
  replace BR:=Own.gr BR dQ (by first|exact .inl rfl|(right;intro e;first|(have:=HU _ e;omega)|(have:=Own.lt BR e;omega)|exact aT BR aV (by decide) e))
  replace rj:=rj.gr dQ
  replace aV:=e8
  refine ag (ae (af (aa ?_)))
  refine vm ?_
  iterate 2 refine va ?_
  refine ag (ae (aE ?_))
  refine cX ?_
  exact⟨⟨A26,c26,by rw[show(cM l most).2.2=0 by omega];rfl,BR⟩,hG,A40,c40,aV,rj⟩
theorem m4 (w:World) (g lo hi:Nat) (A:Option Addr) (c:Nat) (l:List UInt8) (aV:Blk w g 178 [.bool true,.slice A l.length c]) (hr:RdB w lo hi A c l) (eB:g<lo∨hi≤g) (bI:l.length≤140737488355328) (most:Int) (hm:most≤9223372036854775807:=by decide):
  Fn Tryz.prog 127 #[(.pointer (some ⟨g,0,none⟩)),(.int .i64 most)] w (fun v w'=>(∃B c2,v=.tuple #[.slice B (cM l most).1.length c2,.int .i64 ((cM l most).2.2:Int)]∧OwnB w' w.heap.size 5 B c2 (cM l most).1)∧qw w w' g lo hi (l.drop (cM l most).2.1)):=by
 have hG:=(aP w).row (some g)
 have Ih:=aV.lt
 refine aO Tryz.func127 ?_
 refine af (aa ?_)
 refine ar (bU) ?_
 rintro v w1 ⟨g3,rfl,aM,d7,sy,su⟩
 replace aV:=aV.ext d7
 replace hr:=hr.ext d7
 replace hG:=hG.gr d7 (fun _ e=>by cases e)
 have KK:=d7.size
 iterate 2 refine va ?_
 refine ag (ae (af (aa ?_)))
 refine vm ?_
 refine ab (wb rfl rfl) ?_
 refine ar (tW R5 rfl rfl (tG _ g lo hi A c l aV hr eB bI most hm g3 aM (by omega))) ?_
 rintro v w2 ⟨⟨B,c2,rfl,ho⟩,it⟩
 iterate 2 refine vx ?_
 iterate 2 refine va ?_
 refine ag (ae (aE ?_))
 refine cX ?_
 exact⟨⟨B,c2,rfl,Own.mono ho (by omega)⟩,hG.trans it.1,it.2⟩
theorem oD (w:World) (g lo hi:Nat) (A:Option Addr) (c:Nat) (l:List UInt8) (aV:Blk w g 178 [.bool true,.slice A l.length c]) (hr:RdB w lo hi A c l) (eB:g<lo∨hi≤g:=by omega) (bI:l.length≤140737488355328:=by omega):
  Fn Tryz.prog 88 #[(.pointer (some ⟨g,0,none⟩))] w (fun v w'=>v=.int .i64 (l.length:Int)∧w'=w):=by
 refine aO Tryz.func88 ?_
 refine af (aa ?_)
 refine va ?_
 refine ag (ae (af (af (aa ?_))))
 refine vm ?_
 refine ab (dO Tryz.underlying150) ?_
 refine ag (ae ?_)
 refine aC ?_
 refine aS (ae (af (aa ?_)))
 refine vm ?_
 refine vn ?_
 refine ab (ah lX) ?_
 refine ab (ak dc aV) ?_
 refine ab (bj Tryz.underlying32) ?_
 refine va ?_
 refine ag (ae (aE ?_))
 refine aY ?_
 exact⟨rfl,rfl⟩
theorem le (w:World) (lo hi:Nat) (A:Option Addr) (c:Nat) (l:List UInt8) (hr:RdB w lo hi A c l) (bI:l.length≤140737488355328):
  Fn Tryz.prog 86 #[(.slice A l.length c)] w (fun v w'=>∃g A' c' h2,v=.pointer (some ⟨g,0,none⟩)∧Blk w' g 178 [.bool true,.slice A' l.length c']∧RdB w' w.heap.size h2 A' c' l∧h2≤g∧Ext w w'∧w.heap.size≤g∧g<w'.heap.size):=by
 replace hr:=hr.top
 have hE:=aP w
 refine aO Tryz.func86 ?_
 refine af (aa ?_)
 refine va ?_
 refine ag (ae (af (aa ?_)))
 refine vm ?_
 refine ar (aw CI (hY _ _ _ _ _ _ hr)) ?_
 rintro v w1 ⟨A4,c4,rfl,ho4,eM⟩
 replace hE:=hE.tr eM
 have yE:=eM.size
 have vu:=OwnB.rd ho4
 refine ab (bi N0 OM) ?_
 refine ar (bU) ?_
 rintro v w2 ⟨g6,rfl,bp,lm,Ti,Te⟩
 replace hE:=hE.tr lm
 refine va ?_
 refine ag (ae (aE ?_))
 refine aY ?_
 exact⟨g6,A4,c4,_,rfl,bp,vu.ext lm,by omega,hE,by omega,by omega⟩
end Go.Proofs.YtiighkbehiddkaaGreat
namespace Go.Proofs.YtiighkbehiddkaaGreat
set_option linter.unusedVariables false
open Go.RowKit
/-- The values of result variables. -/
def xV (P:Program) (L:Env) (w:World):List ResultVar→List Value→Prop
 |[],[]=>True
 | .tmp t::rs,v::vs=>L.get t=some v∧xV P L w rs vs
 | .cell a t::rs,v::vs=>(∃g tb cs,L.get a=some (.pointer (some ⟨g,0,none⟩))∧jt P t cs.length=true∧Blk w g tb cs∧v=.agg cs.toArray)∧xV P L w rs vs
 |_,_=>False
def zJ:List Value→Value
 |[v]=>v
 |vs=>.tuple vs.toArray
def pa (tmps:Array Value):ResultVar→Sem Value
 | .tmp t=>pure (tmps.getD t undef)
 | .cell s t=>do loadVar t (←asAddr (tmps.getD s undef))
theorem tL {P:Program} {L:Env} {w:World} {a:Act} {n:Nd} (ha:Agree a n L):∀{rs:List ResultVar} {vs:List Value},xV P L w rs vs→(rs.mapM (pa a.tmps)).run P w=.ok vs w
 |[],[],_=>rfl
 |[],_::_,h=>h.elim
 | .tmp _::_,[],h=>h.elim
 | .cell ..::_,[],h=>h.elim
 | .tmp t::rs,v::vs,⟨h1,h2⟩=>by
  have ih:=tL ha h2
  have h0:(pa a.tmps (.tmp t)).run P w=.ok v w:=by rw[pa,ha.get t v h1];rfl
  rw[List.mapM_cons]
  simp[h0,ih]
 | .cell s t::rs,v::vs,⟨⟨g,tb,cs,h1,hty,hb,hv⟩,h2⟩=>by
  have ih:=tL ha h2
  have hg:=ha.get s _ h1
  obtain⟨hA,hS⟩:=tB (w:=w) hty
  have hl:=run_loadCells_list (P:=P) w ⟨g,0,none⟩ cs (fun j u hu=>by rw[Addr.add_lit,Nat.zero_add,hb.cell];exact hu)
  have h0:(pa a.tmps (.cell s t)).run P w=.ok v w:=by
   rw[pa,hg,hv]
   simp[loadVar,hA,hS,hl,asAddr]
  rw[List.mapM_cons]
  simp[h0,ih]
section
variable {P:Program} {fn:Func} {Post:Value→World→Prop} {w:World} {n:Nat} {L:Env}
theorem tK {a:Act} {rs:List ResultVar} {vs:List Value} (hr:fn.results=rs.toArray) (ha:Agree a ⟨n,[]⟩ L) (h:xV P L w rs vs):(results fn a.tmps).run P w=.ok (zJ vs) w:=by
 have hm:=tL ha h
 have e:results fn a.tmps=(do
   let vs←fn.results.mapM (pa a.tmps)
   pure (if h:vs.size=1 then vs[0] else .tuple vs)):=rfl
 rw[e,hr]
 simp only[List.mapM_toArray,Sem.run_bind,Sem.run_map,hm]
 match vs with
 |[]=>rfl
 |[v]=>rfl
 |_::_::_=>rfl
theorem bm {rs:List ResultVar} {vs:List Value} (hr:fn.results=rs.toArray) (h:xV P L w rs vs) (hp:Post (zJ vs) w):KQ (bodyPost P fn (CQ Post)) .ret ⟨n,[]⟩ L w:=fun _ ha=>
 bodyPost_ret (tK hr ha h) ha.defers ⟨_,rfl,hp⟩
end
end Go.Proofs.YtiighkbehiddkaaGreat
