/-
 Regions that draw their order and write: to rows of their own (append), and to blocks that are named. What else there was is kept. Plain laws, over any program. No condition.
 Get inverts Put, and Put inverts Get: plain lists, no program. No condition.
 Frames in plain lists: what Write, Size and Read answer. No program. No condition.
 The contracts of the frame functions and of their reference.
 A slice of bytes of one's own that may begin within its block: it is read, cut, appended to (in place or not), moved to the left and cleared. And what a step changes that writes one block and one row. Plain laws, over any program. No condition.
 Steps over blocks that are named, and what they keep: a cell that is written with what it held, a row of single cells made anew, a cell behind a pointer. Plain laws, over any program. No condition.
 Slices of elements of several cells, read as a list of things; and the reading of an argument's cells, opened field by field. Plain laws over any program. No condition.
 Commands, plainly.
 Slices whose array's type is known: what a step over a block of another type leaves of them. Plain laws, over any program. No condition.
-/
import Derived.Test.YtiighkbehiddkaaGreatS02
import Derived.Lib.SliceRun
import Derived.Deep.Slices
namespace Go.Proofs.YtiighkbehiddkaaGreat
set_option linter.unusedVariables false
open Go.RowKit
/-- A row of one's own and a block of another type are two. -/
theorem aT {w:World} {lo:Nat} {e t:TypeId} {size n c g:Nat} {A:Option Addr} {xs cs:List Value} (h:Own w lo e size A n c xs) (hb:Blk w g t cs) (ht:e≠t):gI A≠some g:=by
 intro hA
 rcases h.2 with⟨hv,_⟩|⟨g',cap,cur,hv,_,hh,_⟩
 ·simp only[Value.slice.injEq] at hv
  obtain⟨rfl,_⟩:=hv
  cases hA
 ·simp only[Value.slice.injEq] at hv
  obtain⟨rfl,_,_⟩:=hv
  cases hA
  have:=hh.symm.trans hb
  simp only[Option.some.injEq,Obj.cells.injEq] at this
  exact ht this.2.1
theorem yq {w:World} {lo lo2:Nat} {e e2:TypeId} {size n c size2 m d:Nat} {A B:Option Addr} {xs ys:List Value} (h:Own w lo e size A n c xs) (k:Own w lo2 e2 size2 B m d ys) (ht:e2≠e):gI A=none∨gI A≠gI B:=by
 rcases h.2 with⟨hv,_⟩|⟨g',cap,cur,hv,_,hh,_⟩
 ·simp only[Value.slice.injEq] at hv
  obtain⟨rfl,_⟩:=hv
  exact .inl rfl
 ·simp only[Value.slice.injEq] at hv
  obtain⟨rfl,_,_⟩:=hv
  exact .inr fun hA=>aT k (by simpa [Blk] using hh) ht hA.symm
/-- The cells at an address. -/
def i0 (cs:List Value):gL:=fun v w=>∃p,v=.pointer (some p)∧∀j u,cs[j]?=some u→w.cell? (p.add j)=some u
theorem pV (cs:List Value):CP (i0 cs):=fun _ _ _ ⟨p,hv,hc⟩ he=>⟨p,hv,fun j u hu=>xD he (hc j u hu)⟩
/-- Below B nothing turns, once the heap has come to B. -/
def J0 (B:Nat) (a b:World):Prop:=B≤a.heap.size→Below B a b
theorem vc {B:Nat} (a b:World) (h:Ext a b):J0 B a b:=fun hB=>h.below.mono hB
theorem zq {B:Nat} (a b c:World) (h:J0 B a b) (k:J0 B b c):J0 B a c:=fun hB=>(h hB).trans (k (Nat.le_trans hB (h hB).size))
theorem l0 {w w':World} (h:J0 w.heap.size w w'):Ext w w':=
 have b:=h (Nat.le_refl _)
 ⟨b.os,b.tape,b.output,b.size,fun k hk _=>b.block k hk⟩
theorem GA {B:Nat} {a b:World} {row:Option Nat} (hg:Gr a b row) (hr:∀g,row=some g→B≤g):J0 B a b:=fun hB=>
 ⟨hg.os,hg.tape,hg.output,hg.size,fun k hk=>hg.block k (by omega) fun e=>by have:=hr k e.symm;omega⟩
/-- Only rows and blocks of the types ts, from B on, turn. -/
def RT (B:Nat) (ts:List Nat) (a b:World):Prop:=
 b.os=a.os∧b.tape=a.tape∧b.output=a.output∧a.heap.size≤b.heap.size∧∀k,k<a.heap.size→(k<B∨∀(e:TypeId) (cur:Array Value) (fz:Nat×Nat),e∈ts→a.heap[k]?≠some (.cells cur e fz))→b.heap[k]?=a.heap[k]?
section
variable {B:Nat} {ts:List Nat} {a b:World}
theorem rt1:∀(l:List Nat) (a b:World),Ext a b→RT B l a b:=fun _ _ _ h=>⟨h.os,h.tape,h.output,h.size,fun k hk _=>h.block k hk (by simp)⟩
theorem rt2:∀(l:List Nat) (e:Nat) (a b c:World),e∈l→RT B l a b→RT B [e] b c→RT B l a c:=by
 rintro l e a b c he ⟨h1,h2,h3,h4,h5⟩ ⟨k1,k2,k3,k4,k5⟩
 refine⟨k1.trans h1,k2.trans h2,k3.trans h3,Nat.le_trans h4 k4,fun k hk hn=>?_⟩
 have hb:=h5 k hk hn
 refine(k5 k (Nat.lt_of_lt_of_le hk h4) ?_).trans hb
 rcases hn with hn|hn
 ·exact .inl hn
 ·refine .inr fun e' cur fz GM=>?_
  simp at GM
  subst GM
  rw[hb]
  exact hn _ cur fz he
theorem rt3:∀(l:List Nat) (a b c:World),RT B l a b→Ext b c→RT B l a c:=by
 rintro l a b c ⟨h1,h2,h3,h4,h5⟩ k
 exact⟨k.os.trans h1,k.tape.trans h2,k.output.trans h3,Nat.le_trans h4 k.size,fun i hi hn=>(k.block i (Nat.lt_of_lt_of_le hi h4) (by simp)).trans (h5 i hi hn)⟩
theorem Da {g:Nat} {t:TypeId} {cs:List Value} (hg:Gr a b (some g)) (hb:Blk a g t cs) (hB:B≤g):RT B [t] a b:=
 ⟨hg.os,hg.tape,hg.output,hg.size,fun k hk hn=>hg.block k hk fun hA=>by
  cases hA
  rcases hn with hn|hn
  ·omega
  ·exact hn t _ _ (by simp) hb⟩
theorem qG (h:RT B [] a b):Ext a b:=⟨h.1,h.2.1,h.2.2.1,h.2.2.2.1,fun k hk _=>h.2.2.2.2 k hk (.inr fun e cur fz he=>by cases he)⟩
theorem RT.size (h:RT B ts a b):a.heap.size≤b.heap.size:=h.2.2.2.1
theorem RT.rd {lo hi size n c:Nat} {A:Option Addr} {xs:List Value} (k:RT B ts a b) (h:Rd a lo hi size A n c xs) (hB:hi≤B):Rd b lo hi size A n c xs:=
 h.keep fun p h1 h2 h3=>World.cell?_of_block (k.2.2.2.2 p.block h3 (.inl (by omega)))
theorem RT.own {lo size n c:Nat} {e:TypeId} {A:Option Addr} {xs:List Value} (k:RT B ts a b) (h:Own a lo e size A n c xs) (he:e∉ts):Own b lo e size A n c xs:=by
 refine⟨h.1,?_⟩
 rcases h.2 with h2|⟨g,cap,cur,hv,hb,hh,r⟩
 ·exact .inl h2
 ·refine .inr ⟨g,cap,cur,hv,hb,?_,r⟩
  rw[k.2.2.2.2 g (Array.getElem?_eq_some_iff.1 hh).1 (.inr fun e' cur' fz' GM hc=>by
   have:=hc.symm.trans hh
   simp only[Option.some.injEq,Obj.cells.injEq] at this
   exact he (this.2.1▸GM))]
  exact hh
theorem RT.bk {g:Nat} {t:TypeId} {cs:List Value} (k:RT B ts a b) (h:Blk a g t cs) (he:t∉ts):Blk b g t cs:=
 (k.2.2.2.2 g h.lt (.inr fun e' cur' fz' GM hc=>by
   have:=hc.symm.trans h
   simp only[Option.some.injEq,Obj.cells.injEq] at this
   exact he (this.2.1▸GM))).trans h
theorem RT.e0 {w:World} (k:RT B ts a b) (h:Ext w a) (hB:w.heap.size≤B):Ext w b:=
 ⟨k.1.trans h.os,k.2.1.trans h.tape,k.2.2.1.trans h.output,Nat.le_trans h.size k.size,fun i hi _=>(k.2.2.2.2 i (Nat.lt_of_lt_of_le hi h.size) (.inl (by omega))).trans (h.block i hi (by simp))⟩
theorem RT.g0 {w:World} {row:Option Nat} (k:RT B ts a b) (h:Gr w a row) (hB:w.heap.size≤B):Gr w b row:=
 ⟨k.1.trans h.os,k.2.1.trans h.tape,k.2.2.1.trans h.output,Nat.le_trans h.size k.size,fun i hi hn=>(k.2.2.2.2 i (Nat.lt_of_lt_of_le hi h.size) (.inl (by omega))).trans (h.block i hi hn)⟩
end
/-- Below B nothing turns, and no row of e's anywhere. -/
def xW (B:Nat) (e:TypeId) (a b:World):Prop:=J0 B a b∧∀(k:Nat) (cur:Array Value) (fz:Nat×Nat),a.heap[k]?=some (.cells cur e fz)→b.heap[k]?=a.heap[k]?
theorem mW {B:Nat} {e:TypeId} (a b:World) (h:Ext a b):xW B e a b:=⟨vc a b h,fun k cur fz hk=>h.block k (Array.getElem?_eq_some_iff.1 hk).1 (by simp)⟩
theorem AU {B:Nat} {e:TypeId} (a b c:World) (h:xW B e a b) (k:xW B e b c):xW B e a c:=
 ⟨zq a b c h.1 k.1,fun i cur fz hi=>(k.2 i cur fz ((h.2 i cur fz hi).trans hi)).trans (h.2 i cur fz hi)⟩
theorem kk {w w':World} {e:TypeId} (h:xW w.heap.size e w w'):Ext w w':=l0 h.1
theorem zp {B g:Nat} {e t:TypeId} {a b:World} {cs:List Value} (hg:Gr a b (some g)) (hb:Blk a g t cs) (ht:e≠t) (hr:B≤g):xW B e a b:=
 ⟨GA hg (fun x e=>by cases e;exact hr),fun k cur fz hk=>hg.block k (Array.getElem?_eq_some_iff.1 hk).1 (fun e2=>by
  cases e2
  have:=hk.symm.trans hb
  simp only[Option.some.injEq,Obj.cells.injEq] at this
  exact ht this.2.1)⟩
theorem Own.belu {B lo size n c:Nat} {e:TypeId} {A:Option Addr} {xs:List Value} {a b:World} (h:Own a lo e size A n c xs) (k:xW B e a b):Own b lo e size A n c xs:=by
 refine⟨h.1,?_⟩
 rcases h.2 with h2|⟨g,cap,cur,hv,hb,hh,r⟩
 ·exact .inl h2
 ·exact .inr ⟨g,cap,cur,hv,hb,(k.2 g cur _ hh).trans hh,r⟩
/-- All blocks that were there are as they were, but those in gs. -/
structure Kp (gs:List Nat) (a b:World):Prop where
 os:b.os=a.os
 tape:b.tape=a.tape
 output:b.output=a.output
 size:a.heap.size≤b.heap.size
 block:∀k,k<a.heap.size→k∉gs→b.heap[k]?=a.heap[k]?
section
variable {w w' a b:World} {gs:List Nat}
theorem Kp.rd {lo hi size n c:Nat} {A:Option Addr} {xs:List Value} (hk:Kp gs w w') (h:Rd w lo hi size A n c xs) (hg:∀g∈gs,g<lo∨hi≤g):Rd w' lo hi size A n c xs:=
 h.keep fun p h1 h2 h3=>World.cell?_of_block (hk.block p.block h3 (fun e=>by have:=hg _ e;omega))
theorem Kp.bk {g:Nat} {t:TypeId} {cs:List Value} (hk:Kp gs w w') (h:Blk w g t cs) (hg:g∉gs):Blk w' g t cs:=(hk.block g h.lt hg).trans h
theorem Kp.own {lo:Nat} {e:TypeId} {size n c:Nat} {A:Option Addr} {xs:List Value} (hk:Kp gs w w') (h:Own w lo e size A n c xs) (hg:∀g,gI A=some g→g∉gs):Own w' lo e size A n c xs:=by
 refine⟨h.1,?_⟩
 rcases h.2 with h2|⟨g,cap,cur,hv,hb,hh,r⟩
 ·exact .inl h2
 ·refine .inr ⟨g,cap,cur,hv,hb,?_,r⟩
  simp only[Value.slice.injEq] at hv
  obtain⟨rfl,_,_⟩:=hv
  rw[hk.block g (Array.getElem?_eq_some_iff.1 hh).1 (hg g rfl)]
  exact hh
theorem Kp.e0 (hk:Kp gs a b) (h:Ext w a) (hg:∀g∈gs,w.heap.size≤g):Ext w b:=
 ⟨hk.os.trans h.os,hk.tape.trans h.tape,hk.output.trans h.output,Nat.le_trans h.size hk.size,fun k QC _=>
  (hk.block k (Nat.lt_of_lt_of_le QC h.size) (fun e=>by have:=hg k e;omega)).trans (h.block k QC (by simp))⟩
theorem Kp.g0 {row:Option Nat} (hk:Kp gs a b) (h:Gr w a row) (hg:∀g∈gs,row=some g∨w.heap.size≤g):Gr w b row:=
 ⟨hk.os.trans h.os,hk.tape.trans h.tape,hk.output.trans h.output,Nat.le_trans h.size hk.size,fun k QC eB=>
  (hk.block k (Nat.lt_of_lt_of_le QC h.size) (fun e=>by rcases hg k e with e'|e';exact eB e'.symm;omega)).trans (h.block k QC eB)⟩
end
/-- Below B nothing turns but the blocks gs, and these keep their kind and size. -/
def nv (B:Nat) (gs:List Nat) (a b:World):Prop:=B≤a.heap.size→
 (b.os=a.os∧b.tape=a.tape∧b.output=a.output∧a.heap.size≤b.heap.size∧∀k,k<B→k∉gs→b.heap[k]?=a.heap[k]?)∧
 ∀g∈gs,∀t cs,Blk a g t cs→∃cs',cs'.length=cs.length∧Blk b g t cs'
theorem eh {B:Nat} {gs:List Nat} (a b:World) (h:Ext a b):nv B gs a b:=fun hB=>
 ⟨⟨h.os,h.tape,h.output,h.size,fun k hk _=>h.block k (by omega) (by simp)⟩,fun _ _ _ cs hb=>⟨cs,rfl,hb.ext h⟩⟩
theorem fa {B:Nat} {gs:List Nat} (a b c:World) (h:nv B gs a b) (k:nv B gs b c):nv B gs a c:=fun hB=>by
 obtain⟨⟨h1,h2,h3,h4,h5⟩,h6⟩:=h hB
 obtain⟨⟨k1,k2,k3,k4,k5⟩,k6⟩:=k (Nat.le_trans hB h4)
 refine⟨⟨k1.trans h1,k2.trans h2,k3.trans h3,Nat.le_trans h4 k4,fun i hi hn=>(k5 i hi hn).trans (h5 i hi hn)⟩,fun g hg t cs hb=>?_⟩
 obtain⟨cs',e,vA⟩:=h6 g hg t cs hb
 obtain⟨cs'',e',W4⟩:=k6 g hg t cs' vA
 exact⟨cs'',e'.trans e,W4⟩
theorem ew {w w':World} {gs:List Nat} (h:nv w.heap.size gs w w'):Kp gs w w':=by
 obtain⟨⟨h1,h2,h3,h4,h5⟩,_⟩:=h (Nat.le_refl _)
 exact⟨h1,h2,h3,h4,h5⟩
theorem dC {w w':World} {gs:List Nat} (h:nv w.heap.size gs w w') {g:Nat} {t:TypeId} {cs:List Value} (hb:Blk w g t cs) (hg:g∈gs:=by simp):∃cs',cs'.length=cs.length∧Blk w' g t cs':=(h (Nat.le_refl _)).2 g hg t cs hb
theorem eG {B:Nat} {gs:List Nat} {a b:World} {g:Nat} {t:TypeId} {cs vs:List Value} (hg:Gr a b (some g)) (ha:Blk a g t cs) (hb:Blk b g t vs) (hl:cs.length=vs.length) (mz:g∈gs:=by simp):nv B gs a b:=fun hB=>
  ⟨⟨hg.os,hg.tape,hg.output,hg.size,fun k hk hn=>hg.block k (by omega) fun e=>by cases e;exact hn mz⟩,
   fun g' h t' cs' vA=>by
    by_cases e:g'=g
    · subst e
      have h1:=ha.symm.trans vA
      simp only[Option.some.injEq,Obj.cells.injEq] at h1
      obtain⟨e1,e2,_⟩:=h1
      subst e2
      refine⟨vs,?_,hb⟩
      have:=congrArg Array.size e1
      simp at this
      omega
    · exact⟨cs',rfl,vA.gr hg (fun e'=>e (by cases e';rfl))⟩⟩
/-- The same, with the facts' keeping found by itself. -/
theorem cC {P:Program} {ops:Array Oper} {Q:Exit→Act→World→Prop} {id:Nat} (hm:P.follows .mixedOrders=true) (m:Nat) (F:List (Nat×gL)) (aZ:List (List Nat)) (L:Env) (Vs:List (Nat×Nat×Value)) (vols:List (List Nat)) {n:Nd} {L0:Env} {w:World} (CZ:∀i v,L.get i=some v→L0.get i=some v) (Mz:L0.sub (Vs.map (·.2)))
    (ep:(zV n.n ops 0 m (F.map (·.1)) aZ [] [] [] (List.replicate m true) [] (Vs.map fun e=>(e.1,e.2.1)) vols&&tH ops m)=true) (hL:F.all (fun p=>(L.get p.1).isNone)=true) (hop:ND P (fun _=>Ext) [] [] Vs vols ops L w F 0 0 aZ)
    (uv:∀w',Ext w w'→vj w' (fun L'=>WL P ops Q (ops.toList.drop m) n L' w') F (List.replicate m true) L)
    (it:pQ (fun _=>Ext) F []:=by repeat' (first|exact trivial|exact sE|exact⟨tI _ _,fun _ he=>by cases he⟩|exact⟨fp _ _ _,fun _ he=>by cases he⟩|exact⟨pV _,fun _ he=>by cases he⟩|refine⟨?_,?_⟩)):WC P (.region id ops true) Q n L0 w:=
  fD m F aZ L Vs vols it hop uv (hm:=hm) (CZ:=CZ) (Mz:=Mz) (ep:=ep) (hL:=hL)

end Go.Proofs.YtiighkbehiddkaaGreat
namespace Go.Proofs.YtiighkbehiddkaaGreat
set_option linter.unusedVariables false
theorem sU:∀(f n i da:Nat) (rest:List UInt8),i+f=10→da<128 ^ i→n*128 ^ i+da<18446744073709551616→(0<i→0<n)→
  eQ i da (me f n++rest)=(da+n*128 ^ i,i+(me f n).length,0)
 |0,n,i,da,rest,hi,ha,hn,h0=>by
  have e:i=10:=by omega
  subst e
  have h1:=h0 (by omega)
  omega
 |f+1,n,i,da,rest,hi,ha,hn,h0=>by
  have h9:i=9→n≤1:=by
   intro e
   subst e
   have h3:(128:Nat)^ 9=9223372036854775808:=rfl
   rw[h3] at hn
   omega
  rw[ib]
  by_cases hs:n<128
  ·rw[if_pos hs]
   have hc:(UInt8.ofNat n).toNat=n:=by rw[UInt8.toNat_ofNat'];omega
   rw[List.singleton_append,eQ,hc,if_neg (by rintro(⟨e,h⟩|⟨e,h⟩);have:=h9 e;omega;have:=h0 e;omega),if_pos hs]
   rfl
  ·rw[if_neg hs]
   have hc:(UInt8.ofNat (128+n % 128)).toNat=128+n % 128:=by rw[UInt8.toNat_ofNat'];omega
   have hd:n=n % 128+128*(n / 128):=by omega
   have e1:n*128 ^ i=(n % 128)*128 ^ i+(n / 128)*128 ^(i+1):=by
    have h:n*128 ^ i=(n % 128+128*(n / 128))*128 ^ i:=congrArg (fun z=>z*128 ^ i) hd
    rw[h,Nat.add_mul,Nat.pow_succ,Nat.mul_comm 128 (n / 128),Nat.mul_assoc,Nat.mul_comm 128]
   rw[List.cons_append,eQ,hc,if_neg (by rintro(⟨e,h⟩|⟨e,h⟩);have:=h9 e;omega;omega),if_neg (by omega),show(128+n % 128)% 128=n % 128 by omega]
   rw[sU f (n / 128) (i+1) (da+(n % 128)*128 ^ i) rest (by omega) (sd da n i ha) (by omega) (fun _=>by omega)]
   refine Prod.ext ?_ (Prod.ext ?_ rfl)
   ·show da+n % 128*128 ^ i+n / 128*128 ^(i+1)=da+n*128 ^ i
    omega
   ·show i+1+(me f (n / 128)).length=i+(_::me f (n / 128)).length
    rw[List.length_cons]
    omega
theorem vI {n:Nat} (hn:n<18446744073709551616) (rest:List UInt8):bd (br n++rest)=(n,(br n).length,0):=by
 have:=sU 10 n 0 0 rest (by omega) (by simp) (by simpa using hn) (by omega)
 simpa [bd,br] using this
theorem sT:∀(l:List UInt8) (i da N s:Nat),i≤9→da<128 ^ i→eQ i da l=(N,s,0)→∃m,N=da+m*128 ^ i∧i≤s∧me (10 - i) m=l.take (s - i)∧(0<i→0<m)
 |[],i,da,N,s,hi,ha,h=>by simp[eQ] at h
 |c::cs,i,da,N,s,hi,ha,h=>by
  rw[eQ] at h
  split at h
  ·simp at h
  ·rename_i hb
   split at h
   ·rename_i lc
    simp only[Prod.mk.injEq,and_true] at h
    obtain⟨h1,h2⟩:=h
    refine⟨c.toNat,h1.symm,by omega,?_,fun h0=>by omega⟩
    rw[show 10 - i=(9 - i)+1 by omega,ib,if_pos lc,←h2,show i+1 - i=1 by omega]
    simp
   ·rename_i NT
    have lc:=c.toNat_lt
    obtain⟨m,h1,h2,h3,h4⟩:=sT cs (i+1) _ N s (by omega) (sd da c.toNat i ha) h
    have h5:=h4 (by omega)
    refine⟨c.toNat % 128+128*m,?_,by omega,?_,fun _=>by omega⟩
    ·rw[h1,Nat.add_mul,Nat.pow_succ,Nat.mul_comm 128 m,Nat.mul_assoc,Nat.mul_comm 128,Nat.add_assoc]
    ·rw[show 10 - i=(9 - i)+1 by omega,ib,if_neg (by omega),show(c.toNat % 128+128*m)/ 128=m by omega,show(c.toNat % 128+128*m)% 128=c.toNat % 128 by omega,
      show 9 - i=10 -(i+1) by omega,h3,show s - i=(s -(i+1))+1 by omega,List.take_succ_cons]
     have:128+c.toNat % 128=c.toNat:=by omega
     rw[this]
     simp
theorem qA {l:List UInt8} (h:(bd l).2.2=0):br (bd l).1=l.take (bd l).2.1:=by
 obtain⟨m,h1,_,h3,_⟩:=sT l 0 0 (bd l).1 (bd l).2.1 (by omega) (by simp) (by show bd l=_;exact Prod.ext rfl (Prod.ext rfl h))
 have:(bd l).1=m:=by simpa using h1
 rw[this]
 simpa [br] using h3
theorem AX {b:List UInt8} {most:Int} (hb:(b.length:Int)≤most) (hn:b.length<18446744073709551616) (rest:List UInt8):cM (br b.length++(b++rest)) most=(b,(br b.length).length+b.length,0):=by
 have h:=vI hn (b++rest)
 have ep:=fJ (l:=br b.length++(b++rest)) (most:=most) (h1:=by rw[h];simp) (h2:=by rw[h];simp;omega) (h3:=by rw[h];simp)
 rw[ep,h]
 simp
theorem CA (b r:List UInt8):(br b.length++(b++r)).drop ((br b.length).length+b.length)=r:=by
 rw[←List.append_assoc,List.drop_left' (by simp)]
end Go.Proofs.YtiighkbehiddkaaGreat
namespace Go.Proofs.YtiighkbehiddkaaGreat
set_option linter.unusedVariables false
/-- The length of a frame, and the error. -/
def jZ (p:List UInt8):Nat×Nat:=if 2097152<p.length then(0,5) else(p.length+1,0)
theorem kg (p:List UInt8):(2097152<p.length∧(jZ p).1=0∧(jZ p).2=5)∨(p.length≤2097152∧(jZ p).1=p.length+1∧(jZ p).2=0):=by
 unfold jZ
 by_cases h:2097152<p.length
 ·rw[if_pos h];exact .inl ⟨h,rfl,rfl⟩
 ·rw[if_neg h];exact .inr ⟨by omega,rfl,rfl⟩
/-- The bytes of a frame, and the error. -/
def jF (x:UInt8) (p:List UInt8):List UInt8×Nat:=if(jZ p).2≠0 then([],(jZ p).2) else(br (jZ p).1++[x]++p,0)
theorem n9 {x:UInt8} {p:List UInt8} (h:(jZ p).2≠0:=by omega):jF x p=([],(jZ p).2):=by rw[jF,if_pos h]
theorem pG {x:UInt8} {p:List UInt8} (h:(jZ p).2=0):jF x p=(br (jZ p).1++[x]++p,0):=by rw[jF,if_neg (by omega)]
theorem uW {x:UInt8} {p:List UInt8} (h:p.length≤2097152):jF x p=(br (p.length+1)++[x]++p,0):=by
 rcases kg p with⟨h1,_⟩|⟨_,h2,h3⟩
 ·omega
 ·rw[pG h3,h2]
theorem xB {x:UInt8} {p:List UInt8} (h:2097152<p.length):jF x p=([],5):=by
 rcases kg p with⟨_,_,h3⟩|⟨h1,_⟩
 ·rw[n9,h3]
 ·omega
/-- The frame that bytes begin with: code and payload, size, error. -/
def bJ (l:List UInt8) (most:Int):(UInt8×List UInt8)×Nat×Nat:=
 if most<0∨2097152<most then((0,[]),0,2)
 else if(bd l).2.2=4 then((0,[]),0,4)
 else if(bd l).2.2≠0∨most+1<((bd l).1:Int) then((0,[]),0,5)
 else if(bd l).1=0 then((0,[]),0,6)
 else if l.length -(bd l).2.1<(bd l).1 then((0,[]),0,4)
 else((l.getD (bd l).2.1 0,(l.drop ((bd l).2.1+1)).take ((bd l).1 - 1)),(bd l).2.1+(bd l).1,0)
section
variable {l:List UInt8} {most:Int}
theorem d8 (h:most<0∨2097152<most:=by omega):bJ l most=((0,[]),0,2):=by rw[bJ,if_pos h]
theorem bL (h:0≤most∧most≤2097152:=by omega) (h1:(bd l).2.2=4:=by omega):bJ l most=((0,[]),0,4):=by rw[bJ,if_neg (by omega),if_pos h1]
theorem dz (h:0≤most∧most≤2097152:=by omega) (h1:¬(bd l).2.2=4:=by omega) (h2:(bd l).2.2≠0∨most+1<((bd l).1:Int):=by omega):bJ l most=((0,[]),0,5):=by rw[bJ,if_neg (by omega),if_neg h1,if_pos h2]
theorem dT (h:0≤most∧most≤2097152:=by omega) (h1:(bd l).2.2=0:=by omega) (h2:(bd l).1=0:=by omega):bJ l most=((0,[]),0,6):=by rw[bJ,if_neg (by omega),if_neg (by omega),if_neg (by omega),if_pos h2]
theorem dg (h:0≤most∧most≤2097152:=by omega) (h1:(bd l).2.2=0:=by omega) (h2:¬most+1<((bd l).1:Int):=by omega) (h3:¬(bd l).1=0:=by omega) (h4:l.length -(bd l).2.1<(bd l).1:=by omega):bJ l most=((0,[]),0,4):=by
 rw[bJ,if_neg (by omega),if_neg (by omega),if_neg (by omega),if_neg h3,if_pos h4]
theorem eu (h:0≤most∧most≤2097152:=by omega) (h1:(bd l).2.2=0:=by omega) (h2:¬most+1<((bd l).1:Int):=by omega) (h3:¬(bd l).1=0:=by omega) (h4:¬l.length -(bd l).2.1<(bd l).1:=by omega):
  bJ l most=((l.getD (bd l).2.1 0,(l.drop ((bd l).2.1+1)).take ((bd l).1 - 1)),(bd l).2.1+(bd l).1,0):=by
 rw[bJ,if_neg (by omega),if_neg (by omega),if_neg (by omega),if_neg h3,if_neg h4]
theorem mN (l:List UInt8) (most:Int):(bJ l most).1.2.length≤l.length∧(bJ l most).2.1≤l.length∧(bJ l most).2.2≤6:=by
 have hs:=gA l
 unfold bJ
 repeat' split
 all_goals simp
 all_goals omega
end
end Go.Proofs.YtiighkbehiddkaaGreat
namespace Go.Proofs.YtiighkbehiddkaaGreat
open Go.RowKit
set_option linter.unusedVariables false
set_option maxRecDepth 4000
theorem bN:jt Tryz.prog 117 2=true:=by kernel_rfl
theorem YD:aX Tryz.prog 95=true:=by kernel_rfl
theorem jY:bB Tryz.prog 117 0=some 0:=by kernel_rfl
theorem gH:bB Tryz.prog 117 1=some 1:=by kernel_rfl
theorem ej:Tryz.prog.follows .mixedOrders=true:=by kernel_rfl
theorem f8:fj Tryz.prog 117=some [(0,1),(1,1)]:=by kernel_rfl
theorem du:(Tryz.prog.info? 117).map (·.size)=some 2:=by kernel_rfl
theorem dN:fV Tryz.prog 117=some (.agg #[(.int .u8 0),(.slice none 0 0)]):=by kernel_rfl
/-- What a call of Write leaves. -/
def vh (w:World) (x:UInt8) (p:List UInt8) (v:Value) (w':World):Prop:=
 ∃A c,v=.tuple #[.slice A (jF x p).1.length c,.int .i64 ((jF x p).2:Int)]∧OwnB w' w.heap.size 5 A c (jF x p).1∧Ext w w'
theorem ni {w w':World} {x:UInt8} {p b:List UInt8} {e:Nat} (h:jF x p=(b,e)) {A:Option Addr} {c:Nat} (ho:OwnB w' w.heap.size 5 A c b) (hE:Ext w w'):vh w x p (.tuple #[.slice A b.length c,.int .i64 (e:Int)]) w':=by
 unfold vh;rw[h];exact⟨A,c,rfl,ho,hE⟩
/-- What a call of Read leaves. -/
def AW (w:World) (l:List UInt8) (most:Int) (v:Value) (w':World):Prop:=
 ∃A c,v=.tuple #[.agg #[.int .u8 ((bJ l most).1.1.toNat:Int),.slice A (bJ l most).1.2.length c],.int .i64 ((bJ l most).2.1:Int),.int .i64 ((bJ l most).2.2:Int)]∧OwnB w' w.heap.size 5 A c (bJ l most).1.2∧Ext w w'
theorem a8 {w w':World} {l:List UInt8} {most:Int} {x:UInt8} {p:List UInt8} {s e:Nat} (h:bJ l most=((x,p),s,e)) {A:Option Addr} {c:Nat} (hE:Ext w w') (ho:OwnB w' w.heap.size 5 A c p:=by exact Own.nil_ _ _ _ _):
  AW w l most (.tuple #[.agg #[.int .u8 (x.toNat:Int),.slice A p.length c],.int .i64 (s:Int),.int .i64 (e:Int)]) w':=by
 unfold AW;rw[h];exact⟨A,c,rfl,ho,hE⟩
theorem toNat_inj {x y:UInt8} (h:(x.toNat:Int)=(y.toNat:Int)):x=y:=UInt8.toNat_inj.1 (by omega)
theorem xC (w:World) (x:UInt8) (A:Option Addr) (c:Nat) (p:List UInt8) (hp:p.length≤140737488355328):
  Fn Tryz.prog 95 #[(.agg #[(.int .u8 (↑x.toNat:Int)),(.slice A p.length c)])] w (fun v w'=>v=.tuple #[.int .i64 ((jZ p).1:Int),.int .i64 ((jZ p).2:Int)]∧Ext w w'):=by
 have hE:=aP w
 have NU:=kg p
 refine aO Tryz.func95 ?_
 refine af (aa ?_)
 refine ar (bU) ?_
 rintro v w1 ⟨g1,rfl,au,dL,kM,ls⟩
 replace hE:=hE.tr dL
 iterate 2 refine va ?_
 refine ag (ae (af (af (aa ?_))))
 refine ab (ah gH) ?_
 refine ab (ak dc au) ?_
 refine ab (bj Tryz.underlying32) ?_
 refine ab (bw) ?_
 refine ag (ae ?_)
 refine aL (fun dM=>?_) (fun dM=>?_)
 ·refine af (aa ?_)
  iterate 2 refine va ?_
  refine ag (ae (aE (az ?_)))
  refine cX ?_
  exact⟨by rw[show(jZ p).1=0 by omega,show(jZ p).2=5 by omega];rfl,hE⟩
 ·refine aS (ae (af (aa ?_)))
  refine ab (ah gH) ?_
  refine ab (ak dc au) ?_
  refine ab (bj Tryz.underlying32) ?_
  refine ab (bH) ?_
  iterate 2 refine va ?_
  refine ag (ae (aE ?_))
  refine cX ?_
  exact⟨by rw[show(jZ p).1=p.length+1 by omega,show(jZ p).2=0 by omega];rfl,hE⟩
theorem za (w:World) (lo hi:Nat) (x:UInt8) (A:Option Addr) (c:Nat) (p:List UInt8) (hr:RdB w lo hi A c p) (hp:p.length≤140737488355328):
  Fn Tryz.prog 75 #[(.agg #[(.int .u8 (↑x.toNat:Int)),(.slice A p.length c)])] w (vh w x p):=by
 replace hr:=hr.top
 have hE:=aP w
 refine aO Tryz.func75 ?_
 refine af (aa ?_)
 refine ar (bU) ?_
 rintro v w1 ⟨g1,rfl,au,dL,kM,ls⟩
 replace hr:=hr.ext dL
 replace hE:=hE.tr dL
 iterate 2 refine va ?_
 refine ag (ae (af (aa ?_)))
 refine ab (aK (cs:=[(.int .u8 (↑x.toNat:Int)),(.slice A p.length c)]) bN au) ?_
 refine ar (aw YD (xC _ x _ _ p (by omega))) ?_
 rintro v w2 ⟨rfl,mg⟩
 replace hr:=hr.ext mg
 replace hE:=hE.tr mg
 replace au:=au.ext mg
 have KJ:=mg.size
 have NU:=kg p
 refine vm ?_
 iterate 2 refine vx ?_
 iterate 2 refine va ?_
 refine ag (ae (af (af (aa ?_))))
 refine vm ?_
 refine ab (bS) ?_
 refine ag (ae ?_)
 refine aL (fun dM=>?_) (fun dM=>?_)
 ·refine af (aa ?_)
  refine vm ?_
  iterate 2 refine va ?_
  refine ag (ae (aE (az ?_)))
  refine cX ?_
  exact ni (n9) (Own.nil_ _ _ _ _) hE
 ·have GL:=cw (jZ p).1
  refine aS (ae (af ?_))
  refine eH ?_
  intro w203 xX
  replace hr:=hr.ext xX
  replace hE:=hE.tr xX
  replace au:=au.ext xX
  have D0:=xX.size
  refine fh (sQ (J0 w203.heap.size)) (oR (vc)) (oQ (zq)) (oP (vc) (zq)) 0 9 [(14,a0 (.int .i64 (↑(jZ p).1:Int))),(15,a0 (.int .u64 (↑(jZ p).1:Int))),(16,iP w203.heap.size 5 ([]++br ((jZ p).1))),(17,a0 (.pointer (some ⟨g1,0,none⟩))),(18,a0 (.int .u8 (↑x.toNat:Int))),(19,iP w203.heap.size 5 [x]),(20,iP w203.heap.size 5 (([]++br ((jZ p).1))++[x])),(21,a0 (.pointer (some ⟨g1,1,none⟩))),(22,a0 (.slice A p.length c))] [[],[0],[1],[],[3],[4],[2,5],[],[7]] [[0],[0],[],[0],[0],[],[],[0],[0]] [[0],[0],[0],[0],[0],[0],[0],[0],[0]] [none,none,none,none,none,none,some 0,none,none] [true,true,false,true,true,false,true,true,true] [0] _ [] [] ⟨sA,sA,iF (fp _ _ _),sA,sA,iF (fp _ _ _),iF (fp _ _ _),sA,sA,trivial⟩ ?_ ?_
  ·repeat' apply And.intro
   any_goals exact trivial
   all_goals intro wd bW
   exact am (ax (aF))
   ·rintro _ rfl
    exact am (ax (bv Tryz.underlying3 Tryz.underlying36))
   ·replace bW:=l0 bW
    have dK:=bW.size
    rintro _ rfl
    show eV _ _ _ _ _ _
    refine am (OpRun.mono (aw sO (iY _ _ _ _ _ [] ((jZ p).1) (RdB.nil _ 0 0) (bI:=by simp))) ?_)
    rintro v w204 ⟨A16,c16,rfl,wX,kB⟩
    exact⟨⟨A16,c16,rfl,Own.mono wX (by omega)⟩,kB⟩
   exact am (ax (ah jY))
   ·replace bW:=l0 bW
    replace au:=au.ext bW
    rintro _ rfl
    show eV _ _ _ _ _ _
    exact am (ax (ak qf au))
   ·replace bW:=l0 bW
    have dK:=bW.size
    rintro _ rfl
    show eV _ _ _ _ _ _
    refine am (OpRun.mono (dn (l:=[x]) cE (os:=[.tmp 18])) ?_)
    rintro v w204 ⟨A19,c19,rfl,qa,Cc⟩
    exact⟨⟨A19,c19,rfl,Own.mono qa (by omega)⟩,Cc⟩
   ·replace bW:=l0 bW
    have dK:=bW.size
    rintro _ ⟨A16,c16,rfl,wX⟩
    rintro _ ⟨A19,c19,rfl,qa⟩
    show eV _ _ _ _ _ _
    refine am (OpRun.mono (cG cE wX (OwnB.rd qa) (hb:=by simp;omega)) ?_)
    rintro v w204 ⟨A20,c20,rfl,H8,Wn,ha20⟩
    have U2:=fun g e=>Own.lt wX (g:=g) e
    exact⟨⟨A20,c20,rfl,Own.mono H8 (by omega)⟩,GA Wn (fun g e=>(U2 g e).1)⟩
   exact am (ax (ah gH))
   ·replace bW:=l0 bW
    replace au:=au.ext bW
    rintro _ rfl
    show eV _ _ _ _ _ _
    exact am (ax (ak dc au))
  ·intro wf4 ll
   replace ll:=l0 ll
   replace hr:=hr.ext ll
   replace hE:=hE.tr ll
   have yD:=ll.size
   iterate 2 rintro _ rfl
   intro v16
   iterate 2 rintro _ rfl
   intro v19
   rintro _ ⟨A20,c20,rfl,H8⟩
   iterate 2 rintro _ rfl
   refine fE ?_
   refine ar (cG cE H8 hr (hb:=by simp;omega)) ?_
   rintro v w204 ⟨A23,c23,rfl,dr,sD,Q3⟩
   have ul:=fun g e=>Own.lt H8 (g:=g) e
   replace hE:=hE.gr sD (fun g e=>by have:=ul g e;omega)
   iterate 2 refine va ?_
   refine ag (ae (aE ?_))
   refine cX ?_
   exact ni (pG (by omega)) (Own.mono dr (by omega)) hE
theorem vU (w:World) (lo hi:Nat) (x:UInt8) (A:Option Addr) (c:Nat) (p:List UInt8) (hr:RdB w lo hi A c p) (hp:p.length≤140737488355328):
  Fn Tryz.prog 58 #[(.agg #[(.int .u8 (↑x.toNat:Int)),(.slice A p.length c)])] w (vh w x p):=by
 replace hr:=hr.top
 have hE:=aP w
 refine aO Tryz.func58 ?_
 refine af (aa ?_)
 refine ar (bU) ?_
 rintro v w1 ⟨g1,rfl,au,dL,kM,ls⟩
 replace hr:=hr.ext dL
 replace hE:=hE.tr dL
 have UB:=dL.size
 iterate 2 refine va ?_
 refine ag (ae (af (af (aa ?_))))
 refine ab (ah gH) ?_
 refine ab (ak dc au) ?_
 refine ab (bj Tryz.underlying32) ?_
 refine ab (bw) ?_
 refine ag (ae ?_)
 refine aL (fun dM=>?_) (fun dM=>?_)
 ·refine af (aa ?_)
  iterate 2 refine va ?_
  refine ag (ae (aE (az ?_)))
  refine cX ?_
  exact ni (xB (by omega)) (Own.nil_ _ _ _ _) hE
 ·refine aS (ae (af (aa ?_)))
  refine ab (ah gH) ?_
  refine ab (ak dc au) ?_
  refine ab (bj Tryz.underlying32) ?_
  refine ab (bv Tryz.underlying3 Tryz.underlying36) ?_
  refine ab (bH (hm:=sl)) ?_
  refine ar (aw oU (fK ((p.length+1)) _ (by omega))) ?_
  rintro v w202 ⟨A14,c14,rfl,nq,jV⟩
  replace hr:=hr.ext jV
  replace hE:=hE.tr jV
  replace au:=au.ext jV
  have z7:=jV.size
  have GL:=cw (p.length+1)
  refine va ?_
  refine ag (ae (af (aa ?_)))
  refine vm ?_
  refine ab (ah jY) ?_
  refine ab (ak qf au) ?_
  refine ar (dn (l:=[x]) cE (os:=[.tmp 17])) ?_
  rintro v w203 ⟨A18,c18,rfl,kx,kZ⟩
  replace hr:=hr.ext kZ
  replace hE:=hE.tr kZ
  replace au:=au.ext kZ
  replace nq:=Own.ext nq kZ
  have HF:=kZ.size
  refine ar (cG cE nq (OwnB.rd kx) (hb:=by simp;omega)) ?_
  rintro v w204 ⟨A19,c19,rfl,qa,B6,ha19⟩
  have LB:=fun g e=>Own.lt nq (g:=g) e
  have SJ:=B6.size
  replace hr:=hr.gr B6 (fun g e=>by have:=LB g e;omega)
  replace hE:=hE.gr B6 (fun g e=>by have:=LB g e;omega)
  replace au:=au.gr B6 (by first|(intro e;have:=LB _ e;omega)|exact aT nq au (by decide))
  refine va ?_
  refine ag (ae (af (aa ?_)))
  refine vm ?_
  refine ab (ah gH) ?_
  refine ab (ak dc au) ?_
  refine ar (cG cE qa hr (hb:=by simp;omega)) ?_
  rintro v w205 ⟨A23,c23,rfl,dr,sD,Q3⟩
  have ul:=fun g e=>Own.lt qa (g:=g) e
  replace hE:=hE.gr sD (fun g e=>by have:=ul g e;omega)
  iterate 2 refine va ?_
  refine ag (ae (aE ?_))
  refine cX ?_
  exact ni (uW (by omega)) (Own.mono dr (by omega)) hE
theorem Cw (w:World) (lo hi:Nat) (A:Option Addr) (c:Nat) (l:List UInt8) (most:Int) (nf:-9223372036854775808≤most) (hm:most≤9223372036854775807) (hr:RdB w lo hi A c l) (bI:l.length≤140737488355328):
  Fn Tryz.prog 85 #[(.slice A l.length c),(.int .i64 most)] w (AW w l most):=by
 replace hr:=hr.top
 have E6:=RdB.cap hr
 have hE:=aP w
 have hn:=m1 l
 have hs:=gA l
 refine aO Tryz.func85 ?_
 refine af (aa ?_)
 refine ar (bc dN) ?_
 rintro v w1 ⟨g4,rfl,aI,eM,th,ta⟩
 replace hr:=hr.ext eM
 replace hE:=hE.tr eM
 iterate 2 refine va ?_
 refine ag (ae (af (af (aa ?_))))
 refine vm ?_
 refine ab (bz) ?_
 refine aG (d:=11) (fun Ty=>?_) (fun Ty=>?_)
 ·refine vm ?_
  iterate 2 refine aA ?_
  refine ab (ay) ?_
  refine ag (ae ?_)
  refine aR ?_
  refine af (aa ?_)
  refine ab (bi dN f8) ?_
  refine aB (aD (vs:=[(.int .u8 0),(.slice none 0 0)]) du aI) ?_
  rintro _ w2 ⟨gY,dt⟩
  replace hE:=hE.gr dt
  replace aI:=gY
  iterate 2 refine va ?_
  refine ag (ae (aE (az ?_)))
  refine bm (rs:=[.cell 4 117,.tmp 5,.tmp 6]) (vs:=[.agg #[(.int .u8 0),(.slice none 0 0)],(.int .i64 0),(.int .i64 2)]) rfl ⟨⟨_,_,[(.int .u8 0),(.slice none 0 0)],rfl,bN,aI,rfl⟩,rfl,rfl,trivial⟩ ?_
  first
   |exact a8 (x:=0) (p:=[]) (s:=0) (e:=2) (d8) hE
   |exact a8 (x:=0) (p:=[]) (s:=0) (e:=5) (dz) hE
   |exact a8 (x:=0) (p:=[]) (s:=0) (e:=6) (dT) hE
   |exact a8 (x:=0) (p:=[]) (s:=0) (e:=4) (dg) hE
   |exact a8 (x:=0) (p:=[]) (s:=0) (e:=4) (bL) hE
   |(rw[show(((bd l).2.2:Nat):Int)=4 by omega];exact a8 (x:=0) (p:=[]) (s:=0) (e:=4) (bL) hE)
   |exact a8 (s:=(bd l).2.1+(bd l).1) (e:=0) (eu) hE (ho:=Own.mono ku (by omega))
 ·refine vm ?_
  refine aj (aF) ?_
  refine aj (bw) ?_
  refine ab (ap) ?_
  refine ag (ae ?_)
  refine aL (fun dM=>?_) (fun dM=>?_)
  ·refine af (aa ?_)
   refine ab (bi dN f8) ?_
   refine aB (aD (vs:=[(.int .u8 0),(.slice none 0 0)]) du aI) ?_
   rintro _ w202 ⟨e8,dQ⟩
   replace hE:=hE.gr dQ
   replace aI:=e8
   iterate 2 refine va ?_
   refine ag (ae (aE (az ?_)))
   refine bm (rs:=[.cell 4 117,.tmp 5,.tmp 6]) (vs:=[.agg #[(.int .u8 0),(.slice none 0 0)],(.int .i64 0),(.int .i64 2)]) rfl ⟨⟨_,_,[(.int .u8 0),(.slice none 0 0)],rfl,bN,aI,rfl⟩,rfl,rfl,trivial⟩ ?_
   first
    |exact a8 (x:=0) (p:=[]) (s:=0) (e:=2) (d8) hE
    |exact a8 (x:=0) (p:=[]) (s:=0) (e:=5) (dz) hE
    |exact a8 (x:=0) (p:=[]) (s:=0) (e:=6) (dT) hE
    |exact a8 (x:=0) (p:=[]) (s:=0) (e:=4) (dg) hE
    |exact a8 (x:=0) (p:=[]) (s:=0) (e:=4) (bL) hE
    |(rw[show(((bd l).2.2:Nat):Int)=4 by omega];exact a8 (x:=0) (p:=[]) (s:=0) (e:=4) (bL) hE)
    |exact a8 (s:=(bd l).2.1+(bd l).1) (e:=0) (eu) hE (ho:=Own.mono ku (by omega))
  ·refine aS (ae (af (aa ?_)))
   refine vm ?_
   refine ab (aw Gp (uV _ _ _ _ _ l hr)) ?_
   refine vm ?_
   iterate 3 refine vx ?_
   iterate 3 refine va ?_
   refine ag (ae (af (a9 (af (aa ?_)))))
   refine vm ?_
   refine ve ?_
   refine va ?_
   refine ag (ae ?_)
   refine aL (fun eN=>?_) (fun eN=>?_)
   ·refine af (aa ?_)
    refine ab (bi dN f8) ?_
    refine vm ?_
    refine aB (aD (vs:=[(.int .u8 0),(.slice none 0 0)]) du aI) ?_
    rintro _ w202 ⟨e8,dQ⟩
    replace hE:=hE.gr dQ
    replace aI:=e8
    iterate 2 refine va ?_
    refine ag (ae (aE (aQ (az ?_))))
    refine bm (rs:=[.cell 4 117,.tmp 5,.tmp 6]) (vs:=[.agg #[(.int .u8 0),(.slice none 0 0)],(.int .i64 0),(.int .i64 (↑(bd l).2.2:Int))]) rfl ⟨⟨_,_,[(.int .u8 0),(.slice none 0 0)],rfl,bN,aI,rfl⟩,rfl,rfl,trivial⟩ ?_
    first
     |exact a8 (x:=0) (p:=[]) (s:=0) (e:=2) (d8) hE
     |exact a8 (x:=0) (p:=[]) (s:=0) (e:=5) (dz) hE
     |exact a8 (x:=0) (p:=[]) (s:=0) (e:=6) (dT) hE
     |exact a8 (x:=0) (p:=[]) (s:=0) (e:=4) (dg) hE
     |exact a8 (x:=0) (p:=[]) (s:=0) (e:=4) (bL) hE
     |(rw[show(((bd l).2.2:Nat):Int)=4 by omega];exact a8 (x:=0) (p:=[]) (s:=0) (e:=4) (bL) hE)
     |exact a8 (s:=(bd l).2.1+(bd l).1) (e:=0) (eu) hE (ho:=Own.mono ku (by omega))
   ·refine af (aa ?_)
    refine vm ?_
    refine ab (bS) ?_
    refine aG (d:=30) (fun Yn=>?_) (fun Yn=>?_)
    ·refine vm ?_
     iterate 5 refine aA ?_
     refine ab (ay) ?_
     refine va ?_
     refine ag (ae ?_)
     refine aR ?_
     refine af (aa ?_)
     refine ab (bi dN f8) ?_
     refine aB (aD (vs:=[(.int .u8 0),(.slice none 0 0)]) du aI) ?_
     rintro _ w202 ⟨e8,dQ⟩
     replace hE:=hE.gr dQ
     replace aI:=e8
     iterate 2 refine va ?_
     refine ag (ae (aE (aQ (az ?_))))
     refine bm (rs:=[.cell 4 117,.tmp 5,.tmp 6]) (vs:=[.agg #[(.int .u8 0),(.slice none 0 0)],(.int .i64 0),(.int .i64 5)]) rfl ⟨⟨_,_,[(.int .u8 0),(.slice none 0 0)],rfl,bN,aI,rfl⟩,rfl,rfl,trivial⟩ ?_
     first
      |exact a8 (x:=0) (p:=[]) (s:=0) (e:=2) (d8) hE
      |exact a8 (x:=0) (p:=[]) (s:=0) (e:=5) (dz) hE
      |exact a8 (x:=0) (p:=[]) (s:=0) (e:=6) (dT) hE
      |exact a8 (x:=0) (p:=[]) (s:=0) (e:=4) (dg) hE
      |exact a8 (x:=0) (p:=[]) (s:=0) (e:=4) (bL) hE
      |(rw[show(((bd l).2.2:Nat):Int)=4 by omega];exact a8 (x:=0) (p:=[]) (s:=0) (e:=4) (bL) hE)
      |exact a8 (s:=(bd l).2.1+(bd l).1) (e:=0) (eu) hE (ho:=Own.mono ku (by omega))
    ·refine vm ?_
     iterate 2 refine aj (aF) ?_
     refine aj (bH) ?_
     refine aj (bv Tryz.underlying3 Tryz.underlying36) ?_
     refine aj (bw) ?_
     refine ab (ap) ?_
     refine va ?_
     refine ag (ae ?_)
     refine aL (fun e9=>?_) (fun e9=>?_)
     ·refine af (aa ?_)
      refine ab (bi dN f8) ?_
      refine aB (aD (vs:=[(.int .u8 0),(.slice none 0 0)]) du aI) ?_
      rintro _ w202 ⟨e8,dQ⟩
      replace hE:=hE.gr dQ
      replace aI:=e8
      iterate 2 refine va ?_
      refine ag (ae (aE (aQ (az ?_))))
      refine bm (rs:=[.cell 4 117,.tmp 5,.tmp 6]) (vs:=[.agg #[(.int .u8 0),(.slice none 0 0)],(.int .i64 0),(.int .i64 5)]) rfl ⟨⟨_,_,[(.int .u8 0),(.slice none 0 0)],rfl,bN,aI,rfl⟩,rfl,rfl,trivial⟩ ?_
      first
       |exact a8 (x:=0) (p:=[]) (s:=0) (e:=2) (d8) hE
       |exact a8 (x:=0) (p:=[]) (s:=0) (e:=5) (dz) hE
       |exact a8 (x:=0) (p:=[]) (s:=0) (e:=6) (dT) hE
       |exact a8 (x:=0) (p:=[]) (s:=0) (e:=4) (dg) hE
       |exact a8 (x:=0) (p:=[]) (s:=0) (e:=4) (bL) hE
       |(rw[show(((bd l).2.2:Nat):Int)=4 by omega];exact a8 (x:=0) (p:=[]) (s:=0) (e:=4) (bL) hE)
       |exact a8 (s:=(bd l).2.1+(bd l).1) (e:=0) (eu) hE (ho:=Own.mono ku (by omega))
     ·refine af (aa ?_)
      refine vm ?_
      refine ve ?_
      refine va ?_
      refine ag (ae ?_)
      refine aL (fun iD=>?_) (fun iD=>?_)
      ·refine af (aa ?_)
       refine ab (bi dN f8) ?_
       refine aB (aD (vs:=[(.int .u8 0),(.slice none 0 0)]) du aI) ?_
       rintro _ w202 ⟨e8,dQ⟩
       replace hE:=hE.gr dQ
       replace aI:=e8
       iterate 2 refine va ?_
       refine ag (ae (aE (aQ (az ?_))))
       refine bm (rs:=[.cell 4 117,.tmp 5,.tmp 6]) (vs:=[.agg #[(.int .u8 0),(.slice none 0 0)],(.int .i64 0),(.int .i64 6)]) rfl ⟨⟨_,_,[(.int .u8 0),(.slice none 0 0)],rfl,bN,aI,rfl⟩,rfl,rfl,trivial⟩ ?_
       first
        |exact a8 (x:=0) (p:=[]) (s:=0) (e:=2) (d8) hE
        |exact a8 (x:=0) (p:=[]) (s:=0) (e:=5) (dz) hE
        |exact a8 (x:=0) (p:=[]) (s:=0) (e:=6) (dT) hE
        |exact a8 (x:=0) (p:=[]) (s:=0) (e:=4) (dg) hE
        |exact a8 (x:=0) (p:=[]) (s:=0) (e:=4) (bL) hE
        |(rw[show(((bd l).2.2:Nat):Int)=4 by omega];exact a8 (x:=0) (p:=[]) (s:=0) (e:=4) (bL) hE)
        |exact a8 (s:=(bd l).2.1+(bd l).1) (e:=0) (eu) hE (ho:=Own.mono ku (by omega))
      ·refine af (aa ?_)
       iterate 2 refine vm ?_
       refine ab (bj Tryz.underlying32) ?_
       refine vm ?_
       refine ab (jx) ?_
       refine ab (bv Tryz.underlying3 Tryz.underlying36) ?_
       refine ab (bw) ?_
       refine va ?_
       refine ag (ae ?_)
       refine aL (fun ld=>?_) (fun ld=>?_)
       ·refine af (aa ?_)
        refine ab (bi dN f8) ?_
        refine aB (aD (vs:=[(.int .u8 0),(.slice none 0 0)]) du aI) ?_
        rintro _ w202 ⟨e8,dQ⟩
        replace hE:=hE.gr dQ
        replace aI:=e8
        iterate 2 refine va ?_
        refine ag (ae (aE (aQ (az ?_))))
        refine bm (rs:=[.cell 4 117,.tmp 5,.tmp 6]) (vs:=[.agg #[(.int .u8 0),(.slice none 0 0)],(.int .i64 0),(.int .i64 4)]) rfl ⟨⟨_,_,[(.int .u8 0),(.slice none 0 0)],rfl,bN,aI,rfl⟩,rfl,rfl,trivial⟩ ?_
        first
         |exact a8 (x:=0) (p:=[]) (s:=0) (e:=2) (d8) hE
         |exact a8 (x:=0) (p:=[]) (s:=0) (e:=5) (dz) hE
         |exact a8 (x:=0) (p:=[]) (s:=0) (e:=6) (dT) hE
         |exact a8 (x:=0) (p:=[]) (s:=0) (e:=4) (dg) hE
         |exact a8 (x:=0) (p:=[]) (s:=0) (e:=4) (bL) hE
         |(rw[show(((bd l).2.2:Nat):Int)=4 by omega];exact a8 (x:=0) (p:=[]) (s:=0) (e:=4) (bL) hE)
         |exact a8 (s:=(bd l).2.1+(bd l).1) (e:=0) (eu) hE (ho:=Own.mono ku (by omega))
       ·have kA:(bd l).1≤l.length:=by omega
        refine aS (bb (ae (af (aa ?_))))
        iterate 2 refine vm ?_
        refine ab (bv Tryz.underlying36 Tryz.underlying3 (hm:=kU)) ?_
        refine ab (bH) ?_
        refine va ?_
        refine ag (ae (af ?_))
        refine eH ?_
        intro w202 HJ
        replace hr:=hr.ext HJ
        replace hE:=hE.tr HJ
        replace aI:=aI.ext HJ
        have Sz:=HJ.size
        refine fh (sQ (nv w202.heap.size [g4])) (oR (eh)) (oQ (fa)) (oP (eh) (fa)) 0 13 [(56,a0 (.slice A l.length c)),(57,a0 (.int .i64 (↑(bd l).2.1:Int))),(58,DY (.int .u8 (↑(l.getD (bd l).2.1 0).toNat:Int))),(59,a0 (.int .u8 (↑(l.getD (bd l).2.1 0).toNat:Int))),(60,a0 (.slice A l.length c)),(61,a0 (.int .i64 (↑(bd l).2.1:Int))),(62,a0 (.int .i64 ((↑(bd l).2.1:Int)+1))),(63,a0 (.int .i64 ((↑(bd l).2.1:Int)+(↑(bd l).1:Int)))),(64,O5 0 ((l.drop ((bd l).2.1+1)).take ((bd l).1 - 1))),(65,iP w202.heap.size 5 ((l.drop ((bd l).2.1+1)).take ((bd l).1 - 1))),(66,(fun v w=>∃A65 c65,v=(.agg #[(.int .u8 (↑(l.getD (bd l).2.1 0).toNat:Int)),(.slice A65 ((l.drop ((bd l).2.1+1)).take ((bd l).1 - 1)).length c65)])∧OwnB w w202.heap.size 5 A65 c65 ((l.drop ((bd l).2.1+1)).take ((bd l).1 - 1)))),(67,a0 (.int .i64 ((↑(bd l).2.1:Int)+(↑(bd l).1:Int)))),(80,(fun _ w=>∃A65 c65,Blk w g4 117 [(.int .u8 (↑(l.getD (bd l).2.1 0).toNat:Int)),(.slice A65 ((l.drop ((bd l).2.1+1)).take ((bd l).1 - 1)).length c65)]∧OwnB w w202.heap.size 5 A65 c65 ((l.drop ((bd l).2.1+1)).take ((bd l).1 - 1))))] [[],[],[0,1],[2],[],[],[5],[],[4,6,7],[8],[3,9],[],[10]] [[0],[0],[],[0],[0],[0],[0],[0],[],[],[],[0],[]] [[0],[0],[0],[0],[0],[0],[0],[0],[0],[0],[0],[0],[0]] [none,none,none,none,none,none,none,none,none,none,none,none,some 0] [true,true,false,true,true,true,true,true,false,false,false,true,true] [0] _ [] [] ⟨sA,sA,iF (x9 _),sA,sA,sA,sA,sA,iF (tI _ _),iF (fp _ _ _),iF ((fun v w w' ⟨A65,c65,hb,ku⟩ he=>⟨A65,c65,hb,Own.ext ku he⟩)),sA,iF ((fun _ w w' ⟨A65,c65,hb,ku⟩ he=>⟨A65,c65,hb.ext he,Own.ext ku he⟩)),trivial⟩ ?_ ?_
        ·repeat' apply And.intro
         any_goals exact trivial
         all_goals intro wd bW
         iterate 2 exact am (ax (aF))
         ·have hH:=ew bW
          obtain⟨cs_g4,mF,aI⟩:=dC bW aI
          replace hr:=hH.rd hr (by intro g hg;simp at hg;omega)
          iterate 2 rintro _ rfl
          show eV _ _ _ _ _ _
          refine am (OpRun.mono (eA cE hr) ?_)
          rintro v _ ⟨rfl,p58,rfl,um,PT,P3⟩
          replace um:World.cell? _ p58=some (j3 (l.getD (bd l).2.1 0)):=um
          exact⟨⟨p58,rfl,um⟩,aP _⟩
         ·obtain⟨cs_g4,mF,aI⟩:=dC bW aI
          rintro _ ⟨p58,rfl,um⟩
          show eV _ _ _ _ _ _
          exact am (ax (dv qf rfl um))
         iterate 2 exact am (ax (aF))
         ·rintro _ rfl
          exact am (ax (bH))
         exact am (ax (aF))
         ·have hH:=ew bW
          obtain⟨cs_g4,mF,aI⟩:=dC bW aI
          replace hr:=hH.rd hr (by intro g hg;simp at hg;omega)
          iterate 3 rintro _ rfl
          show eV _ _ _ _ _ _
          refine am (OpRun.mono (dP cE hr (lq rfl rfl (by omega) (by omega) (by omega))) ?_)
          rintro v _ ⟨rfl,A64,c64,rfl,BK,VM⟩
          have Le:(l.drop (Int.toNat ((↑(bd l).2.1:Int)+1))).take ((Int.toNat ((↑(bd l).2.1:Int)+(↑(bd l).1:Int))) -(Int.toNat ((↑(bd l).2.1:Int)+1)))=((l.drop ((bd l).2.1+1)).take ((bd l).1 - 1)):=u3 l
          rw[Le] at BK VM;rw[Le];clear Le
          exact⟨⟨A64,c64,rfl,(Rd.top BK).mono (Nat.zero_le _) (Nat.le_refl _)⟩,aP _⟩
         ·have hH:=ew bW
          obtain⟨cs_g4,mF,aI⟩:=dC bW aI
          have BI:=hH.size
          rintro _ ⟨A64,c64,rfl,BK⟩
          show eV _ _ _ _ _ _
          have hln:((l.drop ((bd l).2.1+1)).take ((bd l).1 - 1)).length≤l.length:=by simp;omega
          refine am (OpRun.mono (aw Nq (mU _ _ _ _ _ _ BK)) ?_)
          rintro v w203 ⟨A65,c65,rfl,ku,Ww⟩
          exact⟨⟨A65,c65,rfl,Own.mono ku (by omega)⟩,Ww⟩
         ·have hH:=ew bW
          obtain⟨cs_g4,mF,aI⟩:=dC bW aI
          have BI:=hH.size
          rintro _ rfl
          rintro _ ⟨A65,c65,rfl,ku⟩
          show eV _ _ _ _ _ _
          refine am (OpRun.mono (bi dN f8) ?_)
          rintro v _ ⟨rfl,rfl⟩
          exact⟨⟨A65,c65,rfl,ku⟩,aP _⟩
         exact am (ax (aF))
         ·obtain⟨cs_g4,mF,aI⟩:=dC bW aI
          rintro _ ⟨A65,c65,rfl,ku⟩
          show eV _ _ _ _ _ _
          have kf:=aI
          refine am (OpRun.mono (aD (vs:=[(.int .u8 (↑(l.getD (bd l).2.1 0).toNat:Int)),(.slice A65 ((l.drop ((bd l).2.1+1)).take ((bd l).1 - 1)).length c65)]) du aI (hl:=mF)) ?_)
          rintro _ w203 ⟨gy,df⟩
          replace ku:=Own.gr ku df (by first|exact .inl rfl|(right;intro e;first|(have:=hq_ho65 _ e;omega)|(have:=Own.lt ku e;omega)|exact aT ku aI (by decide) e))
          replace aI:=gy
          exact⟨⟨A65,c65,aI,ku⟩,eG df kf aI mF⟩
        ·intro wf13 QO
         have Ic:=ew QO
         obtain⟨cs_g4,mF,aI⟩:=dC QO aI
         replace hE:=Ic.e0 hE (by intro g hg;simp at hg;omega)
         iterate 2 rintro _ rfl
         intro v58
         iterate 5 rintro _ rfl
         intro v64
         intro v65
         intro v66
         rintro _ rfl
         rintro _ ⟨A65,c65,aI,ku⟩
         refine fE ?_
         iterate 2 refine va ?_
         refine ag (ae (aE ?_))
         refine bm (rs:=[.cell 4 117,.tmp 5,.tmp 6]) (vs:=[.agg #[(.int .u8 (↑(l.getD (bd l).2.1 0).toNat:Int)),(.slice A65 ((l.drop ((bd l).2.1+1)).take ((bd l).1 - 1)).length c65)],(.int .i64 ((↑(bd l).2.1:Int)+(↑(bd l).1:Int))),(.int .i64 0)]) rfl ⟨⟨_,_,[(.int .u8 (↑(l.getD (bd l).2.1 0).toNat:Int)),(.slice A65 ((l.drop ((bd l).2.1+1)).take ((bd l).1 - 1)).length c65)],rfl,bN,aI,rfl⟩,rfl,rfl,trivial⟩ ?_
         first
          |exact a8 (x:=0) (p:=[]) (s:=0) (e:=2) (d8) hE
          |exact a8 (x:=0) (p:=[]) (s:=0) (e:=5) (dz) hE
          |exact a8 (x:=0) (p:=[]) (s:=0) (e:=6) (dT) hE
          |exact a8 (x:=0) (p:=[]) (s:=0) (e:=4) (dg) hE
          |exact a8 (x:=0) (p:=[]) (s:=0) (e:=4) (bL) hE
          |(rw[show(((bd l).2.2:Nat):Int)=4 by omega];exact a8 (x:=0) (p:=[]) (s:=0) (e:=4) (bL) hE)
          |exact a8 (s:=(bd l).2.1+(bd l).1) (e:=0) (eu) hE (ho:=Own.mono ku (by omega))
theorem yj (w:World) (lo hi:Nat) (A:Option Addr) (c:Nat) (l:List UInt8) (most:Int) (nf:-9223372036854775808≤most) (hm:most≤9223372036854775807) (hr:RdB w lo hi A c l) (bI:l.length≤140737488355328):
  Fn Tryz.prog 60 #[(.slice A l.length c),(.int .i64 most)] w (AW w l most):=by
 replace hr:=hr.top
 have E6:=RdB.cap hr
 have hE:=aP w
 have hn:=m1 l
 have hs:=gA l
 refine aO Tryz.func60 ?_
 refine af (aa ?_)
 refine ar (bc dN) ?_
 rintro v w1 ⟨g4,rfl,aI,eM,th,ta⟩
 replace hr:=hr.ext eM
 replace hE:=hE.tr eM
 have yE:=eM.size
 iterate 2 refine va ?_
 refine ag (ae (af (af (aa ?_))))
 refine vm ?_
 refine ab (bz) ?_
 refine aG (d:=12) (fun h12=>?_) (fun h12=>?_)
 ·refine vm ?_
  iterate 2 refine aA ?_
  refine ab (ay) ?_
  refine ag (ae ?_)
  refine aR ?_
  refine af (aa ?_)
  refine ab (bi dN f8) ?_
  refine aB (aD (vs:=[(.int .u8 0),(.slice none 0 0)]) du aI) ?_
  rintro _ w2 ⟨gY,dt⟩
  replace hE:=hE.gr dt
  replace aI:=gY
  iterate 2 refine va ?_
  refine ag (ae (aE (az ?_)))
  refine bm (rs:=[.cell 4 117,.tmp 5,.tmp 6]) (vs:=[.agg #[(.int .u8 0),(.slice none 0 0)],(.int .i64 0),(.int .i64 2)]) rfl ⟨⟨_,_,[(.int .u8 0),(.slice none 0 0)],rfl,bN,aI,rfl⟩,rfl,rfl,trivial⟩ ?_
  first
   |exact a8 (x:=0) (p:=[]) (s:=0) (e:=2) (d8) hE
   |exact a8 (x:=0) (p:=[]) (s:=0) (e:=5) (dz) hE
   |exact a8 (x:=0) (p:=[]) (s:=0) (e:=6) (dT) hE
   |exact a8 (x:=0) (p:=[]) (s:=0) (e:=4) (dg) hE
   |exact a8 (x:=0) (p:=[]) (s:=0) (e:=4) (bL) hE
   |(rw[show(((bd l).2.2:Nat):Int)=4 by omega];exact a8 (x:=0) (p:=[]) (s:=0) (e:=4) (bL) hE)
   |exact a8 (s:=(bd l).2.1+(bd l).1) (e:=0) (eu) hE (ho:=Own.mono nX (by omega))
 ·refine vm ?_
  refine aj (aF) ?_
  refine aj (bw) ?_
  refine ab (ap) ?_
  refine ag (ae ?_)
  refine aL (fun dM=>?_) (fun dM=>?_)
  ·refine af (aa ?_)
   refine ab (bi dN f8) ?_
   refine aB (aD (vs:=[(.int .u8 0),(.slice none 0 0)]) du aI) ?_
   rintro _ w202 ⟨e8,dQ⟩
   replace hE:=hE.gr dQ
   replace aI:=e8
   iterate 2 refine va ?_
   refine ag (ae (aE (az ?_)))
   refine bm (rs:=[.cell 4 117,.tmp 5,.tmp 6]) (vs:=[.agg #[(.int .u8 0),(.slice none 0 0)],(.int .i64 0),(.int .i64 2)]) rfl ⟨⟨_,_,[(.int .u8 0),(.slice none 0 0)],rfl,bN,aI,rfl⟩,rfl,rfl,trivial⟩ ?_
   first
    |exact a8 (x:=0) (p:=[]) (s:=0) (e:=2) (d8) hE
    |exact a8 (x:=0) (p:=[]) (s:=0) (e:=5) (dz) hE
    |exact a8 (x:=0) (p:=[]) (s:=0) (e:=6) (dT) hE
    |exact a8 (x:=0) (p:=[]) (s:=0) (e:=4) (dg) hE
    |exact a8 (x:=0) (p:=[]) (s:=0) (e:=4) (bL) hE
    |(rw[show(((bd l).2.2:Nat):Int)=4 by omega];exact a8 (x:=0) (p:=[]) (s:=0) (e:=4) (bL) hE)
    |exact a8 (s:=(bd l).2.1+(bd l).1) (e:=0) (eu) hE (ho:=Own.mono nX (by omega))
  ·refine aS (ae (af (aa ?_)))
   refine vm ?_
   refine ab (aw Np (qH _ _ _ _ _ l hr)) ?_
   refine vm ?_
   iterate 3 refine vx ?_
   iterate 3 refine va ?_
   refine ag (ae (af (af (aa ?_))))
   refine vm ?_
   refine ve ?_
   refine ag (ae ?_)
   refine aL (fun eN=>?_) (fun eN=>?_)
   ·refine af (aa ?_)
    refine ab (bi dN f8) ?_
    refine aB (aD (vs:=[(.int .u8 0),(.slice none 0 0)]) du aI) ?_
    rintro _ w202 ⟨e8,dQ⟩
    replace hE:=hE.gr dQ
    replace aI:=e8
    iterate 2 refine va ?_
    refine ag (ae (aE (az ?_)))
    refine bm (rs:=[.cell 4 117,.tmp 5,.tmp 6]) (vs:=[.agg #[(.int .u8 0),(.slice none 0 0)],(.int .i64 0),(.int .i64 4)]) rfl ⟨⟨_,_,[(.int .u8 0),(.slice none 0 0)],rfl,bN,aI,rfl⟩,rfl,rfl,trivial⟩ ?_
    first
     |exact a8 (x:=0) (p:=[]) (s:=0) (e:=2) (d8) hE
     |exact a8 (x:=0) (p:=[]) (s:=0) (e:=5) (dz) hE
     |exact a8 (x:=0) (p:=[]) (s:=0) (e:=6) (dT) hE
     |exact a8 (x:=0) (p:=[]) (s:=0) (e:=4) (dg) hE
     |exact a8 (x:=0) (p:=[]) (s:=0) (e:=4) (bL) hE
     |(rw[show(((bd l).2.2:Nat):Int)=4 by omega];exact a8 (x:=0) (p:=[]) (s:=0) (e:=4) (bL) hE)
     |exact a8 (s:=(bd l).2.1+(bd l).1) (e:=0) (eu) hE (ho:=Own.mono nX (by omega))
   ·refine aS (ae (af (af (aa ?_))))
    refine vm ?_
    refine ab (bS) ?_
    refine ag (ae ?_)
    refine aL (fun e9=>?_) (fun e9=>?_)
    ·refine af (aa ?_)
     refine ab (bi dN f8) ?_
     refine aB (aD (vs:=[(.int .u8 0),(.slice none 0 0)]) du aI) ?_
     rintro _ w202 ⟨e8,dQ⟩
     replace hE:=hE.gr dQ
     replace aI:=e8
     iterate 2 refine va ?_
     refine ag (ae (aE (az ?_)))
     refine bm (rs:=[.cell 4 117,.tmp 5,.tmp 6]) (vs:=[.agg #[(.int .u8 0),(.slice none 0 0)],(.int .i64 0),(.int .i64 5)]) rfl ⟨⟨_,_,[(.int .u8 0),(.slice none 0 0)],rfl,bN,aI,rfl⟩,rfl,rfl,trivial⟩ ?_
     first
      |exact a8 (x:=0) (p:=[]) (s:=0) (e:=2) (d8) hE
      |exact a8 (x:=0) (p:=[]) (s:=0) (e:=5) (dz) hE
      |exact a8 (x:=0) (p:=[]) (s:=0) (e:=6) (dT) hE
      |exact a8 (x:=0) (p:=[]) (s:=0) (e:=4) (dg) hE
      |exact a8 (x:=0) (p:=[]) (s:=0) (e:=4) (bL) hE
      |(rw[show(((bd l).2.2:Nat):Int)=4 by omega];exact a8 (x:=0) (p:=[]) (s:=0) (e:=4) (bL) hE)
      |exact a8 (s:=(bd l).2.1+(bd l).1) (e:=0) (eu) hE (ho:=Own.mono nX (by omega))
    ·refine aS (ae (af (af (aa ?_))))
     refine vm ?_
     refine ve ?_
     refine ag (ae ?_)
     refine aL (fun iD=>?_) (fun iD=>?_)
     ·refine af (aa ?_)
      refine ab (bi dN f8) ?_
      refine aB (aD (vs:=[(.int .u8 0),(.slice none 0 0)]) du aI) ?_
      rintro _ w202 ⟨e8,dQ⟩
      replace hE:=hE.gr dQ
      replace aI:=e8
      iterate 2 refine va ?_
      refine ag (ae (aE (az ?_)))
      refine bm (rs:=[.cell 4 117,.tmp 5,.tmp 6]) (vs:=[.agg #[(.int .u8 0),(.slice none 0 0)],(.int .i64 0),(.int .i64 6)]) rfl ⟨⟨_,_,[(.int .u8 0),(.slice none 0 0)],rfl,bN,aI,rfl⟩,rfl,rfl,trivial⟩ ?_
      first
       |exact a8 (x:=0) (p:=[]) (s:=0) (e:=2) (d8) hE
       |exact a8 (x:=0) (p:=[]) (s:=0) (e:=5) (dz) hE
       |exact a8 (x:=0) (p:=[]) (s:=0) (e:=6) (dT) hE
       |exact a8 (x:=0) (p:=[]) (s:=0) (e:=4) (dg) hE
       |exact a8 (x:=0) (p:=[]) (s:=0) (e:=4) (bL) hE
       |(rw[show(((bd l).2.2:Nat):Int)=4 by omega];exact a8 (x:=0) (p:=[]) (s:=0) (e:=4) (bL) hE)
       |exact a8 (s:=(bd l).2.1+(bd l).1) (e:=0) (eu) hE (ho:=Own.mono nX (by omega))
     ·refine aS (ae (af (af (aa ?_))))
      refine vm ?_
      refine ab (jx (hm:=sl)) ?_
      refine vm ?_
      refine ab (bv Tryz.underlying3 Tryz.underlying36) ?_
      refine ab (bw) ?_
      refine ag (ae ?_)
      refine aL (fun ld=>?_) (fun ld=>?_)
      ·refine af (aa ?_)
       refine ab (bi dN f8) ?_
       refine aB (aD (vs:=[(.int .u8 0),(.slice none 0 0)]) du aI) ?_
       rintro _ w202 ⟨e8,dQ⟩
       replace hE:=hE.gr dQ
       replace aI:=e8
       iterate 2 refine va ?_
       refine ag (ae (aE (az ?_)))
       refine bm (rs:=[.cell 4 117,.tmp 5,.tmp 6]) (vs:=[.agg #[(.int .u8 0),(.slice none 0 0)],(.int .i64 0),(.int .i64 5)]) rfl ⟨⟨_,_,[(.int .u8 0),(.slice none 0 0)],rfl,bN,aI,rfl⟩,rfl,rfl,trivial⟩ ?_
       first
        |exact a8 (x:=0) (p:=[]) (s:=0) (e:=2) (d8) hE
        |exact a8 (x:=0) (p:=[]) (s:=0) (e:=5) (dz) hE
        |exact a8 (x:=0) (p:=[]) (s:=0) (e:=6) (dT) hE
        |exact a8 (x:=0) (p:=[]) (s:=0) (e:=4) (dg) hE
        |exact a8 (x:=0) (p:=[]) (s:=0) (e:=4) (bL) hE
        |(rw[show(((bd l).2.2:Nat):Int)=4 by omega];exact a8 (x:=0) (p:=[]) (s:=0) (e:=4) (bL) hE)
        |exact a8 (s:=(bd l).2.1+(bd l).1) (e:=0) (eu) hE (ho:=Own.mono nX (by omega))
      ·refine aS (ae (af (af (aa ?_))))
       refine vm ?_
       refine ab (bj Tryz.underlying32) ?_
       refine vm ?_
       refine ab (jx) ?_
       refine ab (bv Tryz.underlying3 Tryz.underlying36) ?_
       refine vm ?_
       refine ab (bz) ?_
       refine ag (ae ?_)
       refine aL (fun pC=>?_) (fun pC=>?_)
       ·refine af (aa ?_)
        refine ab (bi dN f8) ?_
        refine aB (aD (vs:=[(.int .u8 0),(.slice none 0 0)]) du aI) ?_
        rintro _ w202 ⟨e8,dQ⟩
        replace hE:=hE.gr dQ
        replace aI:=e8
        iterate 2 refine va ?_
        refine ag (ae (aE (az ?_)))
        refine bm (rs:=[.cell 4 117,.tmp 5,.tmp 6]) (vs:=[.agg #[(.int .u8 0),(.slice none 0 0)],(.int .i64 0),(.int .i64 4)]) rfl ⟨⟨_,_,[(.int .u8 0),(.slice none 0 0)],rfl,bN,aI,rfl⟩,rfl,rfl,trivial⟩ ?_
        first
         |exact a8 (x:=0) (p:=[]) (s:=0) (e:=2) (d8) hE
         |exact a8 (x:=0) (p:=[]) (s:=0) (e:=5) (dz) hE
         |exact a8 (x:=0) (p:=[]) (s:=0) (e:=6) (dT) hE
         |exact a8 (x:=0) (p:=[]) (s:=0) (e:=4) (dg) hE
         |exact a8 (x:=0) (p:=[]) (s:=0) (e:=4) (bL) hE
         |(rw[show(((bd l).2.2:Nat):Int)=4 by omega];exact a8 (x:=0) (p:=[]) (s:=0) (e:=4) (bL) hE)
         |exact a8 (s:=(bd l).2.1+(bd l).1) (e:=0) (eu) hE (ho:=Own.mono nX (by omega))
       ·have kA:(bd l).1≤l.length:=by omega
        refine aS (ae (af (aa ?_)))
        iterate 2 refine vm ?_
        refine ab (bH) ?_
        iterate 2 refine vm ?_
        refine ab (bv Tryz.underlying36 Tryz.underlying3 (hm:=kU)) ?_
        refine ab (bH) ?_
        refine ar (dP cE hr (lq rfl rfl (by omega) (by omega) (by omega))) ?_
        rintro v _ ⟨rfl,A54,c54,rfl,PK,VN⟩
        have Lf:(l.drop (Int.toNat ((↑(bd l).2.1:Int)+1))).take ((Int.toNat ((↑(bd l).2.1:Int)+(↑(bd l).1:Int))) -(Int.toNat ((↑(bd l).2.1:Int)+1)))=((l.drop ((bd l).2.1+1)).take ((bd l).1 - 1)):=u3 l
        rw[Lf] at PK VN;rw[Lf];clear Lf
        have hln:((l.drop ((bd l).2.1+1)).take ((bd l).1 - 1)).length≤l.length:=by simp;omega
        refine ar (jh cE rfl rfl PK) ?_
        rintro v w202 ⟨A55,c55,rfl,nX,L5⟩
        replace hr:=hr.ext L5
        replace hE:=hE.tr L5
        replace aI:=aI.ext L5
        have HQ:=fun g e=>Own.lt nX (g:=g) e
        refine va ?_
        refine ag (ae (af (aa ?_)))
        iterate 2 refine vm ?_
        refine ar (eA cE hr) ?_
        rintro v _ ⟨rfl,p58,rfl,um,PT,P3⟩
        replace um:World.cell? _ p58=some (j3 (l.getD (bd l).2.1 0)):=um
        refine ab (dv qf rfl um) ?_
        refine vm ?_
        refine ab (bi (cs:=[(.int .u8 (↑(l.getD (bd l).2.1 0).toNat:Int)),(.slice A55 ((l.drop ((bd l).2.1+1)).take ((bd l).1 - 1)).length c55)]) dN f8) ?_
        iterate 2 refine vm ?_
        refine ab (bv Tryz.underlying36 Tryz.underlying3 (hm:=kU)) ?_
        refine ab (bH) ?_
        refine aB (aD (vs:=[(.int .u8 (↑(l.getD (bd l).2.1 0).toNat:Int)),(.slice A55 ((l.drop ((bd l).2.1+1)).take ((bd l).1 - 1)).length c55)]) du aI) ?_
        rintro _ w203 ⟨gy,df⟩
        replace hE:=hE.gr df
        replace nX:=Own.gr nX df (by first|exact .inl rfl|(right;intro e;first|(have:=HQ _ e;omega)|(have:=Own.lt nX e;omega)|exact aT nX aI (by decide) e))
        replace aI:=gy
        iterate 2 refine va ?_
        refine ag (ae (aE ?_))
        refine bm (rs:=[.cell 4 117,.tmp 5,.tmp 6]) (vs:=[.agg #[(.int .u8 (↑(l.getD (bd l).2.1 0).toNat:Int)),(.slice A55 ((l.drop ((bd l).2.1+1)).take ((bd l).1 - 1)).length c55)],(.int .i64 ((↑(bd l).2.1:Int)+(↑(bd l).1:Int))),(.int .i64 0)]) rfl ⟨⟨_,_,[(.int .u8 (↑(l.getD (bd l).2.1 0).toNat:Int)),(.slice A55 ((l.drop ((bd l).2.1+1)).take ((bd l).1 - 1)).length c55)],rfl,bN,aI,rfl⟩,rfl,rfl,trivial⟩ ?_
        first
         |exact a8 (x:=0) (p:=[]) (s:=0) (e:=2) (d8) hE
         |exact a8 (x:=0) (p:=[]) (s:=0) (e:=5) (dz) hE
         |exact a8 (x:=0) (p:=[]) (s:=0) (e:=6) (dT) hE
         |exact a8 (x:=0) (p:=[]) (s:=0) (e:=4) (dg) hE
         |exact a8 (x:=0) (p:=[]) (s:=0) (e:=4) (bL) hE
         |(rw[show(((bd l).2.2:Nat):Int)=4 by omega];exact a8 (x:=0) (p:=[]) (s:=0) (e:=4) (bL) hE)
         |exact a8 (s:=(bd l).2.1+(bd l).1) (e:=0) (eu) hE (ho:=Own.mono nX (by omega))
theorem zo (w:World) (lo hi lo2 eO:Nat) (A:Option Addr) (c:Nat) (p:List UInt8) (B:Option Addr) (c2:Nat) (q:List UInt8) (hr:RdB w lo hi A c p) (kJ:RdB w lo2 eO B c2 q):
  Fn Tryz.prog 143 #[(.slice A p.length c),(.slice B q.length c2)] w (fun v w'=>v=.bool (decide (p=q))∧w'=w):=by
 refine aO Tryz.func143 ?_
 refine af (aa ?_)
 refine va ?_
 refine ag (ae (af (aa ?_)))
 refine vm ?_
 refine ab (gB cE Tryz.underlying9 hr) ?_
 refine vm ?_
 refine ab (gB cE Tryz.underlying9 kJ) ?_
 refine ab (mm) ?_
 refine va ?_
 refine ag (ae (aE ?_))
 refine aY ?_
 exact⟨rfl,rfl⟩
end Go.Proofs.YtiighkbehiddkaaGreat
namespace Go.Proofs.YtiighkbehiddkaaGreat
open Go.RowKit
set_option linter.unusedVariables false
/-- Bytes of one's own from an offset of a block on. -/
def OwnT (w:World) (lo:Nat) (e:TypeId) (A:Option Addr) (c:Nat) (l:List UInt8):Prop:=
 l.length≤c∧c≤maxLen∧((A=none∧c=0)∨∃g off cur,A=some ⟨g,off,none⟩∧lo≤g∧w.heap[g]?=some (.cells cur e (0,0))∧off+c≤cur.size∧(cur.toList.drop off).take l.length=l.map j3)
/-- All but the block g and the row D is as it was. -/
structure Ch (g:Nat) (D:Option Nat) (a b:World):Prop where
 os:b.os=a.os
 tape:b.tape=a.tape
 output:b.output=a.output
 size:a.heap.size≤b.heap.size
 block:∀k,k<a.heap.size→k≠g→D≠some k→b.heap[k]?=a.heap[k]?
section
variable {w w':World} {lo c:Nat} {e:TypeId} {A:Option Addr} {l:List UInt8}
theorem OwnT.of (h:OwnB w lo e A c l):OwnT w lo e A c l:=by
 have hr:=Own.rd h
 refine⟨hr.1,hr.2.1,?_⟩
 rcases h.2 with⟨hv,hn⟩|⟨g,cap,cur,hv,hb,hg,EC,jE,tj,ht⟩
 ·simp only[Value.slice.injEq] at hv
  exact .inl ⟨hv.1,hv.2.2⟩
 ·simp only[Value.slice.injEq] at hv
  obtain⟨rfl,_,rfl⟩:=hv
  exact .inr ⟨g,0,cur,rfl,hb,hg,by omega,by simpa using ht⟩
theorem OwnT.nil_ (w:World) (lo:Nat) (e:TypeId):OwnT w lo e none 0 []:=⟨Nat.le_refl _,Nat.zero_le _,.inl ⟨rfl,rfl⟩⟩
theorem OwnT.rd (h:OwnT w lo e A c l):RdB w lo w.heap.size A c l:=by
 refine⟨h.1,h.2.1,by simp,fun eB=>?_⟩
 rcases h.2.2 with⟨_,hc⟩|⟨g,off,cur,rfl,kn,hg,hs,ht⟩
 ·have:=h.1
  exact absurd (List.eq_nil_of_length_eq_zero (by simpa using(by omega:l.length=0))) eB
 ·refine⟨_,rfl,kn,(Array.getElem?_eq_some_iff.1 hg).1,fun j u hu=>?_⟩
  rw[Addr.add_lit,cell_of_row w g _ cur e (0,0) hg]
  rw[←ht,List.getElem?_take] at hu
  split at hu
  ·rw[List.getElem?_drop] at hu
   rw[←hu,Array.getElem?_toList]
  ·cases hu
theorem OwnT.lt (h:OwnT w lo e A c l) {g:Nat} (hg:gI A=some g):lo≤g∧g<w.heap.size:=by
 rcases h.2.2 with⟨rfl,_⟩|⟨g',off,cur,rfl,kn,hh,_⟩
 ·cases hg
 ·cases hg;exact⟨kn,(Array.getElem?_eq_some_iff.1 hh).1⟩
theorem OwnT.same (h:OwnT w lo e A c l) (hk:∀g,gI A=some g→w'.heap[g]?=w.heap[g]?):OwnT w' lo e A c l:=by
 refine⟨h.1,h.2.1,?_⟩
 rcases h.2.2 with h2|⟨g,off,cur,rfl,kn,hh,r⟩
 ·exact .inl h2
 ·exact .inr ⟨g,off,cur,rfl,kn,(hk g rfl).trans hh,r⟩
theorem OwnT.gr (h:OwnT w lo e A c l) {row:Option Nat} (hg:Gr w w' row) (hr:gI A=none∨gI A≠row):OwnT w' lo e A c l:=
 h.same fun g e=>hg.block g (h.lt e).2 fun e'=>by
  rcases hr with hr|hr
  ·rw[e] at hr;cases hr
  ·rw[e] at hr;exact hr e'
theorem OwnT.ext (h:OwnT w lo e A c l) (hg:Ext w w'):OwnT w' lo e A c l:=h.gr hg (by cases A<;>simp[gI])
theorem OwnT.mono {lo':Nat} (h:OwnT w lo e A c l) (hl:lo'≤lo):OwnT w lo' e A c l:=by
 refine⟨h.1,h.2.1,?_⟩
 rcases h.2.2 with h2|⟨g,off,cur,rfl,kn,hh,r⟩
 ·exact .inl h2
 ·exact .inr ⟨g,off,cur,rfl,by omega,hh,r⟩
theorem OwnT.ne {g:Nat} {t:TypeId} {cs:List Value} (h:OwnT w lo e A c l) (hb:Blk w g t cs) (ht:e≠t):gI A≠some g:=by
 intro hA
 rcases h.2.2 with⟨rfl,_⟩|⟨g',off,cur,rfl,kn,hh,_⟩
 ·cases hA
 ·cases hA
  have:=hh.symm.trans hb
  simp only[Option.some.injEq,Obj.cells.injEq] at this
  exact ht this.2.1
/-- Its first bytes. -/
theorem OwnT.take (h:OwnT w lo e A c l) (k:Nat):OwnT w lo e A c (l.take k):=by
 refine⟨Nat.le_trans (by simp;omega) h.1,h.2.1,?_⟩
 rcases h.2.2 with h2|⟨g,off,cur,rfl,kn,hh,hs,ht⟩
 ·exact .inl h2
 ·refine .inr ⟨g,off,cur,rfl,kn,hh,hs,?_⟩
  rw[List.map_take,←ht,List.take_take,List.length_take]
/-- What is left of it. -/
theorem OwnT.drop (h:OwnT w lo e A c l) {k:Nat} (hk:k≤l.length):OwnT w lo e (if c=k then A else A.map (·.add (k*1))) (c - k) (l.drop k):=by
 have h1:=h.1
 have h2:=h.2.1
 refine⟨by rw[List.length_drop];omega,by omega,?_⟩
 rcases h.2.2 with⟨rfl,hc⟩|⟨g,off,cur,rfl,kn,hh,hs,ht⟩
 ·exact .inl ⟨by split<;>rfl,by omega⟩
 ·by_cases hck:c=k
  ·rw[if_pos hck]
   refine .inr ⟨g,off,cur,rfl,kn,hh,by omega,?_⟩
   rw[List.drop_eq_nil_of_le (by omega)];rfl
  ·rw[if_neg hck]
   refine .inr ⟨g,off+k,cur,by rw[Nat.mul_one,Option.map_some,Addr.add_lit],kn,hh,by omega,?_⟩
   rw[List.map_drop,←ht,List.drop_take,List.drop_drop,List.length_drop]
theorem Gz (A:Option Addr) (c k:Nat):gI (if c=k then A else A.map (·.add (k*1)))=gI A:=by
 split
 ·rfl
 ·cases A with
  |none=>rfl
  |some a=>
   have hb:(a.add (k*1)).block=a.block:=by unfold Addr.add;split<;>rfl
   exact congrArg some hb
end
/-! What a step changes. -/
section
variable {a b d w:World} {g:Nat} {D D':Option Nat}
theorem Ch.refl (g:Nat) (D:Option Nat) (a:World):Ch g D a a:=⟨rfl,rfl,rfl,Nat.le_refl _,fun _ _ _ _=>rfl⟩
theorem Ch.of_ext (h:Ext a b):Ch g D a b:=⟨h.os,h.tape,h.output,h.size,fun k hk _ _=>h.block k hk (by simp)⟩
theorem Ch.of_gr (h:Gr a b (some g)):Ch g D a b:=⟨h.os,h.tape,h.output,h.size,fun k hk h1 _=>h.block k hk (fun e=>h1 (by cases e;rfl))⟩
theorem Ch.of_row (h:Gr a b D):Ch g D a b:=⟨h.os,h.tape,h.output,h.size,fun k hk _ h1=>h.block k hk (fun e=>h1 e.symm)⟩
theorem Ch.tr (h:Ch g D a b) (k:Ch g D' b d) (hD:∀x,D'=some x→D=some x∨a.heap.size≤x):Ch g D a d:=
 ⟨k.os.trans h.os,k.tape.trans h.tape,k.output.trans h.output,Nat.le_trans h.size k.size,fun i hi h1 h2=>
  (k.block i (Nat.lt_of_lt_of_le hi h.size) h1 (fun e=>by rcases hD i e with h3|h3;exact h2 h3;omega)).trans (h.block i hi h1 h2)⟩
theorem Ch.ext (h:Ch g D a b) (k:Ext b d):Ch g D a d:=h.tr (Ch.of_ext (D:=D) k) fun x e=>.inl e
theorem Ch.pre (h:Ext a b) (k:Ch g D b d) (hD:∀x,D=some x→x<a.heap.size):Ch g D a d:=(Ch.of_ext h).tr k fun x e=>.inl e
theorem Ch.rd {lo hi size n c:Nat} {A:Option Addr} {xs:List Value} (k:Ch g D a b) (h:Rd a lo hi size A n c xs) (hg:g<lo∨hi≤g) (hD:∀x,D=some x→x<lo∨hi≤x):Rd b lo hi size A n c xs:=
 h.keep fun p h1 h2 h3=>World.cell?_of_block (k.block p.block h3 (fun e=>by omega) (fun e=>by have:=hD _ e;omega))
theorem Ch.e0 (k:Ch g D a b) (h:Ext w a) (hg:w.heap.size≤g) (hD:∀x,D=some x→w.heap.size≤x):Ext w b:=
 ⟨k.os.trans h.os,k.tape.trans h.tape,k.output.trans h.output,Nat.le_trans h.size k.size,fun i hi _=>
  (k.block i (Nat.lt_of_lt_of_le hi h.size) (fun e=>by omega) (fun e=>by have:=hD _ e;omega)).trans (h.block i hi (by simp))⟩
theorem Ch.bk {g2:Nat} {t:TypeId} {cs:List Value} (k:Ch g D a b) (h:Blk a g2 t cs) (hg:g2≠g) (hD:D≠some g2):Blk b g2 t cs:=(k.block g2 h.lt hg hD).trans h
theorem Ch.ownT {lo c:Nat} {e:TypeId} {A:Option Addr} {l:List UInt8} (k:Ch g D a b) (h:OwnT a lo e A c l) (hg:∀x,gI A=some x→x≠g∧D≠some x):OwnT b lo e A c l:=
 h.same fun x e=>k.block x (h.lt e).2 (hg x e).1 (hg x e).2
theorem Ch.own {lo n c size:Nat} {e:TypeId} {A:Option Addr} {xs:List Value} (k:Ch g D a b) (h:Own a lo e size A n c xs) (hg:∀x,gI A=some x→x≠g∧D≠some x):Own b lo e size A n c xs:=by
 refine⟨h.1,?_⟩
 rcases h.2 with h2|⟨g',cap,cur,hv,hb,hh,r⟩
 ·exact .inl h2
 ·refine .inr ⟨g',cap,cur,hv,hb,?_,r⟩
  simp only[Value.slice.injEq] at hv
  obtain⟨rfl,_,_⟩:=hv
  rw[k.block g' (Array.getElem?_eq_some_iff.1 hh).1 (hg g' rfl).1 (hg g' rfl).2]
  exact hh
theorem Ch.gr2 {row:Option Nat} (h:Ch g D w a) (k:Gr a b row) (hr:∀x,row=some x→x=g∨D=some x∨w.heap.size≤x):Ch g D w b:=
 ⟨k.os.trans h.os,k.tape.trans h.tape,k.output.trans h.output,Nat.le_trans h.size k.size,fun i hi h1 h2=>
  (k.block i (Nat.lt_of_lt_of_le hi h.size) (fun e=>by rcases hr i e.symm with h3|h3|h3;exact h1 h3;exact h2 h3;omega)).trans (h.block i hi h1 h2)⟩
theorem Ch.kp2 {gs:List Nat} (h:Ch g D w a) (k:Kp gs a b) (hg:∀x∈gs,x=g∨w.heap.size≤x):Ch g D w b:=
 ⟨k.os.trans h.os,k.tape.trans h.tape,k.output.trans h.output,Nat.le_trans h.size k.size,fun i hi h1 h2=>
  (k.block i (Nat.lt_of_lt_of_le hi h.size) (fun e=>by rcases hg i e with h3|h3;exact h1 h3;omega)).trans (h.block i hi h1 h2)⟩
theorem RT.ch {B:Nat} {ts:List Nat} (k:RT B ts a b) (h:Ch g D w a) (hB:w.heap.size≤B):Ch g D w b:=
 ⟨k.1.trans h.os,k.2.1.trans h.tape,k.2.2.1.trans h.output,Nat.le_trans h.size k.size,fun i hi h1 h2=>(k.2.2.2.2 i (Nat.lt_of_lt_of_le hi h.size) (.inl (by omega))).trans (h.block i hi h1 h2)⟩
theorem RT.ownT {B:Nat} {ts:List Nat} {lo c:Nat} {e:TypeId} {A:Option Addr} {l:List UInt8} (k:RT B ts a b) (h:OwnT a lo e A c l) (he:e∉ts):OwnT b lo e A c l:=by
 refine⟨h.1,h.2.1,?_⟩
 rcases h.2.2 with h2|⟨g,off,cur,rfl,kn,hh,r⟩
 ·exact .inl h2
 ·exact .inr ⟨g,off,cur,rfl,kn,(k.2.2.2.2 g (Array.getElem?_eq_some_iff.1 hh).1 (.inr fun e' cur' fz' GM hc=>by
   have:=hc.symm.trans hh
   simp only[Option.some.injEq,Obj.cells.injEq] at this
   exact he (this.2.1▸GM))).trans hh,r⟩
theorem Kp.ownT {gs:List Nat} {lo c:Nat} {e:TypeId} {A:Option Addr} {l:List UInt8} (k:Kp gs a b) (h:OwnT a lo e A c l) (hg:∀x,gI A=some x→x∉gs):OwnT b lo e A c l:=
 h.same fun x e=>k.block x (h.lt e).2 (hg x e)
theorem Ch.kp {gs:List Nat} (k:Kp gs a b) (h:∀x∈gs,x=g∨D=some x∨a.heap.size≤x):Ch g D a b:=
 ⟨k.os,k.tape,k.output,k.size,fun i hi h1 h2=>k.block i hi fun e=>by rcases h i e with h3|h3|h3;exact h1 h3;exact h2 h3;omega⟩
end
/-! Operations. -/
section
variable {P:Program} {L:Env} {w:World} {d:Option Nat} {ty:TypeId} {pos:String} {aft:Array Edge} {gd:Option (Nat×Bool)}
/-- A cut of a slice, its value alone. -/
theorem oy {t e:TypeId} (T:ByteTy P t e) {x:Operand} {A:Option Addr} {n c:Nat} {ol oh om:Option Operand} {a b m:Nat} (hx:ev L x=some (.slice A n c))
  (hb:∀ρ:Operand→Value,(∀x v,ev L x=some v→ρ x=v)→(Instr.sliceBounds true n c (ol.map ρ) (oh.map ρ) (om.map ρ)).run P w=.ok (a,b,m) w):
  db P ⟨d,.slice t x ol oh om,ty,pos,aft,gd⟩ L w (.slice (if m=a then A else A.map (·.add (a*1))) (b - a) (m - a)):=
 cf fun ρ qd _=>by
  obtain⟨inf,hi,_,gf,_⟩:=T.s.i
  have hu:P.underlying t=some (.slice (P.elem t)):=by simp[Program.elem,T.s.u]
  have he:P.elem t=e:=by simp[Program.elem,T.s.u]
  simp[execOp,qd x _ hx,run_sliceAt_slice w t _ _ _ _ hu,run_slice_any w t A n c hu,hb ρ qd,he,cV hi,gf,sliced]
/-- x[:b]. -/
theorem DJ {t e:TypeId} (T:ByteTy P t e) {x:Operand} {lo:Nat} {A:Option Addr} {c:Nat} {l:List UInt8} {oh:Operand} {k:IntKind} {i:Int} (b:Nat) (hx:ev L x=some (.slice A l.length c)) (hr:OwnT w lo e A c l)
  (hh:ev L oh=some (.int k i)) (hi:i=b) (hb:b≤l.length):db P ⟨d,.slice t x none (some oh) none,ty,pos,aft,gd⟩ L w (.slice A (l.take b).length c):=by
 subst hi
 have h1:=hr.1
 have:=oy (d:=d) (ty:=ty) (pos:=pos) (aft:=aft) (gd:=gd) (w:=w) T (ol:=none) (oh:=some oh) (om:=none) (a:=0) (b:=b) (m:=c) hx (fun ρ hρ=>by have:=mV (P:=P) (w:=w) (n:=l.length) (c:=c) hh (by omega) (by omega) ρ hρ;simpa using this)
 have e1:(if c=0 then A else A.map (·.add (0*1)))=A:=by
  split
  ·rfl
  ·cases A with
   |none=>rfl
   |some a=>simp[Addr.add]
 rw[e1] at this
 rw[List.length_take,Nat.min_eq_left hb]
 exact this
/-- x[a:]. -/
theorem qS {t e:TypeId} (T:ByteTy P t e) {x:Operand} {lo:Nat} {A:Option Addr} {c:Nat} {l:List UInt8} {ol:Operand} {k:IntKind} {i:Int} (a:Nat) (hx:ev L x=some (.slice A l.length c)) (hr:OwnT w lo e A c l)
  (hh:ev L ol=some (.int k i)) (hi:i=a) (ha:a≤l.length):OpRun P ⟨d,.slice t x (some ol) none none,ty,pos,aft,gd⟩ L w fun v w'=>w=w'∧∃A' c',v=.slice A' (l.drop a).length c'∧OwnT w lo e A' c' (l.drop a)∧gI A'=gI A:=by
 subst hi
 refine(oy (d:=d) (ty:=ty) (pos:=pos) (aft:=aft) (gd:=gd) (w:=w) T (ol:=some ol) (oh:=none) (om:=none) (a:=a) (b:=l.length) (m:=c) hx (fun ρ hρ=>by have:=iC (P:=P) (w:=w) (n:=l.length) (c:=c) hh (by omega) (by omega) ρ hρ;simpa using this)).mono ?_
 rintro v w' ⟨rfl,rfl⟩
 exact⟨rfl,_,_,by rw[List.length_drop],hr.drop ha,Gz _ _ _⟩
/-- A row that is the old one, or new. -/
def Nx (w:World) (D D':Option Nat):Prop:=∀x,D'=some x→D=some x∨w.heap.size≤x
theorem Nx.refl (w:World) (D:Option Nat):Nx w D D:=fun _ e=>.inl e
theorem Nx.mono {w w':World} {D D':Option Nat} (h:Nx w' D D') (hs:w.heap.size≤w'.heap.size):Nx w D D':=fun x e=>(h x e).imp id fun h2=>Nat.le_trans hs h2
theorem Nx.tr {w w':World} {D D' D2:Option Nat} (h:Nx w D D') (k:Nx w' D' D2) (hs:w.heap.size≤w'.heap.size):Nx w D D2:=fun x e=>by
 rcases k x e with h2|h2
 ·exact h x h2
 ·exact .inr (Nat.le_trans hs h2)
/-- What an append leaves. -/
def tC (w:World) (lo:Nat) (e:TypeId) (A:Option Addr) (c:Nat) (l m:List UInt8) (v:Value) (w':World):Prop:=
 ∃A' c',v=.slice A' (l++m).length c'∧OwnT w' lo e A' c' (l++m)∧Gr w w' (gI A)∧Nx w (gI A) (gI A')∧(l.length+m.length≤c→A'=A∧c'=c)
theorem p6 {t ty e:TypeId} (T:ByteTy P t e) {lo:Nat} {A:Option Addr} {c:Nat} {l:List UInt8} (f7:OwnT w lo e A c l)
  {l2 h2:Nat} {B:Option Addr} {c2:Nat} {m:List UInt8} (hr:RdB w l2 h2 B c2 m) (hb:l.length+m.length≤140737488355328) (kn:lo≤w.heap.size):
  ∃v w',(Builtin.append_ #[t,t] ty #[.slice A l.length c,.slice B m.length c2]).run P w=.ok v w'∧tC w lo e A c l m v w':=by
 obtain⟨i,hi,hz,hs,Az⟩:=T.s.i
 have EC:=f7.1
 have jE:=f7.2.1
 have one:∀u∈m.map j3,u.oneCell'=true:=fun u hu=>by obtain⟨b,_,rfl⟩:=List.mem_map.1 hu;rfl
 rcases f7.2.2 with⟨rfl,rfl⟩|⟨g,off,cur,rfl,LN,hh,gf,no⟩
 ·have hl:l=[]:=List.eq_nil_of_length_eq_zero (by omega)
  subst hl
  obtain⟨v,w',lG,A',c',rfl,ho,hg,hA⟩:=mj (ty:=ty) T.s (Own.nil_ w lo e 1) hr one (by rw[Nat.mul_one];simpa using hb) (by simp only[maxLen];simp at hb;omega) kn
  refine⟨_,w',lG,A',c',by simp,by simpa [OwnB] using OwnT.of (by simpa [OwnB] using ho),hg,?_,fun h=>?_⟩
  ·intro x hx
   rcases hA with hA|hA
   ·rw[hA] at hx;cases hx
   ·rw[hA] at hx;cases hx;exact .inr (Nat.le_refl _)
  ·have hm:m=[]:=List.eq_nil_of_length_eq_zero (by simp at h;exact List.length_eq_zero_iff.2 h)
   subst hm
   rcases ho.2 with⟨hv,_⟩|⟨g,cap,cur,hv,hbb,hgg,hnc',hcm',tj,ht⟩
   ·simp only[Value.slice.injEq] at hv;exact⟨hv.1,hv.2.2⟩
   ·exfalso
    simp only[Value.slice.injEq] at hv
    obtain⟨rfl,_,rfl⟩:=hv
    cases B with
    |none=>
     have:=j4 (P:=P) (ty:=ty) T.s.u hi (Own.nil_ w lo e 1) c2
     simp only[List.length_nil] at lG
     rw[lG] at this
     simp at this
    |some b=>
     have:(Builtin.append_ #[t,t] ty #[.slice none 0 0,.slice (some b) 0 c2]).run P w=.ok (.slice none 0 0) w:=by
      simp[Builtin.append_,run_underlying T.s.u,cV hi,Builtin.lenOf,Builtin.firstCells,loadCells,loadCellsFrom]
     simp only[List.length_nil] at lG
     rw[lG] at this
     simp at this
 ·by_cases tc:l.length+m.length≤c
  ·have hw:∃w',(Builtin.append_ #[t,t] ty #[.slice (some ⟨g,off,none⟩) l.length c,.slice B m.length c2]).run P w=.ok (.slice (some ⟨g,off,none⟩) (l++m).length c) w'∧
     OwnT w' lo e (some ⟨g,off,none⟩) c (l++m)∧Gr w w' (some g):=by
    cases B with
    |none=>
     have hm:=RdB.nil_eq hr
     subst hm
     refine⟨w,by simp[Builtin.append_,run_underlying T.s.u,cV hi,Builtin.lenOf,Builtin.firstCells,EC,storeCells],by simpa using f7,(aP w).row _⟩
    |some a=>
     have nB:∀j u,(m.map j3)[j]?=some u→w.cell? (a.add j)=some u:=by
      intro j u hu
      have eB:m.map j3≠[]:=fun e=>by rw[e] at hu;cases hu
      obtain⟨ad,ha,hc⟩:=Rd.cells hr eB
      cases ha
      exact hc j u hu
     have Wq:=run_firstCells_some (P:=P) w i.size m.length a m.length c2 (m.map j3) (by rw[hs];simp) nB
     have it:=run_storeCells_at P g (off+l.length) e (m.map j3) 0 cur w hh (by simp;omega) one
     simp only[Nat.add_zero,List.length_map] at it
     refine⟨w.setRow g (cur.toList.take (off+l.length)++m.map j3++cur.toList.drop (off+l.length+m.length)).toArray,?_,⟨by simp;omega,jE,.inr ⟨g,off,_,rfl,LN,setRow_heap w g cur _ e _ hh,?_,?_⟩⟩,⟨rfl,rfl,rfl,by simp,fun k _ hk=>setRow_other w g k _ (fun e=>hk (by simp[e]))⟩⟩
     ·simp[Builtin.append_,run_underlying T.s.u,sizeOf,typeInfo,hi,hs,Builtin.lenOf,tc,Addr.add_lit]
      rw[hs] at Wq
      simp[Wq,it]
     ·simp;omega
     ·have h1:(cur.toList.take (off+l.length)).drop off=l.map j3:=by rw[List.drop_take,Nat.add_sub_cancel_left];exact no
      have h2:off≤(cur.toList.take (off+l.length)).length:=by simp;omega
      rw[List.append_assoc,List.drop_append_of_le_length h2,h1,←List.append_assoc,List.take_left' (by simp),List.map_append]
   obtain⟨w',h1,h2,h3⟩:=hw
   exact⟨_,w',h1,_,_,rfl,h2,h3,Nx.refl _ _,fun _=>⟨rfl,rfl⟩⟩
  ·cases B with
   |none=>
    have hm:=RdB.nil_eq hr
    subst hm
    exact absurd (by simpa using EC) tc
   |some a=>
    have hm:m≠[]:=fun e=>tc (by subst e;simpa using EC)
    obtain⟨ad,ha,hc⟩:=Rd.cells hr (by simpa using hm)
    cases ha
    have BO:∀j u,(l.map j3)[j]?=some u→w.cell? ((⟨g,off,none⟩:Addr).add j)=some u:=by
     intro j u hu
     rw[Addr.add_lit,cell_of_row w g _ cur e (0,0) hh]
     rw[←no,List.getElem?_take] at hu
     split at hu
     ·rw[List.getElem?_drop] at hu
      rw[←hu,Array.getElem?_toList]
     ·cases hu
    obtain⟨v',w',lG,ho,hg⟩:=run_append_arg_grows (P:=P) w t ty e i (.int .u8 0) 1 1 T.s.u hi hz hs Az T.s.zs T.s.sz ⟨g,off,none⟩ l.length c (l.map j3) (by simp) BO a m.length c2 (m.map j3) (by simp) hc (by omega) (by simp only[maxLen];omega) (by omega)
    refine⟨v',w',lG,?_⟩
    rcases ho.2 with⟨rfl,h0⟩|⟨g',cap,cur',rfl,r⟩
    ·exfalso
     have:0<m.length:=List.length_pos_iff.2 hm
     omega
    ·refine⟨some ⟨g',0,none⟩,cap,by simp,OwnT.mono (OwnT.of ?_) kn,Ext.row hg _,(fun x hx=>by cases hx;exact .inr r.1),fun h=>absurd h tc⟩
     unfold OwnB
     rw[List.length_append,List.map_append]
     exact ho
/-- append to a slice of one's own. -/
theorem nM {t e:TypeId} (T:ByteTy P t e) {s x:Operand} {lo:Nat} {A:Option Addr} {c:Nat} {l:List UInt8} (hs:ev L s=some (.slice A l.length c)) (f7:OwnT w lo e A c l) {l2 h2:Nat} {B:Option Addr} {c2:Nat} {m:List UInt8} (hx:ev L x=some (.slice B m.length c2)) (hr:RdB w l2 h2 B c2 m) (hb:l.length+m.length≤140737488355328) (kn:lo≤w.heap.size:=by omega):
  OpRun P ⟨d,.call ⟨.builtin .append,#[s,x],#[t,t]⟩,ty,pos,aft,gd⟩ L w (tC w lo e A c l m):=
 eX fun ρ qd _=>by
  obtain⟨v,w',lG,hp⟩:=p6 (ty:=ty) T f7 hr hb kn
  refine⟨v,w',?_,hp⟩
  simp[execOp,resolve,invoke,builtin,qd s _ hs,qd x _ hx,lG]
/-- 'clear' behind the slice's own bytes. -/
theorem BA {t e:TypeId} (T:ByteTy P t e) {x:Operand} {lo:Nat} {A:Option Addr} {c a n:Nat} {l:List UInt8} (hx:ev L x=some (.slice (if c=a then A else A.map (·.add (a*1))) n (c - a))) (f7:OwnT w lo e A c l)
  (ha:l.length≤a) (hn:0<n) (hc:a+n≤c):
  OpRun P ⟨d,.call ⟨.builtin .clear,#[x],#[t]⟩,ty,pos,aft,gd⟩ L w fun v w'=>OwnT w' lo e A c l∧Gr w w' (gI A):=
 eX fun ρ qd _=>by
  obtain⟨i,hi,hz,hs,Az⟩:=T.s.i
  rw[if_neg (by omega)] at hx
  rcases f7.2.2 with⟨rfl,rfl⟩|⟨g,off,cur,rfl,LN,hh,gf,no⟩
  ·omega
  ·rw[Nat.mul_one,Option.map_some,Addr.add_lit] at hx
   have hzv:(zeroValue e).run P w=.ok (.int .u8 0) w:=by simp[zeroValue,typeInfo,hi,hz]
   have hzc:(Builtin.zeroCells (Value.int .u8 0).cells n).toList=List.replicate n (.int .u8 0):=by
    simp[Builtin.zeroCells,Value.cells]
    apply List.ext_getElem
    ·simp
    ·intro i h1 h2
     simp[Nat.mod_one]
   have it:=run_storeCells_at P g (off+a) e (List.replicate n (.int .u8 0)) 0 cur w hh (by simp;omega) (fun u hu=>by rw[List.eq_of_mem_replicate hu];rfl)
   simp only[Nat.add_zero,List.length_replicate] at it
   obtain⟨m,rfl⟩:∃m,n=m+1:=⟨n - 1,by omega⟩
   refine⟨.tuple #[],w.setRow g (cur.toList.take (off+a)++List.replicate (m+1) (Value.int .u8 0)++cur.toList.drop (off+a+(m+1))).toArray,?_,⟨f7.1,f7.2.1,.inr ⟨g,off,_,rfl,LN,setRow_heap w g cur _ e _ hh,?_,?_⟩⟩,⟨rfl,rfl,rfl,by simp,fun k _ hk=>setRow_other w g k _ (fun e=>hk (by simp[gI,e]))⟩⟩
   ·simp[execOp,resolve,invoke,builtin,qd x _ hx,Builtin.clear_,run_underlying T.s.u,hzv,hzc,it]
   ·simp;omega
   ·have h2:off≤(cur.toList.take (off+a)).length:=by simp;omega
    rw[List.append_assoc,List.drop_append_of_le_length h2,List.drop_take,Nat.add_sub_cancel_left,List.take_append_of_le_length (by simp;omega),List.take_take,Nat.min_eq_left ha]
    exact no
end
end Go.Proofs.YtiighkbehiddkaaGreat
namespace Go.Proofs.YtiighkbehiddkaaGreat
open Go.RowKit
set_option linter.unusedVariables false
section
variable {w w':World} {g:Nat} {t:TypeId} {cs:List Value}
theorem Blk.at (h:Blk w g t cs) {i:Nat} {v:Value} (hv:cs[i]?=some v):w.cell? ⟨g,i,none⟩=some v:=by rw[h.cell];exact hv
end
section
variable {a b c:World} {gs gs':List Nat}
theorem Kp.refl (gs:List Nat) (a:World):Kp gs a a:=⟨rfl,rfl,rfl,Nat.le_refl _,fun _ _ _=>rfl⟩
theorem Kp.tr (h:Kp gs a b) (k:Kp gs' b c) (hg:∀x∈gs',x∈gs∨a.heap.size≤x):Kp gs a c:=
 ⟨k.os.trans h.os,k.tape.trans h.tape,k.output.trans h.output,Nat.le_trans h.size k.size,fun i hi hn=>
  (k.block i (Nat.lt_of_lt_of_le hi h.size) (fun e=>by rcases hg i e with h1|h1;exact hn h1;omega)).trans (h.block i hi hn)⟩
theorem Kp.te (h:Kp gs a b) (k:Ext b c):Kp gs a c:=h.tr (gs':=[]) ⟨k.os,k.tape,k.output,k.size,fun i hi _=>k.block i hi (by simp)⟩ (fun x hx=>by cases hx)
theorem Kp.tg {g:Nat} (h:Kp gs a b) (k:Gr b c (some g)) (hg:g∈gs∨a.heap.size≤g):Kp gs a c:=
 h.tr (gs':=[g]) ⟨k.os,k.tape,k.output,k.size,fun i hi hn=>k.block i hi (fun e=>hn (by cases e;simp))⟩ (fun x hx=>by simp at hx;subst hx;exact hg)
theorem Kp.of_ext (k:Ext a b):Kp gs a b:=(Kp.refl gs a).te k
theorem Kp.sub (h:Kp gs a b) (hg:∀x∈gs,x∈gs'∨a.heap.size≤x):Kp gs' a b:=(Kp.refl gs' a).tr h hg
end
theorem Own.blk1 {w:World} {lo g n:Nat} {e:TypeId} {xs:List Value} (h:Own w lo e 1 (some ⟨g,0,none⟩) n n xs) (hx:xs.length=n):Blk w g e xs:=by
 rcases h.2 with⟨hv,_⟩|⟨g',cap,cur,hv,hb,hh,EC,jE,tj,no⟩
 ·simp at hv
 ·simp only[Value.slice.injEq,Option.some.injEq,Addr.mk.injEq] at hv
  obtain⟨⟨rfl,_⟩,_,rfl⟩:=hv
  have hc:cur.toList=xs:=by
   rw[←no,List.take_of_length_le (by simp;omega)]
  unfold Blk
  rw[hh,←hc]
section
variable {P:Program} {L:Env} {w:World} {d:Option Nat} {ty:TypeId} {pos:String} {aft:Array Edge} {gd:Option (Nat×Bool)}
/-- make([]T, n) of single cells. -/
theorem wk {t e:TypeId} {bytes:Nat} {z:Value} (T:SliceTy P t e 1 bytes z) {x y:Operand} {k:IntKind} {n:Nat} {i:Int} (NK:z.cells=#[z]) (hx:ev L x=some (.int k i)) (hy:ev L y=some (.int k i)) (hi:i=n) (hb:bytes*n≤140737488355328) (GP:n≤maxLen):
  OpRun P ⟨d,.makeSlice t x y,ty,pos,aft,gd⟩ L w fun v w'=>∃g,v=.slice (some ⟨g,0,none⟩) n n∧Blk w' g e (List.replicate n z)∧Ext w w'∧w.heap.size≤g∧g<w'.heap.size:=
 eX fun ρ h1 _=>by
  obtain⟨inf,qb,hz,hs,Az⟩:=T.i
  subst hi
  obtain⟨w',hr,f7,hg⟩:=run_make_full (P:=P) w w.heap.size t e inf z 1 T.u qb hz hs k k n (by rw[Az];omega) GP (Nat.le_refl _)
  have hm:(madeCells z.cells (n*1)).toList=List.replicate n z:=by rw[Nat.mul_one,NK];exact l9 _ n
  rw[hm] at f7
  have QZ:Blk w' w.heap.size e (List.replicate n z):=Own.blk1 (lo:=w.heap.size) f7 (by simp)
  exact⟨_,w',by simp[execOp,h1 x _ hx,h1 y _ hy,hr],w.heap.size,rfl,QZ,hg,Nat.le_refl _,QZ.lt⟩
end
end Go.Proofs.YtiighkbehiddkaaGreat
namespace Go.Proofs.YtiighkbehiddkaaGreat
set_option linter.unusedVariables false
open Go.ChangeShapes Go.WideShapes Go.ChangeAt Go.RowKit Go.Deep
theorem i7 (a:Addr):a.add 0=a:=by unfold Addr.add;simp
section
variable {α:Type} {P:Program} {w:World} {L:Env} {d:Option Nat} {ty:TypeId} {pos:String} {aft:Array Edge} {gd:Option (Nat×Bool)}
/-- The slice reads as the things xs, each of 'size' cells. -/
abbrev RdR (w:World) (lo hi size:Nat) (f:α→List Value) (A:Option Addr) (c:Nat) (xs:List α):Prop:=Rd w lo hi size A xs.length c (xs.flatMap f)
theorem oO {f:α→List Value} {size:Nat}:∀{xs:List α} (_:∀x∈xs,(f x).length=size) {k j:Nat} {x:α} {u:Value},xs[k]?=some x→(f x)[j]?=some u→(xs.flatMap f)[k*size+j]?=some u
 |[],_,k,j,x,u,h,_=>by simp at h
 |y::r,hf,0,j,x,u,h,hu=>by
  simp only[List.getElem?_cons_zero,Option.some.injEq] at h
  subst h
  have hj:=(List.getElem?_eq_some_iff.1 hu).1
  rw[List.flatMap_cons,Nat.zero_mul,Nat.zero_add,List.getElem?_append_left hj]
  exact hu
 |y::r,hf,k+1,j,x,u,h,hu=>by
  have hy:=hf y (List.mem_cons_self ..)
  rw[List.getElem?_cons_succ] at h
  have:=oO (xs:=r) (fun x hx=>hf x (List.mem_cons_of_mem _ hx)) h hu
  rw[List.flatMap_cons,List.getElem?_append_right (by rw[hy,Nat.succ_mul];omega),hy,show(k+1)*size+j - size=k*size+j by rw[Nat.succ_mul];omega]
  exact this
theorem RdR.at {lo hi size c:Nat} {f:α→List Value} {A:Option Addr} {xs:List α} (hr:RdR w lo hi size f A c xs) (hf:∀x∈xs,(f x).length=size) (hs:0<size) {k:Nat} {x:α} (hk:xs[k]?=some x):
  ∃ad,A=some ad∧lo≤ad.block∧ad.block<hi∧∀j u,(f x)[j]?=some u→w.cell? ((ad.add (k*size)).add j)=some u:=by
 have hx:=hf x (List.mem_of_getElem? hk)
 have eB:xs.flatMap f≠[]:=by
  intro e
  have h0:∃u,(f x)[0]?=some u:=⟨(f x)[0]'(by omega),List.getElem?_eq_getElem (by omega)⟩
  obtain⟨u,hu⟩:=h0
  have:=oO hf hk hu
  rw[e] at this
  simp at this
 obtain⟨ad,e,a,b,hc⟩:=hr.2.2.2 eB
 refine⟨ad,e,a,b,fun j u hu=>?_⟩
 rw[mZ]
 exact hc _ _ (oO hf hk hu)
/-- An element's address: the address is a letter, its cells are known. -/
theorem cS {t e:TypeId} {size bytes:Nat} {z:Value} (T:SliceTy P t e size bytes z) {f:α→List Value} {x y:Operand} {lo hi:Nat} {A:Option Addr} {c:Nat} {xs:List α} {k:IntKind} {m:Nat} {a:α} (hr:RdR w lo hi size f A c xs) (hm:xs[m]?=some a) (hx:ev L x=some (.slice A xs.length c):=by exact rfl) (hy:ev L y=some (.int k (m:Int)):=by exact rfl) (hf:∀x∈xs,(f x).length=size:=by exact fun _ _=>rfl):
  OpRun P ⟨d,.indexAddr t x y,ty,pos,aft,gd⟩ L w fun v w'=>w=w'∧∃p,v=.pointer (some p)∧(∀j u,(f a)[j]?=some u→w.cell? (p.add j)=some u)∧lo≤p.block∧p.block<hi:=by
 have hk:m<xs.length:=(List.getElem?_eq_some_iff.1 hm).1
 obtain⟨ad,rfl,a1,b1,hc⟩:=RdR.at hr hf T.sz hm
 refine(jT T hx hy).mono ?_
 rintro v w' ⟨rfl,rfl⟩
 rw[Int.toNat_natCast]
 have hb:(ad.add (m*size)).block=ad.block:=by unfold Addr.add;split<;>rfl
 exact⟨rfl,_,rfl,hc,by rw[hb];exact a1,by rw[hb];exact b1⟩
/-- A field of an element in a slice, read where it lies. -/
theorem nN {s:TypeId} {x:Operand} {i:Nat} {p:Addr} {off:Nat} {cs:List Value} (hf:bB P s i=some off) (hx:ev L x=some (.pointer (some p))) (hc:∀j u,cs[j]?=some u→w.cell? (p.add j)=some u):
  OpRun P ⟨d,.fieldAddr s x i,ty,pos,aft,gd⟩ L w fun v w'=>w=w'∧∃q,v=.pointer (some q)∧(∀j u,(cs.drop off)[j]?=some u→w.cell? (q.add j)=some u)∧q.block=p.block:=by
 refine(oz hf hx).mono ?_
 rintro v w' ⟨rfl,rfl⟩
 refine⟨rfl,_,rfl,fun j u hu=>?_,by unfold Addr.add;split<;>rfl⟩
 rw[mZ]
 rw[List.getElem?_drop] at hu
 exact hc _ u hu
theorem fg {p:Addr} {cs:List Value} {u:Value} (hc:∀j u,cs[j]?=some u→w.cell? (p.add j)=some u) (h:cs[0]?=some u:=by exact rfl):w.cell? p=some u:=by
 have:=hc 0 u h
 rwa [i7] at this
theorem rQ {f:α→List Value} {size:Nat}:∀{xs:List α} {a:Addr} (_:∀x∈xs,(f x).length=size) (_:∀i x,xs[i]?=some x→∀j u,(f x)[j]?=some u→w.cell? ((a.add (i*size)).add j)=some u) {j:Nat} {u:Value},
  (xs.flatMap f)[j]?=some u→w.cell? (a.add j)=some u
 |[],_,_,_,j,u,h=>by simp at h
 |y::r,a,hf,hc,j,u,h=>by
  have hy:=hf y (List.mem_cons_self ..)
  rw[List.flatMap_cons] at h
  by_cases hj:j<(f y).length
  ·rw[List.getElem?_append_left hj] at h
   have:=hc 0 y rfl j u h
   rwa [Nat.zero_mul,i7] at this
  ·rw[List.getElem?_append_right (by omega)] at h
   have:=rQ (xs:=r) (a:=a.add size) (fun x hx=>hf x (List.mem_cons_of_mem _ hx)) (fun i x hx j u hu=>by
    have:=hc (i+1) x (by simpa using hx) j u hu
    rw[Nat.succ_mul,Nat.add_comm,←mZ] at this
    exact this) h
   rw[mZ,hy,show size+(j - size)=j by omega] at this
   exact this
end
theorem Blk.rdR {w:World} {g:Nat} {t:TypeId} {vs:List Value} (h:Blk w g t vs) (hl:vs.length≤maxLen):RdR w 0 w.heap.size 1 (fun v:Value=>[v]) (some ⟨g,0,none⟩) vs.length vs:=by
 have e:vs.flatMap (fun v:Value=>[v])=vs:=by induction vs with
  |nil=>rfl
  |cons v r ih=>simp
 refine⟨Nat.le_refl _,hl,by rw[e,Nat.mul_one],fun _=>⟨_,rfl,Nat.zero_le _,h.lt,fun j u hu=>?_⟩⟩
 rw[e] at hu
 have:(Addr.mk g 0 none).add j=⟨g,j,none⟩:=by unfold Addr.add;split<;>simp_all
 rw[this,h.cell]
 exact hu
theorem Blk.rdF {w:World} {g n size:Nat} {t:TypeId} {cs:List Value} (h:Blk w g t cs) (hl:cs.length=n*size) (hn:n≤maxLen):Rd w 0 w.heap.size size (some ⟨g,0,none⟩) n n cs:=
 ⟨Nat.le_refl _,hn,hl,fun _=>⟨_,rfl,Nat.zero_le _,h.lt,fun j u hu=>by rw[Addr.add_lit,Nat.zero_add,h.cell];exact hu⟩⟩
theorem Blk.rd1 {w:World} {g:Nat} {t:TypeId} {v:Value} (h:Blk w g t [v]):Rd w 0 w.heap.size 1 (some ⟨g,0,none⟩) 1 1 [v]:=Blk.rdR (vs:=[v]) h (by simp[maxLen])
/-! The arguments, opened. -/
section
variable {H:Type} {br:TypeId×Value→H} {P:Program} {W:World}
/-- The cells read as a value of the type. -/
def CR (br:TypeId×Value→H) (P:Program) (W:World) (t:TypeId) (cs:List Value):Prop:=∃fuel x,DataW.trod br P W 0 (fun _=>true) true fuel t cs=some x
theorem AR {t:TypeId} {v:Value} {d:DataW H} (h:vi br P W t v d):CR br P W t v.cells.toList:=by
 obtain⟨ps,b0,_,⟨fuel,hd⟩,_⟩:=h
 exact⟨fuel,_,hd⟩
theorem xM {t:TypeId} {fs:Array Field} {v:Value} {d:DataW H} (ht:P.underlying t=some (.struct fs)) (h:vi br P W t v d):∃cs:List Value,v=.agg cs.toArray∧CR br P W t cs:=by
 have hc:=AR h
 obtain⟨ps,b0,hv,_⟩:=h
 obtain⟨cs,rfl,_⟩:=okWide_struct ht hv
 exact⟨cs.toList,rfl,hc⟩
theorem zl {t e:TypeId} {v:Value} {d:DataW H} (ht:P.underlying t=some (.slice e)) (h:vi br P W t v d):∃A n c,v=.slice A n c∧CR br P W t [.slice A n c]:=by
 have hc:=AR h
 obtain⟨ps,b0,hv,_⟩:=h
 obtain⟨A,n,c,rfl⟩:=okWide_slice ht hv
 exact⟨A,n,c,rfl,hc⟩
theorem F9 {t:TypeId} {k:IntKind} {cs:List Value} (ht:P.underlying t=some (.int k)) (h:CR br P W t cs):∃n,cs=[.int k n]∧k.min≤n∧n≤k.max:=by
 obtain⟨fuel,x,h⟩:=h
 obtain⟨n,e,_,hw⟩:=DataW.trod_int ht h
 simp only[Lit.wf,Bool.and_eq_true,decide_eq_true_eq] at hw
 exact⟨n,e,hw.1,hw.2⟩
theorem lY {t:TypeId} {cs:List Value} (ht:P.underlying t=some (.int .i64)) (h:CR br P W t cs):∃n:Int,cs=[.int .i64 n]∧-9223372036854775808≤n∧n≤9223372036854775807:=by
 obtain⟨n,e,h1,h2⟩:=F9 ht h
 rw[show IntKind.i64.min=-9223372036854775808 by decide] at h1
 rw[show IntKind.i64.max=9223372036854775807 by decide] at h2
 exact⟨n,e,h1,h2⟩
theorem u4 {t:TypeId} {cs:List Value} (ht:P.underlying t=some (.int .u64)) (h:CR br P W t cs):∃n:Nat,cs=[.int .u64 (n:Int)]∧n<18446744073709551616:=by
 obtain⟨n,e,h1,h2⟩:=F9 ht h
 rw[show IntKind.u64.min=0 by decide] at h1
 rw[show IntKind.u64.max=18446744073709551615 by decide] at h2
 exact⟨n.toNat,by rw[Int.toNat_of_nonneg h1];exact e,by omega⟩
theorem Ga {t e:TypeId} {cs:List Value} (ht:P.underlying t=some (.slice e)) (he:P.underlying e=some (.int .u8)) (hc:P.cellsOf e=1) (h:CR br P W t cs):∃A c l,cs=[.slice A (List.length l) c]∧RdB W 0 W.heap.size A c l:=by
 obtain⟨fuel,x,h⟩:=h
 exact x4 ht he hc h
theorem CC {t:TypeId} {fs:Array Field} {cs:List Value} (ht:P.underlying t=some (.struct fs)) (h:CR br P W t cs):
  cs.length=P.cellsOf t∧∀(i:Nat) (f:Field),fs[i]?=some f→CR br P W f.type ((cs.drop f.offset).take (P.cellsOf f.type)):=by
 obtain⟨fuel,x,h⟩:=h
 obtain⟨xs,n,_,_,hl,bI,hf⟩:=DataW.trod_struct ht h
 refine⟨hl,fun i f hi=>?_⟩
 have qb:i<xs.length:=by rw[bI];exact(Array.getElem?_eq_some_iff.1 hi).1
 exact⟨n,xs[i],by rw[hf i f hi,List.getElem?_eq_getElem qb]⟩
theorem zW {α:Type} {p:Nat→α→Prop}:∀n:Nat,(∀i,i<n→∃a,p i a)→∃xs:List α,xs.length=n∧∀i x,xs[i]?=some x→p i x
 |0,_=>⟨[],rfl,fun i x h=>by simp at h⟩
 |n+1,h=>by
  obtain⟨xs,hl,hx⟩:=zW n (fun i hi=>h i (by omega))
  obtain⟨a,ha⟩:=h n (by omega)
  refine⟨xs++[a],by simp[hl],fun i x hi=>?_⟩
  by_cases hc:i<xs.length
  ·rw[List.getElem?_append_left hc] at hi;exact hx i x hi
  ·have lc:=(List.getElem?_eq_some_iff.1 hi).1
   simp at lc
   have:i=n:=by omega
   subst this
   rw[List.getElem?_append_right (by omega),hl] at hi
   simp at hi
   subst hi
   exact ha
end
end Go.Proofs.YtiighkbehiddkaaGreat
namespace Go.Proofs.YtiighkbehiddkaaGreat
open Go.RowKit
set_option linter.unusedVariables false
set_option maxRecDepth 4000
theorem ft:cu Tryz.prog 36=true:=by kernel_rfl
theorem qU:cu Tryz.prog 9=true:=by kernel_rfl
/-- A command. -/
structure Cmd where
 op:Int
 key:List UInt8
 keys:List (List UInt8)
 value:List UInt8
 tags:List (List UInt8)
 life:Nat
 ver:Nat
 tag:List UInt8
 pre:List UInt8
 child:List UInt8
theorem Cmd.ext_iff' {a b:Cmd}:a=b↔a.op=b.op∧a.key=b.key∧a.keys=b.keys∧a.value=b.value∧a.tags=b.tags∧a.life=b.life∧a.ver=b.ver∧a.tag=b.tag∧a.pre=b.pre∧a.child=b.child:=by
 constructor
 ·rintro rfl;simp
 ·cases a;cases b;simp only[Cmd.mk.injEq];exact id
instance (a b:Cmd):Decidable (a=b):=decidable_of_iff _ Cmd.ext_iff'.symm
/-- Its cells. -/
def cL (c:Cmd) (K:Option Addr) (ck:Nat) (V:Option Addr) (cv:Nat) (T:Option Addr) (ct:Nat):List Value:=
 [.int .i64 c.op,.string (av c.key),.slice K c.keys.length ck,.slice V c.value.length cv,.slice T c.tags.length ct,.int .u64 (c.life:Int),.int .u64 (c.ver:Int),.string (av c.tag),.string (av c.pre),.string (av c.child)]
def cmd0 (op:Int):Cmd:=⟨op,[],[],[],[],0,0,[],[],[]⟩
/-- Strings, their cells. -/
def gO (s:List UInt8):List Value:=[.string (av s)]
abbrev RdS (w:World) (lo hi:Nat) (A:Option Addr) (c:Nat) (xs:List (List UInt8)):Prop:=RdR w lo hi 1 gO A c xs
def kv (s:List UInt8):Bool:=decide (1≤s.length∧s.length≤250)
def tv (s:List UInt8):Bool:=decide (1≤s.length∧s.length≤64)
def pv (s:List UInt8):Bool:=decide (s.length≤250)
def vv (s:List UInt8):Bool:=decide (s.length≤65536)
/-- The parts that a command needs. -/
def aZ (op:Int):List UInt8:=
 if op=1∨op=2 then[107,118,116,108] else if op=3 then[107,118,116,108,110] else if op=4∨op=7∨op=13 then[107] else if op=5 then[109] else if op=6 then[107,108]
 else if op=8∨op=9 then[103] else if op=10 then[112] else if op=11∨op=12 then[107,99] else[]
def pb (s:List UInt8):List UInt8:=br s.length++s
def wl (l:List (List UInt8)):List UInt8:=br l.length++l.flatMap pb
theorem jA (w:World) (s:List UInt8):
  Fn Tryz.prog 104 #[(.string (av s))] w (fun v w'=>v=.bool (kv s)∧w'=w):=by
 refine aO Tryz.func104 ?_
 refine af (aa ?_)
 refine va ?_
 refine ag (ae (af (aa ?_)))
 refine vm ?_
 refine ab (fW Tryz.underlying9) ?_
 refine ab (bw) ?_
 refine aG (d:=5) (fun h5=>?_) (fun h5=>?_)
 ·refine vm ?_
  refine aj (aF) ?_
  refine aj (fW Tryz.underlying9) ?_
  refine aj (dl) ?_
  refine ab (ay) ?_
  refine va ?_
  refine ag (ae (aE ?_))
  refine aY ?_
  refine⟨?_,rfl⟩
  unfold kv
  first|(rw[decide_eq_false];intro h;omega)|(congr 1;rw[decide_eq_decide];omega)
 ·refine vm ?_
  iterate 3 refine aA ?_
  refine ab (ap) ?_
  refine va ?_
  refine ag (ae (aE ?_))
  refine aY ?_
  refine⟨?_,rfl⟩
  unfold kv
  first|(rw[decide_eq_false];intro h;omega)|(congr 1;rw[decide_eq_decide];omega)
theorem x2 (w:World) (s:List UInt8):
  Fn Tryz.prog 107 #[(.string (av s))] w (fun v w'=>v=.bool (tv s)∧w'=w):=by
 refine aO Tryz.func107 ?_
 refine af (aa ?_)
 refine va ?_
 refine ag (ae (af (aa ?_)))
 refine vm ?_
 refine ab (fW Tryz.underlying9) ?_
 refine ab (bw) ?_
 refine aG (d:=5) (fun h5=>?_) (fun h5=>?_)
 ·refine vm ?_
  refine aj (aF) ?_
  refine aj (fW Tryz.underlying9) ?_
  refine aj (dl) ?_
  refine ab (ay) ?_
  refine va ?_
  refine ag (ae (aE ?_))
  refine aY ?_
  refine⟨?_,rfl⟩
  unfold tv
  first|(rw[decide_eq_false];intro h;omega)|(congr 1;rw[decide_eq_decide];omega)
 ·refine vm ?_
  iterate 3 refine aA ?_
  refine ab (ap) ?_
  refine va ?_
  refine ag (ae (aE ?_))
  refine aY ?_
  refine⟨?_,rfl⟩
  unfold tv
  first|(rw[decide_eq_false];intro h;omega)|(congr 1;rw[decide_eq_decide];omega)
theorem Kh (w:World) (s:List UInt8):
  Fn Tryz.prog 110 #[(.string (av s))] w (fun v w'=>v=.bool (pv s)∧w'=w):=by
 refine aO Tryz.func110 ?_
 refine af (aa ?_)
 refine va ?_
 refine ag (ae (af (aa ?_)))
 refine vm ?_
 refine ab (fW Tryz.underlying9) ?_
 refine ab (dl) ?_
 refine va ?_
 refine ag (ae (aE ?_))
 refine aY ?_
 refine⟨?_,rfl⟩
 unfold pv
 congr 1;rw[decide_eq_decide];omega
theorem J8 (w:World) (s:List UInt8):
  Fn Tryz.prog 128 #[(.string (av s))] w (fun v w'=>v=.bool (vv s)∧w'=w):=by
 refine aO Tryz.func128 ?_
 refine af (aa ?_)
 refine va ?_
 refine ag (ae (af (aa ?_)))
 refine vm ?_
 refine ab (fW Tryz.underlying9) ?_
 refine ab (dl) ?_
 refine va ?_
 refine ag (ae (aE ?_))
 refine aY ?_
 refine⟨?_,rfl⟩
 unfold vv
 congr 1;rw[decide_eq_decide];omega
theorem sW {xs:List (List UInt8)} {k:Nat} {s:List UInt8} (al:List UInt8→Bool) (h:xs[k]?=some s):(xs.take (k+1)).all al=((xs.take k).all al&&al s):=by
 rw[List.take_add_one,h,List.all_append];simp
end Go.Proofs.YtiighkbehiddkaaGreat
namespace Go.Proofs.YtiighkbehiddkaaGreat
open Go.RowKit
set_option linter.unusedVariables false
/-- The slice reads as the cells xs; its array is of type e and lies not below b0. -/
def RdT (w:World) (b0:Nat) (e:TypeId) (A:Option Addr) (n c:Nat) (xs:List Value):Prop:=
 n≤c∧c≤maxLen∧xs.length=n∧(xs≠[]→∃ad cur fz,A=some ad∧w.heap[ad.block]?=some (Obj.cells cur e fz)∧(∀j u,xs[j]?=some u→w.cell? (ad.add j)=some u)∧b0≤ad.block)
section
variable {w w':World} {b0:Nat} {e:TypeId} {A:Option Addr} {n c:Nat} {xs:List Value}
theorem RdT.nil (w:World) (b0:Nat) (e:TypeId):RdT w b0 e none 0 0 []:=⟨Nat.le_refl _,Nat.zero_le _,rfl,fun h=>absurd rfl h⟩
theorem Jj (ad:Addr) (j:Nat):(ad.add j).block=ad.block:=by unfold Addr.add;split<;>rfl
theorem RdT.keep (h:RdT w b0 e A n c xs) (hk:∀(g:Nat) cur fz,w.heap[g]?=some (Obj.cells cur e fz)→w'.heap[g]?=w.heap[g]?):RdT w' b0 e A n c xs:=
 ⟨h.1,h.2.1,h.2.2.1,fun hn=>by
  obtain⟨ad,cur,fz,hA,hb,hc,kn⟩:=h.2.2.2 hn
  have hs:=hk _ _ _ hb
  refine⟨ad,cur,fz,hA,hs.trans hb,fun j u hu=>?_,kn⟩
  rw[←hc j u hu]
  exact World.cell?_of_block (by rw[Jj];exact hs)⟩
theorem RdT.rd (h:RdT w b0 e A n c xs):Rd w b0 w.heap.size 1 A n c xs:=
 ⟨h.1,h.2.1,by rw[h.2.2.1,Nat.mul_one],fun hn=>by
  obtain⟨ad,cur,fz,hA,hb,hc,kn⟩:=h.2.2.2 hn
  exact⟨ad,hA,kn,(Array.getElem?_eq_some_iff.1 hb).1,hc⟩⟩
theorem RdT.ext (h:RdT w b0 e A n c xs) (hg:Ext w w'):RdT w' b0 e A n c xs:=h.keep fun g cur fz hb=>hg.block g (Array.getElem?_eq_some_iff.1 hb).1 (by simp)
theorem RdT.gr {g:Nat} {t:TypeId} {cs:List Value} (h:RdT w b0 e A n c xs) (hg:Gr w w' (some g)) (hb:Blk w g t cs) (ht:e≠t):RdT w' b0 e A n c xs:=
 h.keep fun g' cur fz hc=>hg.block g' (Array.getElem?_eq_some_iff.1 hc).1 (fun e2=>by
  cases e2
  have:=hb.symm.trans hc
  simp only[Option.some.injEq,Obj.cells.injEq] at this
  exact ht this.2.1.symm)
theorem RdT.rt {B:Nat} {ts:List Nat} (h:RdT w b0 e A n c xs) (k:RT B ts w w') (he:e∉ts):RdT w' b0 e A n c xs:=
 h.keep fun g cur fz hc=>k.2.2.2.2 g (Array.getElem?_eq_some_iff.1 hc).1 (.inr fun e' cur' fz' GM hc'=>by
  have:=hc'.symm.trans hc
  simp only[Option.some.injEq,Obj.cells.injEq] at this
  exact he (this.2.1▸GM))
theorem RT.bkB {B g:Nat} {ts:List Nat} {t:TypeId} {cs:List Value} (k:RT B ts w w') (h:Blk w g t cs) (hg:g<B):Blk w' g t cs:=(k.2.2.2.2 g h.lt (.inl hg)).trans h
theorem RdT.mono {b1:Nat} (h:RdT w b0 e A n c xs) (hb:b1≤b0):RdT w b1 e A n c xs:=
 ⟨h.1,h.2.1,h.2.2.1,fun hn=>by obtain⟨ad,cur,fz,hA,vA,hc,kn⟩:=h.2.2.2 hn;exact⟨ad,cur,fz,hA,vA,hc,Nat.le_trans hb kn⟩⟩
theorem RdT.own {lo:Nat} (h:Own w lo e 1 A n c xs) (WT:b0≤lo):RdT w b0 e A n c xs:=by
 have hr:=Own.rd h
 refine⟨hr.1,hr.2.1,by have:=hr.2.2.1;omega,fun hn=>?_⟩
 obtain⟨ad,hA,_,_,hc⟩:=hr.2.2.2 hn
 rcases h.2 with⟨hv,h0⟩|⟨g,cap,cur,hv,kn,hh,_⟩
 ·subst h0;have:=hr.2.2.1;simp at this;exact absurd this hn
 ·simp only[Value.slice.injEq] at hv
  obtain⟨h1,_,_⟩:=hv
  subst h1;cases hA
  exact⟨_,cur,(0,0),rfl,hh,hc,Nat.le_trans WT kn⟩
end
section
variable {P:Program} {L:Env} {w:World} {d:Option Nat} {ty:TypeId} {pos:String} {aft:Array Edge} {gd:Option (Nat×Bool)}
theorem tT {s t e:TypeId} (T:ByteTy P t e) (hs:P.underlying s=some .string) {x:Operand} {l:List UInt8} (hx:ev L x=some (.string (av l))) (hb:l.length≤maxLen):
  OpRun P ⟨d,.convert s t x,ty,pos,aft,gd⟩ L w fun v w'=>∃A c,v=.slice A l.length c∧RdT w' w.heap.size e A l.length c (l.map j3)∧Ext w w':=
 eX fun ρ h1 _=>by
  have hr:=Lib.run_convert_string_bytes (P:=P) w s t e (av l) hs T.s.u T.e
  have gf:(av l).size=l.length:=by simp[ByteArray.size]
  refine⟨.slice (some ⟨w.heap.size,0,none⟩) l.length (grownCap w (av l).size 0 e),Lib.bytesWorld w e (av l),by simp only[execOp,h1 x _ hx,hr,Sem.run_bind,Result.andThen_ok,Sem.run_pure,gf],some ⟨w.heap.size,0,none⟩,_,rfl,⟨?_,?_,by simp,fun _=>⟨_,_,_,rfl,Lib.bytesWorld_at_new w e (av l),fun j u hu=>?_,Nat.le_refl _⟩⟩,⟨?_,?_,?_,?_,fun k hk _=>Lib.bytesWorld_at_old w e (av l) k hk⟩⟩
  ·have:=grownCap_ge w (av l).size 0 e;simpa [ByteArray.size] using this
  ·exact grownCap_le_maxLen w (av l).size 0 e (by simpa [ByteArray.size] using hb)
  ·have hj:j<l.length:=by
    rcases Nat.lt_or_ge j l.length with h|h
    ·exact h
    ·rw[List.getElem?_eq_none (by simpa using h)] at hu;cases hu
   rw[Addr.add_lit,Nat.zero_add,Lib.bytesWorld_cell w e (av l) j (by simpa [ByteArray.size] using hj)]
   simp[hj] at hu
   subst hu
   simp[List.getD,hj]
  all_goals first|(rw[Lib.bytesWorld_size];omega)|simp[Lib.bytesWorld,World.freeze,World.alloc,World.drew,-World.alloc_eq,-World.drew_eq]
end
end Go.Proofs.YtiighkbehiddkaaGreat
