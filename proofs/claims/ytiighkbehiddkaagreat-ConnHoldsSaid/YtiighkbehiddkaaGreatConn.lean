/-
 Connections, plainly; what memory holds of one. No condition.
-/
import Derived.Test.YtiighkbehiddkaaGreatRi
import Derived.Test.YtiighkbehiddkaaGreatQg
import Derived.Test.YtiighkbehiddkaaGreatDc
import Derived.Test.YtiighkbehiddkaaGreatBv
namespace Go.Proofs.YtiighkbehiddkaaGreat
open Go.RowKit
set_option linter.unusedVariables false
set_option maxRecDepth 4000
section
variable {P : Program} {L : Env} {w : World} {d : Option Nat} {ty : TypeId} {pos : String} {aft : Array Edge} {gd : Option (Nat × Bool)}
/-- A struct that is a part of a block. -/
theorem ov_loadPart {t tb : TypeId} {x : Operand} {g o : Nat} {cs vs : List Value} (ht : aggTy P t vs.length = true) (hx : ev L x = some (.pointer (some ⟨g, o, none⟩))) (hb : Blk w g tb cs) (hv : (cs.drop o).take vs.length = vs) : OpVal P ⟨d, .load t x, ty, pos, aft, gd⟩ L w (.agg vs.toArray) :=
 ov_loadAgg ht rfl hx fun j u hu => by
  have h : ((cs.drop o).take vs.length)[j]? = some u := by rw [hv]; exact hu
  rw [List.getElem?_take, List.getElem?_drop] at h
  rw [Addr.add_lit, hb.cell]
  split at h
  ·exact h
  ·cases h
/-- A store of a struct into a part of a block. -/
theorem or_storePart {t tb : TypeId} {x y : Operand} {g o : Nat} {cs vs cs' : List Value} (ht : (P.info? t).map (·.size) = some vs.length) (hx : ev L x = some (.pointer (some ⟨g, o, none⟩))) (hy : ev L y = some (.agg vs.toArray)) (h1v : ∀ u ∈ vs, u.oneCell' = true) (hb : Blk w g tb cs) (hl : Nat.ble (o + vs.length) cs.length = true) (hc : cs.take o ++ vs ++ cs.drop (o + vs.length) = cs') :
  OpRun P ⟨d, .store t x y, ty, pos, aft, gd⟩ L w fun _ w' => Blk w' g tb cs' ∧ Gr w w' (some g) :=
 opRun_skip fun ρ h1 _ => by
  obtain ⟨inf, hinf, hsz⟩ := Option.map_eq_some_iff.1 ht
  have hst := run_storeCells_at P g o tb vs 0 cs.toArray w hb (by simpa using Nat.le_of_ble_eq_true hl) h1v
  simp only [Nat.add_zero, hc] at hst
  refine ⟨w.setRow g cs'.toArray, ?_, setRow_heap w g cs.toArray _ tb _ hb, ⟨rfl, rfl, rfl, by simp, fun k _ hk => setRow_other w g k _ (fun e => hk (by simp [e]))⟩⟩
  simp [execOp, h1 x _ hx, h1 y _ hy, Instr.storeAt, Instr.sureAddr, storeVar, sizeOf_run hinf, hsz, Value.cells, hst]
theorem or_buildSlice0 {t e : TypeId} {size bytes : Nat} {z : Value} (T : SliceTy P t e size bytes z) :
  OpRun P ⟨d, .buildSlice t 0 #[], ty, pos, aft, gd⟩ L w fun v w' => ∃ A c, v = .slice A 0 c ∧ Own w' w.heap.size e size A 0 c [] ∧ Ext w w' :=
 opRun_of fun ρ h1 h2 => by
  obtain ⟨i, hi, hz, hs, hby⟩ := T.i
  refine ⟨.slice (some ⟨w.heap.size, 0, none⟩) 0 0, w.alloc (.cells (#[] : Array Value) e), ?_, _, _, rfl, ⟨by simp, .inr ⟨w.heap.size, 0, #[], rfl, Nat.le_refl _, Blk.new w e [], Nat.le_refl _, by simp [maxLen], by simp, by simp⟩⟩, ext_alloc w _⟩
  simp only [execOp, Instr.buildSlice, Sem.run_bind, run_underlying T.u, Result.andThen_ok, sizeOf_run hi, hs]
  simp [Array.range_zero', Instr.fill, newRow]
end
/-- A connection: how much input, output and payload it may have; its output, how much was put in and taken out; its input, whether that is closed; its phase, command, answer, and the answer's bytes. -/
structure Cn where
 ci : Nat
 co : Nat
 cp : Nat
 out : List UInt8
 pt : Nat
 tk : Nat
 held : List UInt8
 cl : Bool
 ph : Nat
 cmd : Cmd
 ans : Rsp
 bs : List UInt8
/-- The bytes of the frame of a response. -/
def cnFr (r : Rsp) : List UInt8 := (fwrite (wrR r).1.1 (wrR r).1.2).1
theorem cnFr_len (r : Rsp) : (cnFr r).length ≤ 2097200 := by
 unfold cnFr
 rcases flen_cases (wrR r).1.2 with ⟨h1, h2, h3⟩ | ⟨h1, h2, h3⟩
 ·rw [fwrite_bad (by omega)]; exact Nat.zero_le _
 ·rw [fwrite_ok h3, List.length_append, List.length_append, h2]
  have := enc_len ((wrR r).1.2.length + 1)
  rw [List.length_singleton]; omega
theorem wrR_len (r : Rsp) : (wrR r).1.2.length ≤ 10 + 2 * rsz r := by
 by_cases h : WrOk r
 ·rw [wrR_ok h]
  show (wbytes r).length ≤ _
  by_cases he : r.err = 0
  ·rw [← wpre_end he]
   refine wpre_len3 (pl_len r.op) ?_
   rw [List.take_length]
   exact h.2.2.2.2.2.1 he
  ·rw [wbytes_e he]; have := enc_len r.err.toNat; omega
 ·rw [wrR_bad h]; exact Nat.zero_le _
def cnNew (ci co cp : Nat) : Cn := ⟨ci, co, cp, [], 0, 0, [], false, 1, cmd0 0, rspO 0 0, []⟩
/-- Whether a configuration is valid. -/
def cfOk (i o p : Int) : Prop := 16 ≤ p ∧ p ≤ 2097152 ∧ p + 8 ≤ i ∧ i ≤ 4194304 ∧ 64 ≤ o ∧ o ≤ 1048576
instance (i o p : Int) : Decidable (cfOk i o p) := by unfold cfOk; infer_instance
def cnW (s : Cn) (r : Rsp) : Cn := { s with ph := 3, cmd := cmd0 0, ans := r, bs := cnFr r }
def cnDel (s : Cn) (q : List UInt8) : Cn × Nat × Nat :=
 if s.cl = true then (s, 0, 14) else ({ s with held := s.held ++ q.take (min q.length (s.ci - s.held.length)) }, min q.length (s.ci - s.held.length), 0)
def cnNx (s : Cn) : Bool × List UInt8 × (UInt8 × List UInt8) × Nat := dnext s.cp s.cl s.held
def cnD (s : Cn) : Cn := { s with cl := (cnNx s).1, held := (cnNx s).2.1 }
def cnCm (s : Cn) : Cmd × Nat := rdC (cnNx s).2.2.1.1 (cnNx s).2.2.1.2
def cnRd (s : Cn) : Cn × Nat :=
 if (cnNx s).2.2.2 = 4 then (cnD s, 0)
 else if (cnNx s).2.2.2 = 0 then (if (cnCm s).2 = 0 then ({ cnD s with cmd := (cnCm s).1, ph := 2 }, 1) else (cnW (cnD s) (rspO 0 ((cnCm s).2 : Int)), 2))
 else (cnW (cnD s) (rspO 0 ((cnNx s).2.2.2 : Int)), 2)
def cnOut (s : Cn) : Cn := { s with out := s.out ++ s.bs, pt := s.pt + s.bs.length, ph := if s.cl = true then 4 else 1, ans := rspO 0 0, bs := [] }
def cnStep (s : Cn) : Cn × Nat :=
 if s.ph = 1 then cnRd s else if s.ph = 2 then (s, 3) else if s.ph = 4 then (s, 0) else if s.co - s.out.length < s.bs.length then (s, 5) else (cnOut s, 4)
def cnAns (s : Cn) (r : Rsp) : Cn × Nat :=
 if ¬ s.ph = 2 then (s, 8) else if ¬ (wrR r).2 = 0 ∨ ¬ r.op = s.cmd.op then (s, 2)
 else if s.co < (cnFr r).length then (cnW s (rspO r.op 5), 0) else (cnW s r, 0)
def cnDr (s : Cn) (n : Int) : Cn × List UInt8 × Nat :=
 ({ s with out := s.out.drop (bpeek s.out n).1.length, tk := s.tk + (bpeek s.out n).1.length }, bpeek s.out n)
def cnIn (s : Cn) (p : Nat) : Nat := if s.ph = p then 0 else 8
def cnCmd (s : Cn) : Cmd := if s.ph = 2 then s.cmd else cmd0 0
def cnRsp (s : Cn) : Rsp := if s.ph = 3 then s.ans else rspO 0 0
/-- What a connection keeps to. -/
structure CnOk (s : Cn) : Prop where
 p1 : 16 ≤ s.cp
 p2 : s.cp ≤ 2097152
 i1 : s.cp + 8 ≤ s.ci
 i2 : s.ci ≤ 4194304
 o1 : 64 ≤ s.co
 hl : s.held.length ≤ s.ci
 h1 : 1 ≤ s.ph
 h4 : s.ph ≤ 4
 sz : rsz s.ans ≤ 4398046511104
 bl : s.bs.length ≤ 2097200
 an : s.ph = 3 ∨ (s.ans = rspO 0 0 ∧ s.bs = [])
 cb : s.cmd.keys.length ≤ 16 ∧ s.cmd.tags.length ≤ 16 ∧ s.cmd.value.length ≤ 4194304
/-- Where its parts lie. -/
structure CnP where
 gb : Nat
 gd : Nat
 Db : Option Nat
 Dd : Option Nat
 K : Option Addr
 ck : Nat
 V : Option Addr
 cv : Nat
 T : Option Addr
 ct : Nat
 X : Option Addr
 cx : Nat
 xs : List IT
 N : Option Addr
 cn : Nat
 A : Option Addr
 c : Nat
def cnc (s : Cn) (p : CnP) : List Value :=
 [.pointer (some ⟨p.gb, 0, none⟩), .int .i64 (s.ci : Int), .int .i64 (s.co : Int), .int .i64 (s.cp : Int), .pointer (some ⟨p.gd, 0, none⟩), .int .i64 (s.ph : Int)] ++ cmdc s.cmd p.K p.ck p.V p.cv p.T p.ct ++ rspc s.ans p.X p.cx p.N p.cn ++ [.slice p.A s.bs.length p.c]
/-- The blocks that its steps may change. -/
def cnS (g : Nat) (p : CnP) : List Nat := [g, p.gb, p.gd] ++ (p.Db.toList ++ p.Dd.toList)
theorem mem_cnS {g x : Nat} {p : CnP} : x ∈ cnS g p ↔ x = g ∨ x = p.gb ∨ x = p.gd ∨ p.Db = some x ∨ p.Dd = some x := by
 unfold cnS
 rw [List.mem_append, List.mem_append, Option.mem_toList, Option.mem_toList]
 simp only [List.mem_cons, List.not_mem_nil, or_false, or_assoc]
theorem mem_cng (g : Nat) (p : CnP) : g ∈ cnS g p := mem_cnS.2 (.inl rfl)
/-- What memory holds of it besides its own block. -/
structure CnR (w : World) (g a b : Nat) (s : Cn) (p : CnP) : Prop where
 buf : Buf w 0 p.gb p.Db s.co s.out s.pt s.tk
 dec : Dec w 0 p.gd p.Dd s.cp s.cl s.held
 hK : RdS w a b p.K p.ck s.cmd.keys
 hV : RdB w a b p.V p.cv s.cmd.value
 hT : RdS w a b p.T p.ct s.cmd.tags
 hv : vals p.xs = s.ans.items
 hx : RdI w a b p.X p.cx p.xs
 hn : RdN w a b p.N p.cn s.ans.nums
 hA : RdB w a b p.A p.c s.bs
 sep : ∀ x ∈ cnS g p, x < w.heap.size ∧ (x < a ∨ b ≤ x)
 hb : b ≤ w.heap.size
 ne1 : g ≠ p.gb ∧ g ≠ p.gd ∧ p.gb ≠ p.gd
 ne2 : p.Db ≠ some g ∧ p.Db ≠ some p.gb ∧ p.Db ≠ some p.gd
 ne3 : p.Dd ≠ some g ∧ p.Dd ≠ some p.gb ∧ p.Dd ≠ some p.gd
 dd : ∀ x, p.Db = some x → p.Dd ≠ some x
 ok : CnOk s
theorem rfold_sz {L : Nat} : ∀ (ps : List UInt8) (s : Cmd × List UInt8 × Bool), (s.1.keys.length ≤ 16 ∧ s.1.tags.length ≤ 16 ∧ s.1.value.length ≤ L ∧ s.2.1.length ≤ L) →
  ((ps.foldl rstep s).1.keys.length ≤ 16 ∧ (ps.foldl rstep s).1.tags.length ≤ 16 ∧ (ps.foldl rstep s).1.value.length ≤ L ∧ (ps.foldl rstep s).2.1.length ≤ L)
 | [], s, h => h
 | p :: ps, s, ⟨h1, h2, h3, h4⟩ => by
  rw [List.foldl_cons]
  refine rfold_sz ps _ ?_
  have a1 := partV_len s.2.1
  have a2 := partR_len s.2.1
  have a3 := numR_len s.2.1
  have a4 := rlV_len 0 16 s.2.1
  have a5 := rlV_len 1 16 s.2.1
  have a6 := rlR_len 0 16 s.2.1
  have a7 := rlR_len 1 16 s.2.1
  unfold rstep
  repeat' split
  all_goals (refine ⟨?_, ?_, ?_, ?_⟩ <;> first | assumption | exact a4 | exact a5 | exact Nat.le_trans a1 h4 | exact Nat.le_trans a2 h4 | exact Nat.le_trans a3 h4 | exact Nat.le_trans a6 h4 | exact Nat.le_trans a7 h4)
theorem rdC_sz (x : UInt8) (l : List UInt8) {L : Nat} (hl : l.length ≤ L) : (rdC x l).1.keys.length ≤ 16 ∧ (rdC x l).1.tags.length ≤ 16 ∧ (rdC x l).1.value.length ≤ L := by
 by_cases q : 1 ≤ x.toNat ∧ x.toNat ≤ 15 ∧ (rfold (x.toNat : Int) l).2.2 = false ∧ (rfold (x.toNat : Int) l).2.1 = []
 ·rw [rdC_ok q.1 q.2.1 q.2.2.1 q.2.2.2]
  have h := rfold_sz (L := L) (needs (x.toNat : Int)) (cmd0 (x.toNat : Int), l, false) ⟨Nat.zero_le _, Nat.zero_le _, Nat.zero_le _, hl⟩
  exact ⟨h.1, h.2.1, h.2.2.1⟩
 ·rw [rdC_bad q]; exact ⟨Nat.zero_le _, Nat.zero_le _, Nat.zero_le _⟩
section
variable {w w' : World} {g a b : Nat} {s : Cn} {p : CnP}
theorem CnR.kp {gs : List Nat} (h : CnR w g a b s p) (k : Kp gs w w') (hg : ∀ x ∈ gs, x ≠ p.gb ∧ x ≠ p.gd ∧ p.Db ≠ some x ∧ p.Dd ≠ some x ∧ (x < a ∨ b ≤ x)) : CnR w' g a b s p where
 buf := h.buf.kp k (fun e => (hg _ e).1 rfl) (fun x e e2 => (hg _ e2).2.2.1 e)
 dec := h.dec.kp k (fun e => (hg _ e).2.1 rfl) (fun x e e2 => (hg _ e2).2.2.2.1 e)
 hK := k.rd h.hK fun x e => (hg x e).2.2.2.2
 hV := k.rd h.hV fun x e => (hg x e).2.2.2.2
 hT := k.rd h.hT fun x e => (hg x e).2.2.2.2
 hv := h.hv
 hx := RdI.kp h.hx k fun x e => (hg x e).2.2.2.2
 hn := k.rd h.hn fun x e => (hg x e).2.2.2.2
 hA := k.rd h.hA fun x e => (hg x e).2.2.2.2
 sep := fun x hx => ⟨Nat.lt_of_lt_of_le (h.sep x hx).1 k.size, (h.sep x hx).2⟩
 hb := Nat.le_trans h.hb k.size
 ne1 := h.ne1
 ne2 := h.ne2
 ne3 := h.ne3
 dd := h.dd
 ok := h.ok
theorem CnR.ext (h : CnR w g a b s p) (e : Ext w w') : CnR w' g a b s p := h.kp (Kp.of_ext (gs := []) e) fun x hx => by cases hx
theorem CnR.grg (h : CnR w g a b s p) (k : Gr w w' (some g)) : CnR w' g a b s p := h.kp (Kp.of_gr k) fun x hx => by
 have e : x = g := by simpa using hx
 subst e
 exact ⟨h.ne1.1, h.ne1.2.1, h.ne2.1, h.ne3.1, (h.sep _ (mem_cng _ _)).2⟩
theorem CnR.kpg (h : CnR w g a b s p) (k : Kp [g] w w') : CnR w' g a b s p := h.kp k fun x hx => by
 rw [List.mem_singleton.1 hx]
 exact ⟨h.ne1.1, h.ne1.2.1, h.ne2.1, h.ne3.1, (h.sep _ (mem_cng _ _)).2⟩
/-- All of it lies below a bound. -/
def CnB (B g b : Nat) (p : CnP) : Prop := (∀ x ∈ cnS g p, x < B) ∧ b ≤ B
theorem CnR.bnd (h : CnR w g a b s p) : CnB w.heap.size g b p := ⟨fun x hx => (h.sep x hx).1, h.hb⟩
theorem CnR.grw {B : Nat} {row : Option Nat} (h : CnR w g a b s p) (k : Gr w w' row) (hW : CnB B g b p) (hr : ∀ x, row = some x → B ≤ x) : CnR w' g a b s p := h.kp (Kp.of_gr k) fun x hx => by
 have e := hr x (Option.mem_toList.1 hx)
 have h1 := hW.1 p.gb (mem_cnS.2 (.inr (.inl rfl)))
 have h2 := hW.1 p.gd (mem_cnS.2 (.inr (.inr (.inl rfl))))
 have h5 := hW.2
 refine ⟨by omega, by omega, fun q => ?_, fun q => ?_, by omega⟩
 ·have := hW.1 x (mem_cnS.2 (.inr (.inr (.inr (.inl q))))); omega
 ·have := hW.1 x (mem_cnS.2 (.inr (.inr (.inr (.inr q))))); omega
theorem CnR.grf {B g3 : Nat} (h : CnR w g a b s p) (k : Gr w w' (some g3)) (hW : CnB B g b p) (h3 : B ≤ g3) : CnR w' g a b s p := h.grw k hW fun x e => by cases e; exact h3
/-- The answer is another one. -/
def cnPw (p : CnP) (X : Option Addr) (cx : Nat) (xs : List IT) (N : Option Addr) (cn : Nat) (A : Option Addr) (c : Nat) : CnP := ⟨p.gb, p.gd, p.Db, p.Dd, none, 0, none, 0, none, 0, X, cx, xs, N, cn, A, c⟩
theorem CnR.put (h : CnR w g a b s p) {r : Rsp} {lo : Nat} {X : Option Addr} {cx : Nat} {xs : List IT} {N : Option Addr} {cn : Nat} {A : Option Addr} {c : Nat} (hlo : ∀ x ∈ cnS g p, x < lo) (hl : lo ≤ w.heap.size) (hv : vals xs = r.items) (hx : RdI w lo w.heap.size X cx xs) (hn : RdN w lo w.heap.size N cn r.nums) (hA : RdB w lo w.heap.size A c (cnFr r)) (hsz : rsz r ≤ 4398046511104) : CnR w g lo w.heap.size (cnW s r) (cnPw p X cx xs N cn A c) where
 buf := h.buf
 dec := h.dec
 hK := Rd.nil _ _ _ _ _ _ (Nat.zero_le _)
 hV := Rd.nil _ _ _ _ _ _ (Nat.zero_le _)
 hT := Rd.nil _ _ _ _ _ _ (Nat.zero_le _)
 hv := hv
 hx := hx
 hn := hn
 hA := hA
 sep := fun x hx => ⟨(h.sep x hx).1, .inl (hlo x hx)⟩
 hb := Nat.le_refl _
 ne1 := h.ne1
 ne2 := h.ne2
 ne3 := h.ne3
 dd := h.dd
 ok := ⟨h.ok.p1, h.ok.p2, h.ok.i1, h.ok.i2, h.ok.o1, h.ok.hl, by show 1 ≤ 3; decide, by show 3 ≤ 4; decide, hsz, cnFr_len r, .inl rfl, ⟨Nat.zero_le _, Nat.zero_le _, Nat.zero_le _⟩⟩
/-- The command is another one. -/
def cnPc (p : CnP) (K : Option Addr) (ck : Nat) (V : Option Addr) (cv : Nat) (T : Option Addr) (ct : Nat) : CnP := ⟨p.gb, p.gd, p.Db, p.Dd, K, ck, V, cv, T, ct, p.X, p.cx, p.xs, p.N, p.cn, p.A, p.c⟩
theorem Rd.zero {lo hi lo' hi' size c : Nat} {A : Option Addr} (h : Rd w lo hi size A 0 c []) : Rd w' lo' hi' size A 0 c [] := ⟨h.1, h.2.1, h.2.2.1, fun hn => absurd rfl hn⟩
/-- A command was read. -/
theorem CnR.cmd (h : CnR w g a b s p) (ha : s.ans = rspO 0 0 ∧ s.bs = []) {cm : Cmd} {lo : Nat} {K : Option Addr} {ck : Nat} {V : Option Addr} {cv : Nat} {T : Option Addr} {ct : Nat} (hlo : ∀ x ∈ cnS g p, x < lo) (hK : RdS w lo w.heap.size K ck cm.keys) (hV : RdB w lo w.heap.size V cv cm.value) (hT : RdS w lo w.heap.size T ct cm.tags) (hcb : cm.keys.length ≤ 16 ∧ cm.tags.length ≤ 16 ∧ cm.value.length ≤ 4194304) : CnR w g lo w.heap.size { s with cmd := cm, ph := 2 } (cnPc p K ck V cv T ct) where
 buf := h.buf
 dec := h.dec
 hK := hK
 hV := hV
 hT := hT
 hv := h.hv
 hx := by
  have hx := h.hx
  have hxs : p.xs = [] := by
   have e := h.hv
   rw [ha.1] at e
   exact List.map_eq_nil_iff.1 e
  show RdI w _ _ p.X p.cx p.xs
  rw [hxs] at hx ⊢
  exact ⟨Rd.zero hx.1, fun x hx => by cases hx⟩
 hn := by
  have hn := h.hn
  show Rd _ _ _ _ _ s.ans.nums.length _ (s.ans.nums.flatMap nuc)
  rw [ha.1] at hn ⊢
  exact Rd.zero hn
 hA := by
  have hA := h.hA
  show RdB _ _ _ _ _ s.bs
  rw [ha.2] at hA ⊢
  exact Rd.zero hA
 sep := fun x hx => ⟨(h.sep x hx).1, .inl (hlo x hx)⟩
 hb := Nat.le_refl _
 ne1 := h.ne1
 ne2 := h.ne2
 ne3 := h.ne3
 dd := h.dd
 ok := ⟨h.ok.p1, h.ok.p2, h.ok.i1, h.ok.i2, h.ok.o1, h.ok.hl, by show 1 ≤ 2; decide, by show 2 ≤ 4; decide, h.ok.sz, h.ok.bl, .inr ha, hcb⟩
/-- The answer was written out. -/
def cnPz (p : CnP) : CnP := ⟨p.gb, p.gd, p.Db, p.Dd, p.K, p.ck, p.V, p.cv, p.T, p.ct, none, 0, [], none, 0, none, 0⟩
theorem CnR.ans0 (h : CnR w g a b s p) {n : Nat} (h1 : 1 ≤ n) (h4 : n ≤ 4) : CnR w g a b { s with ph := n, ans := rspO 0 0, bs := [] } (cnPz p) where
 buf := h.buf
 dec := h.dec
 hK := h.hK
 hV := h.hV
 hT := h.hT
 hv := rfl
 hx := RdI.nil _ _ _
 hn := Rd.nil _ _ _ _ _ _ (Nat.zero_le _)
 hA := Rd.nil _ _ _ _ _ _ (Nat.zero_le _)
 sep := h.sep
 hb := h.hb
 ne1 := h.ne1
 ne2 := h.ne2
 ne3 := h.ne3
 dd := h.dd
 ok := ⟨h.ok.p1, h.ok.p2, h.ok.i1, h.ok.i2, h.ok.o1, h.ok.hl, h1, h4, by show 0 + 10 * 0 + 100 ≤ _; decide, Nat.zero_le _, .inr ⟨rfl, rfl⟩, h.ok.cb⟩
theorem Kp.of_ch {g2 : Nat} {D : Option Nat} (k : Ch g2 D w w') : Kp (g2 :: D.toList) w w' :=
 ⟨k.os, k.tape, k.output, k.size, fun i hi hn => k.block i hi (fun e => hn (by rw [e]; exact List.mem_cons_self ..)) (fun e => hn (List.mem_cons_of_mem _ (Option.mem_toList.2 e)))⟩
theorem mem_ch {g2 x : Nat} {D : Option Nat} : x ∈ g2 :: D.toList → x = g2 ∨ D = some x := fun h => by
 rcases List.mem_cons.1 h with e | e
 ·exact .inl e
 ·exact .inr (Option.mem_toList.1 e)
def cnPb (p : CnP) (D : Option Nat) : CnP := { p with Db := D }
def cnPd (p : CnP) (D : Option Nat) : CnP := { p with Dd := D }
theorem mem_gb (g : Nat) (p : CnP) : p.gb ∈ cnS g p := mem_cnS.2 (.inr (.inl rfl))
theorem mem_gd (g : Nat) (p : CnP) : p.gd ∈ cnS g p := mem_cnS.2 (.inr (.inr (.inl rfl)))
theorem mem_Db {g x : Nat} {p : CnP} (h : p.Db = some x) : x ∈ cnS g p := mem_cnS.2 (.inr (.inr (.inr (.inl h))))
theorem mem_Dd {g x : Nat} {p : CnP} (h : p.Dd = some x) : x ∈ cnS g p := mem_cnS.2 (.inr (.inr (.inr (.inr h))))
theorem Nx.ne {D D' : Option Nat} {x : Nat} (h : Nx w D D') (h1 : D ≠ some x) (h2 : x < w.heap.size) : D' ≠ some x := fun e => by
 rcases h x e with h3 | h3
 ·exact h1 h3
 ·omega
/-- The output changed. -/
theorem CnR.bufTo (h : CnR w g a b s p) {o : List UInt8} {n m : Nat} {D : Option Nat} (k : Ch p.gb p.Db w w') (hb : Buf w' 0 p.gb D s.co o n m) (hN : Nx w p.Db D) : CnR w' g a b { s with out := o, pt := n, tk := m } (cnPb p D) := by
 have hk := Kp.of_ch k
 have hs : ∀ x ∈ p.gb :: p.Db.toList, x < a ∨ b ≤ x := fun x hx => by
  rcases mem_ch hx with e | e
  ·rw [e]; exact (h.sep _ (mem_gb g p)).2
  ·exact (h.sep x (mem_Db e)).2
 exact {
  buf := hb
  dec := h.dec.ch k h.ne1.2.2.symm h.ne2.2.2 h.ne3.2.1 (fun x e e2 => h.dd x e2 e)
  hK := hk.rd h.hK hs
  hV := hk.rd h.hV hs
  hT := hk.rd h.hT hs
  hv := h.hv
  hx := RdI.kp h.hx hk hs
  hn := hk.rd h.hn hs
  hA := hk.rd h.hA hs
  sep := fun x hx => by
   rcases mem_cnS.1 hx with e | e | e | e | e
   ·exact ⟨Nat.lt_of_lt_of_le (h.sep x (by rw [e]; exact mem_cng _ _)).1 k.size, (h.sep x (by rw [e]; exact mem_cng _ _)).2⟩
   ·exact ⟨Nat.lt_of_lt_of_le (h.sep x (by rw [e]; exact mem_gb g p)).1 k.size, (h.sep x (by rw [e]; exact mem_gb g p)).2⟩
   ·exact ⟨Nat.lt_of_lt_of_le (h.sep x (by rw [e]; exact mem_gd g p)).1 k.size, (h.sep x (by rw [e]; exact mem_gd g p)).2⟩
   ·refine ⟨(hb.lt.2 x e).2, ?_⟩
    rcases hN x e with e2 | e2
    ·exact (h.sep x (mem_Db e2)).2
    ·have := h.hb; omega
   ·exact ⟨Nat.lt_of_lt_of_le (h.sep x (mem_Dd e)).1 k.size, (h.sep x (mem_Dd e)).2⟩
  hb := Nat.le_trans h.hb k.size
  ne1 := h.ne1
  ne2 := ⟨hN.ne h.ne2.1 (h.sep _ (mem_cng _ _)).1, hN.ne h.ne2.2.1 (h.sep _ (mem_gb g p)).1, hN.ne h.ne2.2.2 (h.sep _ (mem_gd g p)).1⟩
  ne3 := h.ne3
  dd := fun x e e2 => by
   rcases hN x e with e3 | e3
   ·exact h.dd x e3 e2
   ·have := (h.sep x (mem_Dd e2)).1; omega
  ok := ⟨h.ok.p1, h.ok.p2, h.ok.i1, h.ok.i2, h.ok.o1, h.ok.hl, h.ok.h1, h.ok.h4, h.ok.sz, h.ok.bl, h.ok.an, h.ok.cb⟩ }
/-- The input changed. -/
theorem CnR.decTo (h : CnR w g a b s p) {l : List UInt8} {c : Bool} {D : Option Nat} (k : Ch p.gd p.Dd w w') (hb : Dec w' 0 p.gd D s.cp c l) (hN : Nx w p.Dd D) (hl : l.length ≤ s.ci) : CnR w' g a b { s with cl := c, held := l } (cnPd p D) := by
 have hk := Kp.of_ch k
 have hs : ∀ x ∈ p.gd :: p.Dd.toList, x < a ∨ b ≤ x := fun x hx => by
  rcases mem_ch hx with e | e
  ·rw [e]; exact (h.sep _ (mem_gd g p)).2
  ·exact (h.sep x (mem_Dd e)).2
 exact {
  buf := h.buf.ch k h.ne1.2.2 h.ne3.2.1 h.ne2.2.2 (fun x e e2 => h.dd x e e2)
  dec := hb
  hK := hk.rd h.hK hs
  hV := hk.rd h.hV hs
  hT := hk.rd h.hT hs
  hv := h.hv
  hx := RdI.kp h.hx hk hs
  hn := hk.rd h.hn hs
  hA := hk.rd h.hA hs
  sep := fun x hx => by
   rcases mem_cnS.1 hx with e | e | e | e | e
   ·exact ⟨Nat.lt_of_lt_of_le (h.sep x (by rw [e]; exact mem_cng _ _)).1 k.size, (h.sep x (by rw [e]; exact mem_cng _ _)).2⟩
   ·exact ⟨Nat.lt_of_lt_of_le (h.sep x (by rw [e]; exact mem_gb g p)).1 k.size, (h.sep x (by rw [e]; exact mem_gb g p)).2⟩
   ·exact ⟨Nat.lt_of_lt_of_le (h.sep x (by rw [e]; exact mem_gd g p)).1 k.size, (h.sep x (by rw [e]; exact mem_gd g p)).2⟩
   ·exact ⟨Nat.lt_of_lt_of_le (h.sep x (mem_Db e)).1 k.size, (h.sep x (mem_Db e)).2⟩
   ·refine ⟨(hb.lt.2 x e).2, ?_⟩
    rcases hN x e with e2 | e2
    ·exact (h.sep x (mem_Dd e2)).2
    ·have := h.hb; omega
  hb := Nat.le_trans h.hb k.size
  ne1 := h.ne1
  ne2 := h.ne2
  ne3 := ⟨hN.ne h.ne3.1 (h.sep _ (mem_cng _ _)).1, hN.ne h.ne3.2.1 (h.sep _ (mem_gb g p)).1, hN.ne h.ne3.2.2 (h.sep _ (mem_gd g p)).1⟩
  dd := fun x e e2 => by
   rcases hN x e2 with e3 | e3
   ·exact h.dd x e e3
   ·have := (h.sep x (mem_Db e)).1; omega
  ok := ⟨h.ok.p1, h.ok.p2, h.ok.i1, h.ok.i2, h.ok.o1, hl, h.ok.h1, h.ok.h4, h.ok.sz, h.ok.bl, h.ok.an, h.ok.cb⟩ }
theorem cnS_b {x : Nat} {D : Option Nat} (hN : Nx w p.Db D) : x ∈ cnS g (cnPb p D) → x ∈ cnS g p ∨ w.heap.size ≤ x := fun hx => by
 rcases mem_cnS.1 hx with e | e | e | e | e
 ·exact .inl (by rw [e]; exact mem_cng _ _)
 ·exact .inl (by rw [e]; exact mem_gb g p)
 ·exact .inl (by rw [e]; exact mem_gd g p)
 ·exact (hN x e).imp mem_Db id
 ·exact .inl (mem_Dd e)
theorem cnS_d {x : Nat} {D : Option Nat} (hN : Nx w p.Dd D) : x ∈ cnS g (cnPd p D) → x ∈ cnS g p ∨ w.heap.size ≤ x := fun hx => by
 rcases mem_cnS.1 hx with e | e | e | e | e
 ·exact .inl (by rw [e]; exact mem_cng _ _)
 ·exact .inl (by rw [e]; exact mem_gb g p)
 ·exact .inl (by rw [e]; exact mem_gd g p)
 ·exact .inl (mem_Db e)
 ·exact (hN x e).imp mem_Dd id
theorem Kp.chb {w0 : World} (h : Kp (cnS g p) w0 w) (k : Ch p.gb p.Db w w') : Kp (cnS g p) w0 w' := h.tr (Kp.of_ch k) fun x hx => .inl (by
 rcases mem_ch hx with e | e
 ·rw [e]; exact mem_gb g p
 ·exact mem_Db e)
theorem Kp.chd {w0 : World} (h : Kp (cnS g p) w0 w) (k : Ch p.gd p.Dd w w') : Kp (cnS g p) w0 w' := h.tr (Kp.of_ch k) fun x hx => .inl (by
 rcases mem_ch hx with e | e
 ·rw [e]; exact mem_gd g p
 ·exact mem_Dd e)
end
end Go.Proofs.YtiighkbehiddkaaGreat