/-
 A run, in memory and plainly.
-/
import Derived.Test.YtiighkbehiddkaaGreatCl
namespace Go.Proofs.YtiighkbehiddkaaGreat
open Go.RowKit
set_option linter.unusedVariables false
set_option maxRecDepth 4000
abbrev XC := Cmd × Option Addr × Nat × Option Addr × Nat × Option Addr × Nat
/-- A command's cells. -/
def xcc (x : XC) : List Value := cmdc x.1 x.2.1 x.2.2.1 x.2.2.2.1 x.2.2.2.2.1 x.2.2.2.2.2.1 x.2.2.2.2.2.2
theorem xcc_one (x : XC) : ∀ u ∈ xcc x, u.oneCell' = true := by
 intro u hu
 simp only [xcc, cmdc, List.mem_cons, List.not_mem_nil, or_false] at hu
 rcases hu with rfl | rfl | rfl | rfl | rfl | rfl | rfl | rfl | rfl | rfl <;> rfl
/-- Its rows, between l and h. -/
def XR (w : World) (l h : Nat) (x : XC) : Prop := RdS w l h x.2.1 x.2.2.1 x.1.keys ∧ RdB w l h x.2.2.2.1 x.2.2.2.2.1 x.1.value ∧ RdS w l h x.2.2.2.2.2.1 x.2.2.2.2.2.2 x.1.tags
section
variable {w w' : World} {l h : Nat} {x : XC}
theorem XR.ext (k : XR w l h x) (e : Ext w w') : XR w' l h x := ⟨Rd.ext k.1 e, Rd.ext k.2.1 e, Rd.ext k.2.2 e⟩
theorem XR.gr (k : XR w l h x) {row : Option Nat} (e : Gr w w' row) (hr : ∀ g, row = some g → g < l ∨ h ≤ g) : XR w' l h x := ⟨Rd.gr k.1 e hr, Rd.gr k.2.1 e hr, Rd.gr k.2.2 e hr⟩
theorem XR.kp (k : XR w l h x) {S : List Nat} (e : Kp S w w') (hr : ∀ g ∈ S, g < l ∨ h ≤ g) : XR w' l h x := ⟨e.rd k.1 hr, e.rd k.2.1 hr, e.rd k.2.2 hr⟩
theorem XR.mono {l' h' : Nat} (k : XR w l h x) (h1 : l' ≤ l) (h2 : h ≤ h') : XR w l' h' x := ⟨Rd.mono k.1 h1 h2, Rd.mono k.2.1 h1 h2, Rd.mono k.2.2 h1 h2⟩
end
theorem Cnn.grr {w w' : World} {g a b : Nat} {S : List Nat} {s : Cn} {row : Option Nat} (h : Cnn w g S a b s) (k : Gr w w' row) (hd : ∀ x, row = some x → x ∉ S ∧ (x < a ∨ b ≤ x)) : Cnn w' g S a b s := h.kp (Kp.of_gr k) fun x hx => hd x (by simpa using hx)
/-- What a run holds in memory: the connection, the commands, the bytes that were taken out. -/
structure Rst (wi w : World) (B lo g : Nat) (S : List Nat) (a b : Nat) (s : Cn) (X : Option Addr) (cx : Nat) (xs : List XC) (A : Option Addr) (cA : Nat) (O : List UInt8) : Prop where
 con : Cnn w g S a b s
 rx : Own w lo 39 10 X xs.length cx (xs.flatMap xcc)
 ro : OwnB w lo 5 A cA O
 el : ∀ x ∈ xs, ∃ l h, XR w l h x ∧ h ≤ B ∧ lo ≤ l ∧ (∀ y ∈ S, y < l ∨ h ≤ y) ∧ (∀ g, blk X = some g → g < l ∨ h ≤ g) ∧ (∀ g, blk A = some g → g < l ∨ h ≤ g)
 sX : ∀ g, blk X = some g → g < B ∧ g ∉ S ∧ (g < a ∨ b ≤ g) ∧ blk A ≠ some g
 sA : ∀ g, blk A = some g → g < B ∧ g ∉ S ∧ (g < a ∨ b ≤ g)
 sS : ∀ y ∈ S, lo ≤ y ∧ y < B
 hb : b ≤ B
 hB : B ≤ w.heap.size
 hlo : lo ≤ B
 e : Ext wi w
 hi : wi.heap.size ≤ lo
section
variable {wi w w' : World} {B lo g : Nat} {S : List Nat} {a b : Nat} {s : Cn} {X : Option Addr} {cx : Nat} {xs : List XC} {A : Option Addr} {cA : Nat} {O : List UInt8}
theorem Rst.ext (h : Rst wi w B lo g S a b s X cx xs A cA O) (k : Ext w w') : Rst wi w' B lo g S a b s X cx xs A cA O :=
 ⟨h.con.ext k, Own.ext h.rx k, Own.ext h.ro k, fun x hx => by obtain ⟨l, t, h1, h2⟩ := h.el x hx; exact ⟨l, t, h1.ext k, h2⟩, h.sX, h.sA, h.sS, h.hb, Nat.le_trans h.hB k.size, h.hlo, h.e.tr k, h.hi⟩
theorem Rst.grf {g3 : Nat} (h : Rst wi w B lo g S a b s X cx xs A cA O) (k : Gr w w' (some g3)) (h3 : B ≤ g3) : Rst wi w' B lo g S a b s X cx xs A cA O := by
 have h1 := h.hi
 have h2 := h.hlo
 refine ⟨h.con.grf k ⟨fun x hx => (h.sS x hx).2, h.hb⟩ h3, Own.gr h.rx k (own_apart fun x q y q2 => ?_), Own.gr h.ro k (own_apart fun x q y q2 => ?_), fun x hx => ?_, h.sX, h.sA, h.sS, h.hb, Nat.le_trans h.hB k.size, h.hlo, h.e.gr k (fun x q => by cases q; omega), h.hi⟩
 ·cases q2; have := (h.sX x q).1; omega
 ·cases q2; have := (h.sA x q).1; omega
 ·obtain ⟨l, t, h1, h2, h4⟩ := h.el x hx
  exact ⟨l, t, h1.gr k (fun x q => by cases q; omega), h2, h4⟩
theorem Rst.step {s' : Cn} (h : Rst wi w B lo g S a b s X cx xs A cA O) (t : CnTo w w' g S a b s') : ∃ S' a' b', Rst wi w' w'.heap.size lo g S' a' b' s' X cx xs A cA O ∧ Kp S w w' ∧ ∀ y ∈ S', y ∈ S ∨ w.heap.size ≤ y := by
 obtain ⟨S', a', b', hc, k, hS, hab⟩ := t
 have hbn := hc.bnd
 have hB := h.hB
 have hz := k.size
 have hlo := h.hlo
 have hi := h.hi
 refine ⟨S', a', b', ⟨hc, Kp.own k h.rx (fun x e hx => (h.sX x e).2.1 hx), Kp.own k h.ro (fun x e hx => (h.sA x e).2.1 hx), fun x hx => ?_, fun x e => ?_, fun x e => ?_, fun y hy => ?_, hbn.2, Nat.le_refl _, by omega, k.e0 h.e (fun x hx => by have := (h.sS x hx).1; omega), h.hi⟩, k, hS⟩
 ·obtain ⟨l, t, h1, h2, h3, h4, h5⟩ := h.el x hx
  exact ⟨l, t, h1.kp k h4, by omega, h3, fun y hy => (hS y hy).elim (h4 y) (fun q => by omega), h5⟩
 ·have q := h.sX x e
  refine ⟨by omega, fun hx => (hS x hx).elim q.2.1 (fun q2 => by omega), ?_, q.2.2.2⟩
  have := q.2.2.1
  omega
 ·have q := h.sA x e
  refine ⟨by omega, fun hx => (hS x hx).elim q.2.1 (fun q2 => by omega), ?_⟩
  have := q.2.2
  omega
 ·refine ⟨?_, (hbn.1 y hy).1⟩
  rcases hS y hy with q | q
  ·exact (h.sS y q).1
  ·omega
theorem Rst.appO {O2 : List UInt8} {v : Value} (h : Rst wi w B lo g S a b s X cx xs A cA O) (t : AppendedB w lo 5 A O2 v w') : ∃ A' c', v = .slice A' O2.length c' ∧ Rst wi w' w'.heap.size lo g S a b s X cx xs A' c' O2 ∧ Gr w w' (blk A) := by
 obtain ⟨A', c', rfl, ho, hg, ha⟩ := t
 have hB := h.hB
 have hz := hg.size
 have hlo := h.hlo
 have hi := h.hi
 have hb := h.hb
 have ha' : ∀ x, blk A' = some x → blk A = some x ∨ x = w.heap.size := fun x q => by
  rcases ha with e | e
  ·exact .inl (e ▸ q)
  ·rw [e] at q; cases q; exact .inr rfl
 refine ⟨A', c', rfl, ⟨h.con.grr hg (fun x q => (h.sA x q).2), Own.gr h.rx hg ?_, ho, fun x hx => ?_, fun x e => ?_, fun x e => ?_, fun y hy => ⟨(h.sS y hy).1, by have := (h.sS y hy).2; omega⟩, by omega, Nat.le_refl _, by omega, h.e.gr hg (fun x q => by have := (Own.lt h.ro q).1; omega), h.hi⟩, hg⟩
 ·cases hX : blk X with
  | none => exact .inl rfl
  | some x => exact .inr fun e => (h.sX x hX).2.2.2 e.symm
 ·obtain ⟨l, t, h1, h2, h3, h4, h5, h6⟩ := h.el x hx
  refine ⟨l, t, h1.gr hg h6, by omega, h3, h4, h5, fun y q => ?_⟩
  rcases ha' y q with q | q
  ·exact h6 y q
  ·omega
 ·have q := h.sX x e
  refine ⟨by omega, q.2.1, q.2.2.1, fun e2 => ?_⟩
  rcases ha' x e2 with q2 | q2
  ·exact q.2.2.2 q2
  ·omega
 ·have := (Own.lt ho e).2
  refine ⟨this, ?_⟩
  rcases ha' x e with q | q
  ·exact (h.sA x q).2
  ·exact ⟨fun hx => by have := (h.sS x hx).2; omega, by omega⟩
theorem Rst.appL {n : Nat} {x : XC} {l t : Nat} {v : Value} (h : Rst wi w B lo g S a b s X cx xs A cA O) (hx : XR w l t x) (h1 : t ≤ w.heap.size) (h2 : lo ≤ l) (h3 : ∀ y ∈ S, y < l ∨ t ≤ y) (h4 : ∀ g, blk X = some g → g < l ∨ t ≤ g) (h5 : ∀ g, blk A = some g → g < l ∨ t ≤ g) (hn : n = (xs ++ [x]).length) (k : Appended w lo 39 10 X n (xs.flatMap xcc ++ xcc x) v w') : ∃ X' c', v = .slice X' (xs ++ [x]).length c' ∧ Rst wi w' w'.heap.size lo g S a b s X' c' (xs ++ [x]) A cA O ∧ Gr w w' (blk X) := by
 obtain ⟨X', c', rfl, ho, hg, ha⟩ := k
 subst hn
 have hB := h.hB
 have hz := hg.size
 have hlo := h.hlo
 have hi := h.hi
 have hb := h.hb
 have ha' : ∀ x, blk X' = some x → blk X = some x ∨ x = w.heap.size := fun x q => by
  rcases ha with e | e
  ·exact .inl (e ▸ q)
  ·rw [e] at q; cases q; exact .inr rfl
 have ho' : Own w' lo 39 10 X' (xs ++ [x]).length c' ((xs ++ [x]).flatMap xcc) := by
  rw [List.flatMap_append, List.flatMap_singleton]; exact ho
 refine ⟨X', c', rfl, ⟨h.con.grr hg (fun y q => ⟨(h.sX y q).2.1, (h.sX y q).2.2.1⟩), ho', Own.gr h.ro hg ?_, fun y hy => ?_, fun y e => ?_, fun y e => ?_, fun y hy => ⟨(h.sS y hy).1, by have := (h.sS y hy).2; omega⟩, by omega, Nat.le_refl _, by omega, h.e.gr hg (fun y q => by have := (Own.lt h.rx q).1; omega), h.hi⟩, hg⟩
 ·cases hX : blk X with
  | none => cases hA : blk A with
   | none => exact .inl rfl
   | some y => exact .inr (by simp)
  | some y => exact .inr (h.sX y hX).2.2.2
 ·rcases List.mem_append.1 hy with hy | hy
  ·obtain ⟨l, t, k1, k2, k3, k4, k5, k6⟩ := h.el y hy
   refine ⟨l, t, k1.gr hg k5, by omega, k3, k4, fun z q => ?_, k6⟩
   rcases ha' z q with q | q
   ·exact k5 z q
   ·omega
  ·rw [List.mem_singleton.1 hy]
   refine ⟨l, t, hx.gr hg h4, by omega, h2, h3, fun z q => ?_, h5⟩
   rcases ha' z q with q | q
   ·exact h4 z q
   ·omega
 ·have hl := (Own.lt ho e).2
  refine ⟨hl, ?_⟩
  rcases ha' y e with q | q
  ·exact (h.sX y q).2
  ·refine ⟨fun hx => by have := (h.sS y hx).2; omega, by omega, fun e2 => ?_⟩
   have := (h.sA y e2).1
   omega
 ·have q := h.sA y e
  exact ⟨by omega, q.2⟩
end
structure RS where
 B : Nat
 S : List Nat
 a : Nat
 b : Nat
 s : Cn
 X : Option Addr
 cx : Nat
 xs : List XC
 A : Option Addr
 cA : Nat
 O : List UInt8
/-- What a run has done: d was put in, r is to come. -/
structure RP (i o p : Nat) (d r : List UInt8) (C : List Cmd) (O : List UInt8) (s : Cn) : Prop where
 ri : RI i o p d C O s
 pt : s.pt = O.length
 tk : s.tk = O.length
 bO : O.length + 64 * (rmu s + 8 * r.length) ≤ 153664
 bC : C.length + (rmu s + 8 * r.length) ≤ 2401
def Rdone (s : Cn) : Prop := s.ph = 4 ∨ s.ph = 1 ∧ (cnNx s).2.2.2 = 4
section
variable {i o p : Nat} {d r : List UInt8} {C : List Cmd} {O : List UInt8} {s : Cn}
theorem rp_new (h : CnOk (cnNew i o p)) (hr : r.length ≤ 300) : RP i o p [] r [] [] (cnNew i o p) := by
 have e : rmu (cnNew i o p) = 1 := rfl
 exact ⟨ri_new h, rfl, rfl, by rw [e]; show 0 + _ ≤ _; omega, by rw [e]; show 0 + _ ≤ _; omega⟩
theorem rdone_new (hp : p ≤ 2097152) : Rdone (cnNew i o p) := by
 refine .inr ⟨rfl, ?_⟩
 show (fread [] (p : Int)).2.2 = 4
 rw [fread_short0 (by omega) (by decide)]
theorem rdone_len (h : RI i o p d C O s) (hp : p ≤ 2097152) (h16 : 16 ≤ p) (hd : Rdone s) (h4 : ¬ s.ph = 4) : s.ph = 1 ∧ s.held.length < p + 8 := by
 rcases hd with q | ⟨q, q2⟩
 ·exact absurd q h4
 ·refine ⟨q, short_len hp h16 ?_⟩
  have hn : cnNx s = dnext p false s.held := by unfold cnNx; rw [h.cp, h.cl (.inl q)]
  rw [hn] at q2
  exact q2
def cnPut (s : Cn) (q : List UInt8) : Cn := { s with held := s.held ++ q }
theorem rp_del (h : RP i o p d r C O s) (h1 : s.ph = 1) {n : Nat} (hn1 : 1 ≤ n) (hn : n ≤ r.length) (hl : s.held.length < i) : ∃ m, 1 ≤ m ∧ m ≤ r.length ∧ cnDel s (r.take n) = (cnPut s (r.take m), m, 0) ∧ RP i o p (d ++ r.take m) (r.drop m) C O (cnPut s (r.take m)) := by
 refine ⟨min n (i - s.held.length), by omega, by omega, ?_, ?_⟩
 ·have hc := h.ri.cl (.inl h1)
  have e1 : min (r.take n).length (s.ci - s.held.length) = min n (i - s.held.length) := by rw [List.length_take, h.ri.ci]; omega
  have e2 : (r.take n).take (min n (i - s.held.length)) = r.take (min n (i - s.held.length)) := by rw [List.take_take]; congr 1; omega
  unfold cnDel
  rw [if_neg (by rw [hc]; decide), e1, e2]
  rfl
 ·have hq : (r.take (min n (i - s.held.length))).length = min n (i - s.held.length) := by rw [List.length_take]; omega
  have e2 : rmu (cnPut s (r.take (min n (i - s.held.length)))) = rmu s + 8 * min n (i - s.held.length) := by
   have key : ∀ a b c : Nat, 8 * (a + b) + c = 8 * a + c + 8 * b := fun a b c => by omega
   unfold rmu cnPut
   rw [List.length_append, hq]
   exact key _ _ _
  have e3 : (r.drop (min n (i - s.held.length))).length = r.length - min n (i - s.held.length) := List.length_drop
  refine ⟨(ri_del h.ri h1 _ (by rw [hq]; omega)).2, h.pt, h.tk, ?_, ?_⟩
  ·have := h.bO; rw [e2, e3]; omega
  ·have := h.bC; rw [e2, e3]; omega
theorem step_keep (s : Cn) : (cnStep s).1.ci = s.ci ∧ (cnStep s).1.co = s.co ∧ (cnStep s).1.tk = s.tk := by
 unfold cnStep
 split
 ·unfold cnRd
  repeat' split
  all_goals exact ⟨rfl, rfl, rfl⟩
 ·repeat' split
  all_goals exact ⟨rfl, rfl, rfl⟩
theorem rd_pt (s : Cn) : (cnRd s).1.pt = s.pt ∧ (cnRd s).1.tk = s.tk := by
 unfold cnRd
 repeat' split
 all_goals exact ⟨rfl, rfl⟩
theorem dr_nil (h : s.out = []) (o : Nat) : cnDr s (o : Int) = (s, [], 0) := by
 have e : bpeek s.out (o : Int) = ([], 0) := by rw [h, bpk_ok (by omega), List.take_nil]
 unfold cnDr
 rw [e]
 cases s
 cases h
 rfl
theorem bp_nil (h : s.out = []) (o : Nat) : bpeek s.out (o : Int) = ([], 0) := by rw [h, bpk_ok (by omega), List.take_nil]
/-- A step, and what is taken out. -/
structure RF (i o p : Nat) (d r : List UInt8) (C : List Cmd) (O : List UInt8) (s s1 : Cn) (m : Nat) : Prop where
 e : (bpeek s1.out (o : Int)).2 = 0
 rp : RP i o p d r C (O ++ (bpeek s1.out (o : Int)).1) (cnDr s1 (o : Int)).1
 lt : 2 * rmu (cnDr s1 (o : Int)).1 + (if m = 0 then 0 else 1) < 2 * rmu s + 1
 dn : m = 0 → Rdone (cnDr s1 (o : Int)).1
theorem rf_nil {s1 : Cn} {C' : List Cmd} {m : Nat} (h : RP i o p d r C' O s1) (hl : 2 * rmu s1 + (if m = 0 then 0 else 1) < 2 * rmu s + 1) (hd : m = 0 → Rdone s1) : RF i o p d r C' O s s1 m := by
 have e := dr_nil h.ri.out o
 have e2 := bp_nil h.ri.out o
 exact ⟨by rw [e2], by rw [e, e2, List.append_nil]; exact h, by rw [e]; exact hl, by rw [e]; exact hd⟩
theorem lt_more {a b n : Nat} (h : a + (if n = 0 then 0 else 1) < b + 1) : a + (if decide ((n : Int) ≠ 0) = true then 1 else 0) < b + (if true = true then 1 else 0) := by
 rw [if_pos rfl]
 by_cases q : n = 0
 ·rw [if_pos q] at h; rw [if_neg (by rw [decide_eq_true_iff]; omega)]; exact h
 ·rw [if_neg q] at h; split <;> omega
theorem rp_F (h : RP i o p d r C O s) (hp : p ≤ 2097152) (h3 : ¬ ((cnStep s).2 : Int) = 3) : RF i o p d r C O s (cnStep s).1 (cnStep s).2 := by
 have hb := h.bO
 have hc := h.bC
 have q1 := h.ri.ok.h1
 have q4 := h.ri.ok.h4
 by_cases p1 : s.ph = 1
 ·rcases ri_read h.ri p1 hp with ⟨k1, k2⟩ | ⟨k1, k2, k3, k4⟩
  ·rw [k2]
   exact rf_nil h (by show 2 * rmu s + 0 < 2 * rmu s + 1; omega) (fun _ => .inr ⟨p1, k1⟩)
  ·have e : cnStep s = cnRd s := if_pos p1
   have k5 := rd_pt s
   rw [← e] at k5
   exact rf_nil ⟨k2, by rw [k5.1]; exact h.pt, by rw [k5.2]; exact h.tk, by omega, by omega⟩ (by split <;> omega) (fun q => by omega)
 by_cases p2 : s.ph = 2
 ·exact absurd (by rw [(ri_ans h.ri p2).1]; rfl) h3
 by_cases p4 : s.ph = 4
 ·have e : cnStep s = (s, 0) := (if_neg p1).trans ((if_neg p2).trans (if_pos p4))
  rw [e]
  exact rf_nil h (by show 2 * rmu s + 0 < 2 * rmu s + 1; omega) (fun _ => .inl p4)
 ·obtain ⟨k1, k2, k3, k4, k5⟩ := ri_write h.ri (by omega)
  have ho := h.ri.ok.o1
  have hoo := h.ri.co
  have e1 : bpeek (cnOut s).out (o : Int) = (s.bs, 0) := by
   rw [k2, bpk_ok (by omega)]
   show (s.bs.take ((o : Int).toNat), 0) = _
   rw [List.take_of_length_le (by omega)]
  have e2 : cnDr (cnOut s) (o : Int) = ({ cnOut s with out := [], tk := s.tk + s.bs.length }, s.bs, 0) := by
   unfold cnDr
   rw [e1, k2, List.drop_length]
   rfl
  rw [k1]
  refine ⟨by rw [e1], ?_, ?_, fun q => by cases q⟩
  ·rw [e1, e2]
   have e3 : rmu { cnOut s with out := [], tk := s.tk + s.bs.length } = rmu (cnOut s) := rfl
   refine ⟨k4, ?_, ?_, ?_, ?_⟩
   ·show s.pt + s.bs.length = _
    rw [List.length_append, h.pt]
   ·show s.tk + s.bs.length = _
    rw [List.length_append, h.tk]
   ·show (O ++ s.bs).length + 64 * (rmu (cnOut s) + 8 * r.length) ≤ _
    rw [List.length_append]; omega
   ·show _ + (rmu (cnOut s) + 8 * r.length) ≤ _
    omega
  ·rw [e2]
   show 2 * rmu (cnOut s) + 1 < _
   omega
theorem rp_T {xs : List XC} (h : RP i o p d r (xs.map Prod.fst) O s) (hp : p ≤ 2097152) (h3 : ((cnStep s).2 : Int) = 3) : (cnStep s).1 = s ∧ s.ph = 2 ∧ cnCmd s = s.cmd ∧ (cnAns s (rspO (cnCmd s).op 9)).2 = 0 ∧ (∀ x : XC, x.1 = cnCmd s → RF i o p d r ((xs ++ [x]).map Prod.fst) O s (cnAns s (rspO (cnCmd s).op 9)).1 (cnStep s).2) ∧ (cnAns s (rspO (cnCmd s).op 9)).1.tk = s.tk ∧ xs.length ≤ 2401 := by
 have hb := h.bO
 have hc := h.bC
 have q1 := h.ri.ok.h1
 have q4 := h.ri.ok.h4
 have p2 : s.ph = 2 := by
  by_cases p1 : s.ph = 1
  ·rcases ri_read h.ri p1 hp with ⟨k1, k2⟩ | ⟨k1, k2, k3, k4⟩
   ·rw [k2] at h3; cases h3
   ·omega
  by_cases p2 : s.ph = 2
  ·exact p2
  by_cases p4 : s.ph = 4
  ·have e : cnStep s = (s, 0) := (if_neg p1).trans ((if_neg p2).trans (if_pos p4))
   rw [e] at h3; cases h3
  ·have := (ri_write h.ri (by omega)).1
   rw [this] at h3; cases h3
 obtain ⟨k1, k2, k3, k4⟩ := ri_ans h.ri p2
 have ec : cnCmd s = s.cmd := if_pos p2
 rw [List.length_map] at hc
 refine ⟨by rw [k1], p2, ec, by rw [ec, k2], fun x hx => ?_, by rw [ec, k2]; rfl, by omega⟩
 rw [ec, k2, k1]
 have e2 : (xs ++ [x]).map Prod.fst = xs.map Prod.fst ++ [s.cmd] := by rw [List.map_append, List.map_singleton, hx, ec]
 rw [e2]
 show RF i o p d r (xs.map Prod.fst ++ [s.cmd]) O s (cnW s (rspO s.cmd.op 9)) 3
 exact rf_nil ⟨k3, h.pt, h.tk, by omega, by rw [List.length_append, List.length_map, List.length_singleton]; omega⟩ (by show 2 * rmu (cnW s (rspO s.cmd.op 9)) + 1 < _; omega) (fun q => by cases q)
end
theorem Rst.sz {wi w : World} {B lo g : Nat} {S : List Nat} {a b : Nat} {s : Cn} {X : Option Addr} {cx : Nat} {xs : List XC} {A : Option Addr} {cA : Nat} {O : List UInt8} (h : Rst wi w B lo g S a b s X cx xs A cA O) : dheld s.cl s.held ≤ s.ci ∧ s.out.length ≤ s.co := by
 refine ⟨?_, h.con.cap.1⟩
 have := h.con.ok.hl
 unfold dheld
 split
 ·omega
 ·exact this
/-- What a run hands back. -/
def RunPost (p : Nat) (b : List UInt8) (w : World) (v : Value) (w' : World) : Prop := ∃ (X : Option Addr) (cx : Nat) (xs : List XC) (A : Option Addr) (cA : Nat), v = .tuple #[.slice X xs.length cx, .slice A (fO p b).length cA, .bool (fX p b), .bool true] ∧ xs.map Prod.fst = fC p b ∧ xs.length ≤ 2401 ∧ Rd w' w.heap.size w'.heap.size 10 X xs.length cx (xs.flatMap xcc) ∧ RdB w' w.heap.size w'.heap.size A cA (fO p b) ∧ (∀ x ∈ xs, XR w' w.heap.size w'.heap.size x) ∧ Ext w w'
theorem run_end {wi w : World} {B lo g : Nat} {S : List Nat} {a b : Nat} {s : Cn} {X : Option Addr} {cx : Nat} {xs : List XC} {A : Option Addr} {cA : Nat} {O : List UInt8} {i o p : Nat} {bb d r : List UInt8} (h : Rst wi w B lo g S a b s X cx xs A cA O) (hP : RP i o p d r (xs.map Prod.fst) O s) (hb : bb = d ++ r) (hp : p ≤ 2097152) (hd : Rdone s) (he : s.ph = 4 ∨ r = []) : RunPost p bb wi (.tuple #[.slice X xs.length cx, .slice A O.length cA, .bool (decide ((s.ph : Int) = 4)), .bool true]) w := by
 have h1 := h.hi
 have h2 := h.hB
 obtain ⟨e1, e2, e3, e4⟩ := ri_end hP.ri hb hp (by
  rcases he with q | q
  ·exact .inl q
  ·rcases hd with q2 | q2
   ·exact .inl q2
   ·exact .inr ⟨q, q2⟩)
 have hx : decide ((s.ph : Int) = 4) = fX p bb := by
  rw [← e3]
  cases hc : s.cl with
  | true => exact decide_eq_true (by rw [e4.1 hc]; rfl)
  | false => exact decide_eq_false (fun q => by rw [e4.2 (by omega)] at hc; cases hc)
 have hC := hP.bC
 rw [List.length_map] at hC
 refine ⟨X, cx, xs, A, cA, by rw [hx, e2], e1, by omega, (Own.rd h.rx).mono h1 (Nat.le_refl _), ?_, fun x hx => ?_, h.e⟩
 ·rw [← e2]; exact (OwnB.rd h.ro).mono h1 (Nat.le_refl _)
 ·obtain ⟨l, t, k1, k2, k3, _⟩ := h.el x hx
  exact k1.mono (by omega) (by omega)
end Go.Proofs.YtiighkbehiddkaaGreat