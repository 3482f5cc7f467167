/-
  The contracts of a call of a buffer and of its reference.
-/
import Derived.Test.YtopfjpkjpmdhaaaBa
namespace Go.Proofs.Ytopfjpkjpmdhaaa
open Go.RowKit
set_option linter.unusedVariables false
set_option maxRecDepth 4000
theorem fo42_2 : fieldOff Try.prog 42 2 = some 2 := by kernel_rfl
theorem sl39 : SliceTy Try.prog 39 42 3 40 (.agg #[(.int .i64 0), (.int .i64 0), (.slice none 0 0)]) := sliceTy_mk Try.underlying39 (by kernel_rfl) rfl (by decide)

/-- A call, its cells. -/
abbrev Act27 := Int × Int × Option Addr × Nat × List UInt8
def act27c (x : Act27) : List Value := [.int .i64 x.1, .int .i64 x.2.1, .slice x.2.2.1 x.2.2.2.2.length x.2.2.2.1]
def few27P (xs : List Act27) : Prop := xs.length ≤ 80 ∧ ∀ a ∈ xs, a.2.2.2.2.length ≤ 100
instance (xs : List Act27) : Decidable (few27P xs) := by unfold few27P; infer_instance
theorem take_all27 {xs : List Act27} {k : Nat} {a1 a2 : Int} {A : Option Addr} {c : Nat} {q : List UInt8} (h : xs[k]? = some (a1, a2, A, c, q)) (hb : q.length ≤ 100) (ha : ∀ f ∈ xs.take k, f.2.2.2.2.length ≤ 100) : ∀ f ∈ xs.take (k + 1), f.2.2.2.2.length ≤ 100 := by
  intro f hf
  rw [List.take_add_one, h, List.mem_append] at hf
  rcases hf with hf | hf
  · exact ha f hf
  · simp at hf; subst hf; exact hb
theorem drop_take_len (l : List UInt8) (n : Nat) : l.drop (l.take n).length = l.drop n := by
  rw [List.length_take]
  rcases Nat.le_total n l.length with h | h
  · rw [Nat.min_eq_left h]
  · rw [Nat.min_eq_right h, List.drop_of_length_le (Nat.le_refl _), List.drop_of_length_le h]
/-- A buffer and the reference's: they hold the same. -/
structure Play27 (b0 : Nat) (w : World) (lo lor hir g : Nat) (D : Option Nat) (m : Nat) (l : List UInt8) (p t : Nat) (A : Option Addr) (c : Nat) : Prop where
  hbuf : Buf w lo g D m l p t
  hr : RdB w lor hir A c l
  hhir : hir ≤ w.heap.size
  hlo : lo ≤ w.heap.size
  hsg : g < lor ∨ hir ≤ g
  hsD : ∀ x, D = some x → x < lor ∨ hir ≤ x
  hpt : p = t + l.length
  hb0 : b0 ≤ g
  hbD : ∀ x, D = some x → b0 ≤ x
theorem Play27.gr {b0 : Nat} {w w' : World} {lo lor hir g : Nat} {D : Option Nat} {m : Nat} {l : List UInt8} {p t : Nat} {A : Option Addr} {c z : Nat} (h : Play27 b0 w lo lor hir g D m l p t A c) (hg : Gr w w' (some z)) (h1 : z ≠ g) (h2 : ∀ x, D = some x → x ≠ z) (h3 : z < lor ∨ hir ≤ z) : Play27 b0 w' lo lor hir g D m l p t A c :=
  ⟨h.hbuf.gr hg (fun x e => by cases e; exact h1) (fun x e e2 => by cases e; exact h2 _ e2 rfl), h.hr.gr hg (fun x e => by cases e; exact h3), Nat.le_trans h.hhir hg.size, Nat.le_trans h.hlo hg.size, h.hsg, h.hsD, h.hpt, h.hb0, h.hbD⟩
theorem Play27.ext {b0 : Nat} {w w' : World} {lo lor hir g : Nat} {D : Option Nat} {m : Nat} {l : List UInt8} {p t : Nat} {A : Option Addr} {c : Nat} (h : Play27 b0 w lo lor hir g D m l p t A c) (hg : Ext w w') : Play27 b0 w' lo lor hir g D m l p t A c :=
  ⟨h.hbuf.ext hg, h.hr.ext hg, Nat.le_trans h.hhir hg.size, Nat.le_trans h.hlo hg.size, h.hsg, h.hsD, h.hpt, h.hb0, h.hbD⟩
theorem Play27.kp {b0 : Nat} {w w' : World} {lo lor hir g : Nat} {D : Option Nat} {m : Nat} {l : List UInt8} {p t : Nat} {A : Option Addr} {c : Nat} {gs : List Nat} (h : Play27 b0 w lo lor hir g D m l p t A c) (hk : Kp gs w w') (h1 : g ∉ gs) (h2 : ∀ x, D = some x → x ∉ gs) (h3 : ∀ z ∈ gs, z < lor ∨ hir ≤ z) : Play27 b0 w' lo lor hir g D m l p t A c :=
  ⟨h.hbuf.kp hk h1 h2, hk.rd h.hr h3, Nat.le_trans h.hhir hk.size, Nat.le_trans h.hlo hk.size, h.hsg, h.hsD, h.hpt, h.hb0, h.hbD⟩
/-- What a call of both leaves. -/
def Do27 (b0 : Nat) (w : World) (lor hir g : Nat) (D : Option Nat) (m p : Nat) (v : Value) (w' : World) : Prop :=
  ∃ lo' lor' hir' g' D' l' p' t' A' c', v = .tuple #[.pointer (some ⟨g', 0, none⟩), .agg #[.int .i64 (m : Int), .slice A' (List.length l') c', .int .u64 (p' : Nat)], .bool true] ∧ Play27 b0 w' lo' lor' hir' g' D' m l' p' t' A' c' ∧ p' ≤ p + 100 ∧ Ch g D w w' ∧
    (g' = g ∨ w.heap.size ≤ g') ∧ Nx w D D' ∧ ((lor' = lor ∧ hir' = hir) ∨ w.heap.size ≤ lor')

theorem few27_any (w : World) (lox hix : Nat) (C : Option Addr) (cx : Nat) (xs : List Act27) (hrx : RdR w lox hix 3 act27c C cx xs) :
    Fn Try.prog 21 #[(.slice C xs.length cx)] w (fun v w' => v = .bool (decide (few27P xs)) ∧ Ext w w') := by
  replace hrx := hrx.top
  have hE := ext_refl w
  have hcx := hrx.1
  have hcx2 := hrx.2.1
  simp only [maxLen] at hcx2
  refine fn_enter (args := [(.slice C xs.length cx)]) Try.func21 rfl rfl rfl ?_
  show WC _ _ _ _ [(0, (.slice C xs.length cx))] _
  refine wc_seq ?_
  refine wc_regionL ?_
  refine wl_val (ov_assign rfl) rfl rfl rfl ?_
  refine q_nil ?_
  refine k_then ?_
  refine wc_seq ?_
  refine wc_seq ?_
  refine wc_regionL ?_
  refine wl_val (ov_assign rfl) rfl rfl rfl ?_
  refine q_nil ?_
  refine k_then ?_
  refine wc_block ?_
  refine wc_loop (σ := Nat) (fun s => xs.length - s) (fun s => [(0, .slice C xs.length cx), (3, .int .i64 (s : Int))]) (fun s w' => s ≤ xs.length ∧ s ≤ 81 ∧ (∀ a ∈ xs.take s, a.2.2.2.2.length ≤ 100) ∧ RdR w' lox w.heap.size 3 act27c C cx xs ∧ Ext w w') (0) (⟨Nat.zero_le _, by decide, by simp, hrx, hE⟩) (⟨rfl, rfl, trivial⟩) ?_
  rintro k wq ⟨hk0, hk81, hall, hrx, hE⟩
  show WC _ _ _ _ [(0, (.slice C xs.length cx)), (3, (.int .i64 (↑k : Int)))] _
  have hz_E := hE.size
  refine wc_seq ?_
  refine wc_seq ?_
  refine wc_regionL ?_
  refine wl_val (ov_move rfl) rfl rfl rfl ?_
  refine wl_val (ov_move rfl) rfl rfl rfl ?_
  refine wl_val (ov_len Try.underlying39 rfl) rfl rfl rfl ?_
  refine wl_val (ov_lss rfl rfl) rfl rfl rfl ?_
  refine wl_case_d (d := 7) rfl (fun h7 => ?_) (fun h7 => ?_)
  · refine wl_val (ov_move rfl) rfl rfl rfl ?_
    refine wl_gval (ov_move rfl) rfl rfl rfl rfl rfl ?_
    refine wl_gval (ov_lss rfl rfl) rfl rfl rfl rfl rfl ?_
    refine wl_case_d (d := 10) rfl (fun h10 => ?_) (fun h10 => ?_)
    · refine wl_val (ov_pick_t rfl rfl) rfl rfl rfl ?_
      refine q_nil ?_
      refine k_then ?_
      refine wc_cond_t rfl ?_
      refine q_skip ?_
      refine k_then ?_
      refine wc_seq ?_
      refine wc_block ?_
      refine wc_seq ?_
      refine wc_regionL ?_
      obtain ⟨⟨a1, a2, Aq, cq, q⟩, hk⟩ : ∃ a, xs[k]? = some a := ⟨_, List.getElem?_eq_getElem (by omega)⟩
      have hxm := List.mem_of_getElem? hk
      refine wl_val (ov_move rfl) rfl rfl rfl ?_
      refine wl_val (ov_move rfl) rfl rfl rfl ?_
      refine wl_step (or_rindex (m := (k)) sl39 rfl rfl hrx (fun _ _ => rfl) hk) rfl rfl rfl ?_
      rintro v _ ⟨rfl, p16, rfl, hp16, hpl16, hph16⟩
      refine wl_step (or_fieldAt fo42_2 rfl hp16) rfl rfl rfl ?_
      rintro v _ ⟨rfl, p17, rfl, hp17, hpb17⟩
      refine wl_val (ov_load oc26 rfl (cell_zero hp17 rfl)) rfl rfl rfl ?_
      refine wl_val (ov_len Try.underlying26 rfl) rfl rfl rfl ?_
      refine wl_val (ov_gtr rfl rfl) rfl rfl rfl ?_
      refine q_nil ?_
      refine k_then ?_
      refine wc_cond_d rfl (fun hc2 => ?_) (fun hc2 => ?_)
      · simp only at hc2
        refine wc_seq ?_
        refine wc_regionL ?_
        refine wl_val (ov_assign rfl) rfl rfl rfl ?_
        refine q_nil ?_
        refine k_then ?_
        refine q_ret ?_
        refine k_blockR ?_
        refine k_thenR ?_
        refine k_thenR ?_
        refine k_blockR ?_
        refine k_thenR ?_
        refine e_ret rfl rfl ?_
        exact ⟨by rw [decide_eq_false]; rintro ⟨_, h⟩; have := h _ hxm; simp only at this; omega, hE⟩
      · simp only at hc2
        refine q_skip ?_
        refine k_block ?_
        refine k_then ?_
        refine wc_regionL ?_
        refine wl_val (ov_move rfl) rfl rfl rfl ?_
        refine wl_val (ov_add rfl rfl (wi64 (by omega) (by omega))) rfl rfl rfl ?_
        refine wl_val (ov_assign rfl) rfl rfl rfl ?_
        refine q_nil ?_
        refine k_loop (k + 1) (by show xs.length - (k + 1) < xs.length - k; omega) (⟨rfl, rfl, trivial⟩) (⟨by omega, by omega, take_all27 hk (by omega) hall, hrx, hE⟩)
    · refine wl_val (ov_pick_t rfl rfl) rfl rfl rfl ?_
      refine q_nil ?_
      refine k_then ?_
      refine wc_cond_f rfl ?_
      refine q_exit ?_
      refine k_thenX ?_
      refine k_thenX ?_
      refine k_blockE ?_
      refine k_then ?_
      refine wc_seq ?_
      refine wc_regionL ?_
      refine wl_val (ov_move rfl) rfl rfl rfl ?_
      refine wl_val (ov_len Try.underlying39 rfl) rfl rfl rfl ?_
      refine wl_val (ov_leq rfl rfl) rfl rfl rfl ?_
      refine wl_val (ov_assign rfl) rfl rfl rfl ?_
      refine q_nil ?_
      refine k_then ?_
      refine q_ret ?_
      refine e_ret rfl rfl ?_
      refine ⟨?_, hE⟩
      congr 1
      rw [decide_eq_decide]
      exact ⟨fun h => by omega, fun h => by have := h.1; omega⟩
  · refine wl_val (ov_move rfl) rfl rfl rfl ?_
    refine wl_gskip rfl rfl rfl rfl rfl rfl ?_
    refine wl_gskip rfl rfl rfl rfl rfl rfl ?_
    refine wl_val (ov_pick_f rfl rfl) rfl rfl rfl ?_
    refine q_nil ?_
    refine k_then ?_
    refine wc_cond_f rfl ?_
    refine q_exit ?_
    refine k_thenX ?_
    refine k_thenX ?_
    refine k_blockE ?_
    refine k_then ?_
    refine wc_seq ?_
    refine wc_regionL ?_
    refine wl_val (ov_move rfl) rfl rfl rfl ?_
    refine wl_val (ov_len Try.underlying39 rfl) rfl rfl rfl ?_
    refine wl_val (ov_leq rfl rfl) rfl rfl rfl ?_
    refine wl_val (ov_assign rfl) rfl rfl rfl ?_
    refine q_nil ?_
    refine k_then ?_
    refine q_ret ?_
    refine e_ret rfl rfl ?_
    refine ⟨?_, hE⟩
    congr 1
    rw [decide_eq_decide]
    rw [List.take_of_length_le (by omega)] at hall
    exact ⟨fun h => ⟨by omega, hall⟩, fun h => by have := h.1; omega⟩

end Go.Proofs.Ytopfjpkjpmdhaaa
