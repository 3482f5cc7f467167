/-
  The contract of few.
-/
import Derived.Test.YtopfjpkjpmdhaaaDi
namespace Go.Proofs.Ytopfjpkjpmdhaaa
open Go.RowKit
set_option linter.unusedVariables false
set_option maxRecDepth 4000
theorem fo83_1 : fieldOff Try.prog 83 1 = some 1 := by kernel_rfl
theorem sl80 : SliceTy Try.prog 80 83 2 32 (.agg #[(.int .i64 0), (.slice none 0 0)]) := sliceTy_mk Try.underlying80 (by kernel_rfl) rfl (by decide)

/-- A call, its cells. -/
abbrev Act06 := Int × Option Addr × Nat × List UInt8
def act06c (x : Act06) : List Value := [.int .i64 x.1, .slice x.2.1 x.2.2.2.length x.2.2.1]
def few06P (xs : List Act06) : Prop := xs.length ≤ 60 ∧ ∀ a ∈ xs, a.2.2.2.length ≤ 300
instance (xs : List Act06) : Decidable (few06P xs) := by unfold few06P; infer_instance
theorem take_all06 {xs : List Act06} {k : Nat} {a1 : Int} {A : Option Addr} {c : Nat} {q : List UInt8} (h : xs[k]? = some (a1, A, c, q)) (hb : q.length ≤ 300) (ha : ∀ f ∈ xs.take k, f.2.2.2.length ≤ 300) : ∀ f ∈ xs.take (k + 1), f.2.2.2.length ≤ 300 := by
  intro f hf
  rw [List.take_add_one, h, List.mem_append] at hf
  rcases hf with hf | hf
  · exact ha f hf
  · simp at hf; subst hf; exact hb
theorem dfeed_len (cl : Bool) (l q : List UInt8) : (dfeed cl l q).length ≤ l.length + q.length := by
  unfold dfeed; split
  · omega
  · simp
theorem dfeed_cl {cl : Bool} {l : List UInt8} (q : List UInt8) (h : cl = true → l = []) : cl = true → dfeed cl l q = [] := fun e => by rw [dfeed, if_pos e]; exact h e
theorem dnext_cl {m : Nat} {cl : Bool} {l : List UInt8} (h : cl = true → l = []) : (dnext m cl l).1 = true → (dnext m cl l).2.1 = [] := by
  cases cl with
  | true => exact fun _ => h rfl
  | false =>
    intro e
    rw [dnext, if_neg (by decide)] at e ⊢
    simp only [decide_eq_true_eq] at e
    simp only
    rw [if_neg (by omega), if_pos e, List.drop_length]
theorem dheld_len {cl : Bool} {l : List UInt8} (h : cl = true → l = []) : (dheld cl l : Int) = (l.length : Int) := by
  unfold dheld; split
  · next e => rw [h e]; rfl
  · rfl
/-- A decoder and the reference's: they hold the same. -/
structure Play06 (b0 : Nat) (w : World) (lo lor hir g : Nat) (D : Option Nat) (m : Nat) (cl : Bool) (l : List UInt8) (A : Option Addr) (c : Nat) : Prop where
  hdec : Dec w lo g D m cl l
  hr : RdB w lor hir A c l
  hhir : hir ≤ w.heap.size
  hlo : lo ≤ w.heap.size
  hsg : g < lor ∨ hir ≤ g
  hsD : ∀ x, D = some x → x < lor ∨ hir ≤ x
  hcl : cl = true → l = []
  hb0 : b0 ≤ g
  hbD : ∀ x, D = some x → b0 ≤ x

theorem few06_any (w : World) (lox hix : Nat) (C : Option Addr) (cx : Nat) (xs : List Act06) (hrx : RdR w lox hix 2 act06c C cx xs) :
    Fn Try.prog 43 #[(.slice C xs.length cx)] w (fun v w' => v = .bool (decide (few06P xs)) ∧ Ext w w')  := by
  replace hrx := hrx.top
  have hE := ext_refl w
  have hcx := hrx.1
  have hcx2 := hrx.2.1
  simp only [maxLen] at hcx2
  refine fn_enter (args := [(.slice C xs.length cx)]) Try.func43 rfl rfl rfl ?_
  show WC _ _ _ _ [(0, (.slice C xs.length cx))] _
  refine wc_seq ?_
  refine wc_regionL ?_
  refine wl_val (ov_assign rfl) rfl rfl rfl ?_
  refine q_nil ?_
  refine k_then ?_
  refine wc_seq ?_
  refine wc_seq ?_
  refine wc_regionL ?_
  refine wl_val (ov_assign rfl) rfl rfl rfl ?_
  refine q_nil ?_
  refine k_then ?_
  refine wc_block ?_
  refine wc_loop (σ := Nat) (fun s => xs.length - s) (fun s => [(0, .slice C xs.length cx), (3, .int .i64 (s : Int))]) (fun s w' => s ≤ xs.length ∧ s ≤ 61 ∧ (∀ a ∈ xs.take s, a.2.2.2.length ≤ 300) ∧ RdR w' lox w.heap.size 2 act06c C cx xs ∧ Ext w w') (0) (⟨Nat.zero_le _, by decide, by simp, hrx, hE⟩) (⟨rfl, rfl, trivial⟩) ?_
  rintro k wq ⟨hk0, hk81, hall, hrx, hE⟩
  show WC _ _ _ _ [(0, (.slice C xs.length cx)), (3, (.int .i64 (↑k : Int)))] _
  have hz_E := hE.size
  refine wc_seq ?_
  refine wc_seq ?_
  refine wc_regionL ?_
  refine wl_val (ov_move rfl) rfl rfl rfl ?_
  refine wl_val (ov_move rfl) rfl rfl rfl ?_
  refine wl_val (ov_len Try.underlying80 rfl) rfl rfl rfl ?_
  refine wl_val (ov_lss rfl rfl) rfl rfl rfl ?_
  refine wl_case_d (d := 7) rfl (fun h7 => ?_) (fun h7 => ?_)
  · refine wl_val (ov_move rfl) rfl rfl rfl ?_
    refine wl_gval (ov_move rfl) rfl rfl rfl rfl rfl ?_
    refine wl_gval (ov_lss rfl rfl) rfl rfl rfl rfl rfl ?_
    refine wl_case_d (d := 10) rfl (fun h10 => ?_) (fun h10 => ?_)
    · refine wl_val (ov_pick_t rfl rfl) rfl rfl rfl ?_
      refine q_nil ?_
      refine k_then ?_
      refine wc_cond_t rfl ?_
      refine q_skip ?_
      refine k_then ?_
      refine wc_seq ?_
      refine wc_block ?_
      refine wc_seq ?_
      refine wc_regionL ?_
      obtain ⟨⟨a1, Aq, cq, q⟩, hk⟩ : ∃ a, xs[k]? = some a := ⟨_, List.getElem?_eq_getElem (by omega)⟩
      have hxm := List.mem_of_getElem? hk
      refine wl_val (ov_move rfl) rfl rfl rfl ?_
      refine wl_val (ov_move rfl) rfl rfl rfl ?_
      refine wl_step (or_rindex (m := (k)) sl80 rfl rfl hrx (fun _ _ => rfl) hk) rfl rfl rfl ?_
      rintro v _ ⟨rfl, p16, rfl, hp16, hpl16, hph16⟩
      refine wl_step (or_fieldAt fo83_1 rfl hp16) rfl rfl rfl ?_
      rintro v _ ⟨rfl, p17, rfl, hp17, hpb17⟩
      refine wl_val (ov_load oc26 rfl (cell_zero hp17 rfl)) rfl rfl rfl ?_
      refine wl_val (ov_len Try.underlying26 rfl) rfl rfl rfl ?_
      refine wl_val (ov_gtr rfl rfl) rfl rfl rfl ?_
      refine q_nil ?_
      refine k_then ?_
      refine wc_cond_d rfl (fun hc2 => ?_) (fun hc2 => ?_)
      · simp only at hc2
        refine wc_seq ?_
        refine wc_regionL ?_
        refine wl_val (ov_assign rfl) rfl rfl rfl ?_
        refine q_nil ?_
        refine k_then ?_
        refine q_ret ?_
        refine k_blockR ?_
        refine k_thenR ?_
        refine k_thenR ?_
        refine k_blockR ?_
        refine k_thenR ?_
        refine e_ret rfl rfl ?_
        exact ⟨by rw [decide_eq_false]; rintro ⟨_, h⟩; have := h _ hxm; simp only at this; omega, hE⟩
      · simp only at hc2
        refine q_skip ?_
        refine k_block ?_
        refine k_then ?_
        refine wc_regionL ?_
        refine wl_val (ov_move rfl) rfl rfl rfl ?_
        refine wl_val (ov_add rfl rfl (wi64 (by omega) (by omega))) rfl rfl rfl ?_
        refine wl_val (ov_assign rfl) rfl rfl rfl ?_
        refine q_nil ?_
        refine k_loop (k + 1) (by show xs.length - (k + 1) < xs.length - k; omega) (⟨rfl, rfl, trivial⟩) (⟨by omega, by omega, take_all06 hk (by omega) hall, hrx, hE⟩)
    · refine wl_val (ov_pick_t rfl rfl) rfl rfl rfl ?_
      refine q_nil ?_
      refine k_then ?_
      refine wc_cond_f rfl ?_
      refine q_exit ?_
      refine k_thenX ?_
      refine k_thenX ?_
      refine k_blockE ?_
      refine k_then ?_
      refine wc_seq ?_
      refine wc_regionL ?_
      refine wl_val (ov_move rfl) rfl rfl rfl ?_
      refine wl_val (ov_len Try.underlying80 rfl) rfl rfl rfl ?_
      refine wl_val (ov_leq rfl rfl) rfl rfl rfl ?_
      refine wl_val (ov_assign rfl) rfl rfl rfl ?_
      refine q_nil ?_
      refine k_then ?_
      refine q_ret ?_
      refine e_ret rfl rfl ?_
      refine ⟨?_, hE⟩
      congr 1
      rw [decide_eq_decide]
      exact ⟨fun h => by omega, fun h => by have := h.1; omega⟩
  · refine wl_val (ov_move rfl) rfl rfl rfl ?_
    refine wl_gskip rfl rfl rfl rfl rfl rfl ?_
    refine wl_gskip rfl rfl rfl rfl rfl rfl ?_
    refine wl_val (ov_pick_f rfl rfl) rfl rfl rfl ?_
    refine q_nil ?_
    refine k_then ?_
    refine wc_cond_f rfl ?_
    refine q_exit ?_
    refine k_thenX ?_
    refine k_thenX ?_
    refine k_blockE ?_
    refine k_then ?_
    refine wc_seq ?_
    refine wc_regionL ?_
    refine wl_val (ov_move rfl) rfl rfl rfl ?_
    refine wl_val (ov_len Try.underlying80 rfl) rfl rfl rfl ?_
    refine wl_val (ov_leq rfl rfl) rfl rfl rfl ?_
    refine wl_val (ov_assign rfl) rfl rfl rfl ?_
    refine q_nil ?_
    refine k_then ?_
    refine q_ret ?_
    refine e_ret rfl rfl ?_
    refine ⟨?_, hE⟩
    congr 1
    rw [decide_eq_decide]
    rw [List.take_of_length_le (by omega)] at hall
    exact ⟨fun h => ⟨by omega, hall⟩, fun h => by have := h.1; omega⟩

end Go.Proofs.Ytopfjpkjpmdhaaa
