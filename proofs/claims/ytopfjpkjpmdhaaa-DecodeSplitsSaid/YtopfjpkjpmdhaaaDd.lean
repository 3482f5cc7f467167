/-
  All that comes of bytes; what Next panics with, and what recovers it.
-/
import Derived.Test.YtopfjpkjpmdhaaaDc
import Derived.Test.YtopfjpkjpmdhaaaPan
import Derived.Test.YtopfjpkjpmdhaaaItems
namespace Go.Proofs.Ytopfjpkjpmdhaaa
open Go.RowKit
set_option linter.unusedVariables false
set_option maxRecDepth 4000
theorem cl37 : callable Try.prog 37 = true := by kernel_rfl
theorem pl118 : placesOf Try.prog 118 = some [] := by kernel_rfl
theorem ze118 : zeroOf Try.prog 118 = some (.agg #[]) := by kernel_rfl

def dmeas (cl : Bool) (l : List UInt8) : Nat := if cl = true then 0 else l.length + 1
/-- All that comes of bytes: the frames, the errors. -/
def dallF (m : Nat) : Nat → Bool → List UInt8 → List ((UInt8 × List UInt8) × Nat)
  | 0, _, _ => []
  | n + 1, cl, l => if (dnext m cl l).2.2.2 = 4 ∨ (dnext m cl l).2.2.2 = 14 then [] else ((dnext m cl l).2.2.1, (dnext m cl l).2.2.2) :: dallF m n (dnext m cl l).1 (dnext m cl l).2.1
theorem dnext_less {m : Nat} {cl : Bool} {l : List UInt8} (hm : m ≤ 2097152) (h : ¬ ((dnext m cl l).2.2.2 = 4 ∨ (dnext m cl l).2.2.2 = 14)) : dmeas (dnext m cl l).1 (dnext m cl l).2.1 < dmeas cl l := by
  cases cl with
  | true => exact absurd (.inr rfl) h
  | false =>
    have hp := fread_props l (m : Int)
    rcases fread_cases l hm with ⟨h1, h2⟩ | ⟨h1, _⟩ | ⟨h1, _, _, h4⟩ | ⟨h1, _, _, h4⟩
    · rw [dnext_o (by omega) (by omega)]; simp [dmeas]; omega
    · rw [dnext_o (by omega) (by omega)] at h; exact absurd (.inl h1) h
    · rw [dnext_5 h1]; simp [dmeas]
    · rw [dnext_6 h1]; simp [dmeas]; omega
theorem dallF_eq {m : Nat} (hm : m ≤ 2097152) : ∀ (n k : Nat) (cl : Bool) (l : List UInt8), dmeas cl l < n → dmeas cl l < k → dallF m n cl l = dallF m k cl l
  | 0, _, _, _, h, _ => by omega
  | _, 0, _, _, _, h => by omega
  | n + 1, k + 1, cl, l, h1, h2 => by
    rw [dallF, dallF]
    by_cases h : (dnext m cl l).2.2.2 = 4 ∨ (dnext m cl l).2.2.2 = 14
    · rw [if_pos h, if_pos h]
    · have := dnext_less hm h
      rw [if_neg h, if_neg h, dallF_eq hm n k _ _ (by omega) (by omega)]
def dall (m : Nat) (cl : Bool) (l : List UInt8) : List ((UInt8 × List UInt8) × Nat) := dallF m (dmeas cl l + 1) cl l
theorem dall_end {m : Nat} {cl : Bool} {l : List UInt8} (h : (dnext m cl l).2.2.2 = 4 ∨ (dnext m cl l).2.2.2 = 14) : dall m cl l = [] := by rw [dall, dallF, if_pos h]
theorem dall_cons {m : Nat} {cl : Bool} {l : List UInt8} (hm : m ≤ 2097152) (h : ¬ ((dnext m cl l).2.2.2 = 4 ∨ (dnext m cl l).2.2.2 = 14)) : dall m cl l = ((dnext m cl l).2.2.1, (dnext m cl l).2.2.2) :: dall m (dnext m cl l).1 (dnext m cl l).2.1 := by
  have := dnext_less hm h
  rw [dall, dallF, if_neg h, dall, dallF_eq hm _ (dmeas (dnext m cl l).1 (dnext m cl l).2.1 + 1) _ _ (by omega) (by omega)]
theorem dall_len {m : Nat} (hm : m ≤ 2097152) : ∀ (n : Nat) (cl : Bool) (l : List UInt8), dmeas cl l ≤ n → (dall m cl l).length ≤ dmeas cl l := by
  intro n
  induction n with
  | zero =>
    intro cl l h
    by_cases hb : (dnext m cl l).2.2.2 = 4 ∨ (dnext m cl l).2.2.2 = 14
    · rw [dall_end hb]; simp
    · have := dnext_less hm hb; omega
  | succ n ih =>
    intro cl l h
    by_cases hb : (dnext m cl l).2.2.2 = 4 ∨ (dnext m cl l).2.2.2 = 14
    · rw [dall_end hb]; simp
    · have hl := dnext_less hm hb
      rw [dall_cons hm hb]
      have := ih _ _ (show dmeas (dnext m cl l).1 (dnext m cl l).2.1 ≤ n by omega)
      simp only [List.length_cons]
      omega
theorem dnext_short (m : Nat) (cl : Bool) (l : List UInt8) : (dnext m cl l).2.1.length ≤ l.length := by
  unfold dnext
  split
  · exact Nat.le_refl _
  · simp
/-- A frame that came, with its error. -/
abbrev Got := (UInt8 × Option Addr × Nat × List UInt8) × Nat
def gotc (y : Got) : List Value := [.int .u8 (y.1.1.toNat : Int), .slice y.1.2.1 y.1.2.2.2.length y.1.2.2.1]
def gote (y : Got) : Value := .int .i64 (y.2 : Int)
def gotv (y : Got) : (UInt8 × List UInt8) × Nat := ((y.1.1, y.1.2.2.2), y.2)
/-- The payloads lie in rows of their own. -/
def FL (w : World) (base : Nat) (ys : List Got) : Prop := ∀ y ∈ ys, OwnB w base 5 y.1.2.1 y.1.2.2.1 y.1.2.2.2
section
variable {w w' : World} {base : Nat} {ys : List Got}
theorem FL.ext (h : FL w base ys) (he : Ext w w') : FL w' base ys := fun y hy => Own.ext (h y hy) he
theorem FL.rt {B : Nat} {ts : List Nat} (h : FL w base ys) (k : RT B ts w w') (he : 5 ∉ ts) : FL w' base ys := fun y hy => k.own (h y hy) he
theorem FL.ch {g : Nat} {D : Option Nat} (h : FL w base ys) (k : Ch g D w w') (hg : g < base) (hD : ∀ x, D = some x → x < base) : FL w' base ys := fun y hy => k.own (h y hy) fun x e => ⟨by have := Own.lt (h y hy) e; omega, fun e2 => by have h1 := Own.lt (h y hy) e; have h2 := hD x e2; omega⟩
theorem FL.gr {g : Nat} {t : TypeId} {cs : List Value} (h : FL w base ys) (hg : Gr w w' (some g)) (hb : Blk w g t cs) (ht : 5 ≠ t) : FL w' base ys := fun y hy => Own.gr (h y hy) hg (.inr (own_blk_ne (h y hy) hb ht))
theorem FL.own {lo size n c : Nat} {e : TypeId} {A : Option Addr} {xs : List Value} (h : FL w base ys) (hg : Gr w w' (blk A)) (ho : Own w lo e size A n c xs) (ht : e ≠ 5) : FL w' base ys := fun y hy => Own.gr (h y hy) hg (own_own_ne (h y hy) ho ht)
theorem FL.snoc {y : Got} (h : FL w base ys) (hy : OwnB w base 5 y.1.2.1 y.1.2.2.1 y.1.2.2.2) : FL w base (ys ++ [y]) := fun z hz => by
  rcases List.mem_append.1 hz with hz | hz
  · exact h z hz
  · simp at hz; subst hz; exact hy
end
theorem Dec.rt {w w' : World} {lo g m B : Nat} {D : Option Nat} {cl : Bool} {l : List UInt8} {ts : List Nat} (h : Dec w lo g D m cl l) (k : RT B ts w w') (h1 : 91 ∉ ts) (h2 : 5 ∉ ts) : Dec w' lo g D m cl l := by
  obtain ⟨A, c, hD, hb, ho, r⟩ := h
  exact ⟨A, c, hD, k.bk hb h1, k.ownT ho h2, r⟩
theorem Dec.sto {w w' : World} {lo g m z : Nat} {D : Option Nat} {cl : Bool} {l : List UInt8} {t : TypeId} {cs : List Value} (h : Dec w lo g D m cl l) (hg : Gr w w' (some z)) (hb : Blk w z t cs) (h1 : 91 ≠ t) (h2 : 5 ≠ t) : Dec w' lo g D m cl l := by
  obtain ⟨A, c, rfl, hb2, ho, r⟩ := h
  refine ⟨A, c, rfl, hb2.gr hg (fun e => ?_), ho.gr hg (.inr (ho.ne hb h2)), r⟩
  cases e
  have := hb2.symm.trans hb
  simp only [Option.some.injEq, Obj.cells.injEq] at this
  exact h1 this.2.1

theorem dmust_ok (w : World) (lo g : Nat) (D : Option Nat) (m : Nat) (cl : Bool) (l : List UInt8) (hdec : Dec w lo g D m cl l) (hl40 : l.length ≤ 1099511627776) :
    FnP Try.prog 68 #[(.pointer (some ⟨g, 0, none⟩))] w (fun v w' => ¬ ((dnext m cl l).2.2.2 = 4 ∨ (dnext m cl l).2.2.2 = 14) ∧ ∃ B c2, v = .tuple #[.agg #[.int .u8 ((dnext m cl l).2.2.1.1.toNat : Int), .slice B (dnext m cl l).2.2.1.2.length c2], .int .i64 ((dnext m cl l).2.2.2 : Int)] ∧ OwnB w' w.heap.size 5 B c2 (dnext m cl l).2.2.1.2 ∧ Dec w' lo g D m (dnext m cl l).1 (dnext m cl l).2.1 ∧ Ch g D w w') (fun ch w' => ch = [{ v := .iface 118 (.agg #[]), recovered := false }] ∧ ((dnext m cl l).2.2.2 = 4 ∨ (dnext m cl l).2.2.2 = 14) ∧ Dec w' lo g D m (dnext m cl l).1 (dnext m cl l).2.1 ∧ Ch g D w w') := by
  have hDs : ∀ x, D = some x → lo ≤ x ∧ x < w.heap.size := fun x e => hdec.lt.2 x e
  have hzb := hdec.lt.1
  have hcp := hdec.cap
  have hC := Ch.refl g D w
  refine fnP_enter (args := [(.pointer (some ⟨g, 0, none⟩))]) Try.func68 rfl rfl rfl ?_
  show WC _ _ _ _ [(0, (.pointer (some ⟨g, 0, none⟩)))] _
  refine wc_seq ?_
  refine wc_regionL ?_
  refine wl_step (or_alloc (cs := [(.int .u8 0), (.slice none 0 0)]) ze72 rfl) rfl rfl rfl ?_
  rintro v w1 ⟨g2, rfl, hb_g2, he2, hl2, hu2⟩
  replace hdec := hdec.ext he2
  replace hC := hC.ext he2
  have hz_he2 := he2.size
  refine wl_val (ov_assign rfl) rfl rfl rfl ?_
  refine q_nil ?_
  refine k_then ?_
  refine wc_seq ?_
  refine wc_regionL ?_
  refine wl_val (ov_move rfl) rfl rfl rfl ?_
  refine wl_step (or_call0 cl37 rfl rfl (dnext_ok _ lo g D m cl l hdec (by first | omega | (simp; done)))) rfl rfl rfl ?_
  rintro v w2 ⟨A8, c8, rfl, ho8, hb8, hC8⟩
  have hDa8 : ∀ x, D = some x → (lo ≤ x ∧ x < w.heap.size) ∧ x < w1.heap.size := fun x e => ⟨hDs x e, (hdec.lt.2 x e).2⟩
  have hz_hC8 := hC8.size
  replace hC := hC.tr hC8 (fun x e => by first | exact .inl e | (right; have := hDa8 x e; omega))
  replace hb_g2 := hC8.bk hb_g2 (by omega) (fun e2 => by have := hDa8 _ e2; omega)
  have hzb8 := hb8.lt.1
  have hcp8 := hb8.cap
  have hq_ho8 := fun g e => Own.lt ho8 (g := g) e
  refine wl_val (ov_move rfl) rfl rfl rfl ?_
  refine wl_val (ov_extract rfl rfl) rfl rfl rfl ?_
  refine wl_val (ov_extract rfl rfl) rfl rfl rfl ?_
  refine wl_step (or_alloc (cs := [(.int .u8 0), (.slice none 0 0)]) ze72 rfl) rfl rfl rfl ?_
  rintro v w3 ⟨g4, rfl, hb_g4, he4, hl4, hu4⟩
  replace hC := hC.ext he4
  replace hb_g2 := hb_g2.ext he4
  replace hb8 := hb8.ext he4
  replace ho8 := Own.ext ho8 he4
  have hz_he4 := he4.size
  refine wl_step0 (or_storeBlk (vs := [(.int .u8 (↑(dnext m cl l).2.2.1.1.toNat : Int)), (.slice A8 (dnext m cl l).2.2.1.2.length c8)]) sz72 rfl rfl (by simp [Value.oneCell']) hb_g4 rfl) rfl rfl ?_
  rintro _ w4 ⟨hN4, hg4⟩
  have hz_hg4 := hg4.size
  replace hC := hC.gr2 hg4 (fun x e => by cases e; first | exact .inl rfl | (right; right; omega))
  replace hb_g2 := hb_g2.gr hg4 (by intro e; cases e; omega)
  replace hb8 := hb8.gr hg4 (fun x e => by cases e; omega) (fun x e e2 => by cases e; have := hDs _ e2; omega)
  replace ho8 := Own.gr ho8 hg4 (by first | exact .inl rfl | (right; intro e; first | (have := hq_ho8 _ e; omega) | (have := Own.lt ho8 e; omega) | exact own_blk_ne ho8 hb_g4 (by decide) e))
  replace hb_g4 := hN4
  refine wl_val (ov_assign rfl) rfl rfl rfl ?_
  refine q_nil ?_
  refine k_then ?_
  refine wc_seq ?_
  refine wc_seq ?_
  refine wc_regionL ?_
  refine wl_val (ov_move rfl) rfl rfl rfl ?_
  refine wl_val (ov_eql rfl rfl) rfl rfl rfl ?_
  refine wl_case_d (d := 12) rfl (fun h4 => ?_) (fun h4 => ?_)
  · refine wl_val (ov_move rfl) rfl rfl rfl ?_
    refine wl_gskip rfl rfl rfl rfl rfl rfl ?_
    refine wl_gskip rfl rfl rfl rfl rfl rfl ?_
    refine wl_val (ov_pick_t rfl rfl) rfl rfl rfl ?_
    refine q_nil ?_
    refine k_then ?_
    refine wc_cond_t rfl ?_
    refine wc_regionL ?_
    refine wl_val (ov_build (cs := []) ze118 pl118 rfl rfl) rfl rfl rfl ?_
    refine wl_val (ov_mkIface Try.underlying118 (fun _ h => by cases h) rfl) rfl rfl rfl ?_
    refine wl_panicI rfl ?_
    refine k_thenP ?_
    exact e_panP ⟨rfl, by omega, hb8, hC⟩
  · refine wl_val (ov_move rfl) rfl rfl rfl ?_
    refine wl_gval (ov_move rfl) rfl rfl rfl rfl rfl ?_
    refine wl_gval (ov_eql rfl rfl) rfl rfl rfl rfl rfl ?_
    refine wl_case_d (d := 15) rfl (fun h14 => ?_) (fun h14 => ?_)
    · refine wl_val (ov_pick_f rfl rfl) rfl rfl rfl ?_
      refine q_nil ?_
      refine k_then ?_
      refine wc_cond_t rfl ?_
      refine wc_regionL ?_
      refine wl_val (ov_build (cs := []) ze118 pl118 rfl rfl) rfl rfl rfl ?_
      refine wl_val (ov_mkIface Try.underlying118 (fun _ h => by cases h) rfl) rfl rfl rfl ?_
      refine wl_panicI rfl ?_
      refine k_thenP ?_
      exact e_panP ⟨rfl, by omega, hb8, hC⟩
    · refine wl_val (ov_pick_f rfl rfl) rfl rfl rfl ?_
      refine q_nil ?_
      refine k_then ?_
      refine wc_cond_f rfl ?_
      refine q_skip ?_
      refine k_then ?_
      refine wc_seq ?_
      refine wc_regionL ?_
      refine wl_val (ov_loadBlk (cs := [(.int .u8 (↑(dnext m cl l).2.2.1.1.toNat : Int)), (.slice A8 (dnext m cl l).2.2.1.2.length c8)]) ag72_2 rfl hb_g4) rfl rfl rfl ?_
      refine wl_val (ov_move rfl) rfl rfl rfl ?_
      refine wl_step0 (or_storeBlk (vs := [(.int .u8 (↑(dnext m cl l).2.2.1.1.toNat : Int)), (.slice A8 (dnext m cl l).2.2.1.2.length c8)]) sz72 rfl rfl (by simp [Value.oneCell']) hb_g2 rfl) rfl rfl ?_
      rintro _ w205 ⟨hN205, hg205⟩
      have hz_hg205 := hg205.size
      replace hC := hC.gr2 hg205 (fun x e => by cases e; first | exact .inl rfl | (right; right; omega))
      replace hb8 := hb8.gr hg205 (fun x e => by cases e; omega) (fun x e e2 => by cases e; have := hDs _ e2; omega)
      replace ho8 := Own.gr ho8 hg205 (by first | exact .inl rfl | (right; intro e; first | (have := hq_ho8 _ e; omega) | (have := Own.lt ho8 e; omega) | exact own_blk_ne ho8 hb_g2 (by decide) e))
      replace hb_g4 := hb_g4.gr hg205 (by intro e; cases e; omega)
      replace hb_g2 := hN205
      refine wl_val (ov_assign rfl) rfl rfl rfl ?_
      refine q_nil ?_
      refine k_then ?_
      refine q_ret ?_
      refine e_retLP (rs := [.cell 2 72, .tmp 3]) (vs := [.agg #[(.int .u8 (↑(dnext m cl l).2.2.1.1.toNat : Int)), (.slice A8 (dnext m cl l).2.2.1.2.length c8)], (.int .i64 (↑(dnext m cl l).2.2.2 : Int))]) rfl ⟨⟨_, _, [(.int .u8 (↑(dnext m cl l).2.2.1.1.toNat : Int)), (.slice A8 (dnext m cl l).2.2.1.2.length c8)], rfl, ag72_2, hb_g2, rfl⟩, rfl, trivial⟩ ?_
      exact ⟨by omega, _, _, rfl, Own.mono ho8 (by omega), hb8, hC⟩

theorem colrec (w : World) : CallsD Try.prog 67 #[] (.panicking [{ v := .iface 118 (.agg #[]), recovered := false }]) w fun e u w' =>
    e = .returned (.tuple #[]) ∧ u = .panicking [{ v := .iface 118 (.agg #[]), recovered := true }] ∧ w' = w := by
  have h1 : ∀ w, (binOp .neq 20 (.iface 118 (.agg #[])) .nilIface).run Try.prog w = .ok (.bool true) w := fun w => by kernel_rfl
  have h2 : ∀ w, (binOp .neq 20 (.iface 118 (.agg #[])) (.iface 118 (.agg #[]))).run Try.prog w = .ok (.bool false) w := fun w => by kernel_rfl
  have hz : (zeroValue 118).run Try.prog w = .ok (.agg #[]) w := by kernel_rfl
  have hm : (Instr.makeInterface 118 (.agg #[])).run Try.prog w = .ok (.iface 118 (.agg #[])) w := by kernel_rfl
  have hbu : (Instr.build 118 #[]).run Try.prog w = .ok (.agg #[]) w := by kernel_rfl
  refine callsD_of_wpS Try.func67 rfl fun c₀ cs hu => ?_
  apply wpS_seq
  apply wpS_region
  simp [wpOpsS, go_sem, recoverD, hu, Try.ntmps67, Exit.thenS]
  apply wpS_seq
  apply wpS_region
  simp [wpOpsS, go_sem, Exit.thenS, h1, h2, hz, hm, hbu, yielded, Region.wanted]
  refine wpS_cond (t := false) (by simp [Act.eval, Array.replicate]) ?_
  simp only [Bool.false_eq_true, if_false]
  refine wpS_of_wp (wp_skip ?_)
  cases c₀
  simp_all [bodyPostS, results, Try.results67]

end Go.Proofs.Ytopfjpkjpmdhaaa
