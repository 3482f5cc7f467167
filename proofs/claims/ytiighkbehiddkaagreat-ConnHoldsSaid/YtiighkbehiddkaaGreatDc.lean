/-
 The contracts of the decoder.
-/
import Derived.Test.YtiighkbehiddkaaGreatFr
import Derived.Test.YtiighkbehiddkaaGreatTail
namespace Go.Proofs.YtiighkbehiddkaaGreat
open Go.RowKit
set_option linter.unusedVariables false
set_option maxRecDepth 4000
theorem cl64 : callable Tryz.prog 64 = true := by kernel_rfl
theorem cl85 : callable Tryz.prog 85 = true := by kernel_rfl
theorem fo122_0 : fieldOff Tryz.prog 122 0 = some 0 := by kernel_rfl
theorem fo122_1 : fieldOff Tryz.prog 122 1 = some 1 := by kernel_rfl
theorem fo122_2 : fieldOff Tryz.prog 122 2 = some 2 := by kernel_rfl
theorem fo122_3 : fieldOff Tryz.prog 122 3 = some 3 := by kernel_rfl
theorem oc3 : oneCellTy Tryz.prog 3 = true := by kernel_rfl
theorem oc4 : oneCellTy Tryz.prog 4 = true := by kernel_rfl
theorem pl122 : placesOf Tryz.prog 122 = some [(0, 1), (1, 1), (2, 1), (3, 1)] := by kernel_rfl
theorem sz32 : (Tryz.prog.info? 32).map (·.size) = some 1 := by kernel_rfl
theorem sz4 : (Tryz.prog.info? 4).map (·.size) = some 1 := by kernel_rfl
theorem ze122 : zeroOf Tryz.prog 122 = some (.agg #[(.bool false), (.bool false), (.int .i64 0), (.slice none 0 0)]) := by kernel_rfl
/-- A decoder's cells. -/
abbrev decc (m : Nat) (cl : Bool) (A : Option Addr) (c : Nat) (l : List UInt8) : List Value := [.bool true, .bool cl, .int .i64 (m : Int), .slice A l.length c]
/-- The block g holds a decoder: its maximum, whether it is closed, the bytes that it holds, their row. -/
def Dec (w : World) (lo g : Nat) (D : Option Nat) (m : Nat) (cl : Bool) (l : List UInt8) : Prop :=
 ∃ A c, D = blk A ∧ Blk w g 122 (decc m cl A c l) ∧ OwnT w lo 5 A c l ∧ m ≤ 2097152
section
variable {w w' : World} {lo lo' g m : Nat} {D : Option Nat} {cl : Bool} {l : List UInt8}
theorem Dec.ext (h : Dec w lo g D m cl l) (he : Ext w w') : Dec w' lo g D m cl l := by
 obtain ⟨A, c, hD, hb, ho, r⟩ := h
 exact ⟨A, c, hD, hb.ext he, ho.ext he, r⟩
theorem Dec.mono (h : Dec w lo g D m cl l) (hl : lo' ≤ lo) : Dec w lo' g D m cl l := by
 obtain ⟨A, c, hD, hb, ho, r⟩ := h
 exact ⟨A, c, hD, hb, ho.mono hl, r⟩
theorem Dec.lt (h : Dec w lo g D m cl l) : g < w.heap.size ∧ ∀ x, D = some x → lo ≤ x ∧ x < w.heap.size := by
 obtain ⟨A, c, rfl, hb, ho, r⟩ := h
 exact ⟨hb.lt, fun x e => ho.lt e⟩
theorem Dec.cap (h : Dec w lo g D m cl l) : m ≤ 2097152 := by
 obtain ⟨A, c, rfl, hb, ho, r⟩ := h
 exact r
theorem Dec.ne (h : Dec w lo g D m cl l) : D ≠ some g := by
 obtain ⟨A, c, rfl, hb, ho, r⟩ := h
 exact ho.ne hb (by decide)
theorem Dec.ch {g2 : Nat} {D2 : Option Nat} (h : Dec w lo g D m cl l) (k : Ch g2 D2 w w') (h1 : g ≠ g2) (h2 : D2 ≠ some g) (h3 : D ≠ some g2) (h4 : ∀ x, D = some x → D2 ≠ some x) : Dec w' lo g D m cl l := by
 obtain ⟨A, c, rfl, hb, ho, r⟩ := h
 exact ⟨A, c, rfl, k.bk hb h1 h2, k.ownT ho (fun x e => ⟨fun e2 => h3 (e2 ▸ e), h4 x e⟩), r⟩
theorem Dec.gr {row : Option Nat} (h : Dec w lo g D m cl l) (hg : Gr w w' row) (h1 : ∀ x, row = some x → x ≠ g) (h2 : ∀ x, row = some x → D ≠ some x) : Dec w' lo g D m cl l := by
 obtain ⟨A, c, rfl, hb, ho, r⟩ := h
 exact ⟨A, c, rfl, hb.gr hg (fun e => h1 g e rfl), ho.same (fun x e => hg.block x (ho.lt e).2 (fun e2 => h2 x e2.symm e)), r⟩
theorem Dec.kp {gs : List Nat} (h : Dec w lo g D m cl l) (hk : Kp gs w w') (h1 : g ∉ gs) (h2 : ∀ x, D = some x → x ∉ gs) : Dec w' lo g D m cl l := by
 obtain ⟨A, c, rfl, hb, ho, r⟩ := h
 exact ⟨A, c, rfl, hk.bk hb h1, hk.ownT ho h2, r⟩
end
theorem fread_cases (l : List UInt8) {m : Nat} (hm : m ≤ 2097152) :
  ((fread l (m : Int)).2.2 = 0 ∧ 1 ≤ (fread l (m : Int)).2.1) ∨ ((fread l (m : Int)).2.2 = 4 ∧ (fread l (m : Int)).1 = (0, []) ∧ (fread l (m : Int)).2.1 = 0 ∧ ((vget l).2.2 = 4 ∨ ((vget l).2.2 = 0 ∧ (vget l).1 ≤ m + 1))) ∨
  ((fread l (m : Int)).2.2 = 5 ∧ (fread l (m : Int)).1 = (0, []) ∧ (fread l (m : Int)).2.1 = 0 ∧ 1 ≤ l.length) ∨ ((fread l (m : Int)).2.2 = 6 ∧ (fread l (m : Int)).1 = (0, []) ∧ (fread l (m : Int)).2.1 = 0 ∧ 1 ≤ l.length) := by
 have h0 : (0 : Int) ≤ (m : Int) ∧ (m : Int) ≤ 2097152 := by omega
 have he := vget_err l
 have hs := vget_size l
 have hok := vget_ok l
 by_cases h1 : (vget l).2.2 = 4
 ·rw [fread_short0 h0 h1]; exact .inr (.inl ⟨rfl, rfl, rfl, .inl h1⟩)
 ·have hl1 : 1 ≤ l.length := by
   rcases Nat.eq_zero_or_pos l.length with h | h
   ·have hl := List.eq_nil_of_length_eq_zero h
    subst hl
    exact absurd (by decide) h1
   ·exact h
  by_cases h2 : (vget l).2.2 ≠ 0 ∨ (m : Int) + 1 < ((vget l).1 : Int)
  ·rw [fread_long h0 h1 h2]; exact .inr (.inr (.inl ⟨rfl, rfl, rfl, hl1⟩))
  ·have h3 : (vget l).2.2 = 0 := by omega
   have h4 : ¬ (m : Int) + 1 < ((vget l).1 : Int) := fun h => h2 (.inr h)
   by_cases h5 : (vget l).1 = 0
   ·rw [fread_fmt h0 h3 h5]; exact .inr (.inr (.inr ⟨rfl, rfl, rfl, hl1⟩))
   ·by_cases h6 : l.length - (vget l).2.1 < (vget l).1
    ·rw [fread_short h0 h3 h4 h5 h6]; exact .inr (.inl ⟨rfl, rfl, rfl, .inr ⟨h3, by omega⟩⟩)
    ·rw [fread_ok h0 h3 h4 h5 h6]; exact .inl ⟨rfl, by show 1 ≤ (vget l).2.1 + _; have := hok h3; omega⟩
/-- A decoder's error ahead of all else. -/
def dchk (cl : Bool) : Nat := if cl = true then 14 else 0
/-- What Next does: closed behind it, the bytes that are left, the frame, the error. -/
def dnext (m : Nat) (cl : Bool) (l : List UInt8) : Bool × List UInt8 × (UInt8 × List UInt8) × Nat :=
 if cl = true then (true, l, (0, []), 14) else
  (decide ((fread l (m : Int)).2.2 = 5), l.drop (if (fread l (m : Int)).2.2 = 6 then 1 else if (fread l (m : Int)).2.2 = 5 then l.length else (fread l (m : Int)).2.1), (fread l (m : Int)).1, (fread l (m : Int)).2.2)
theorem dnext_6 {m : Nat} {l : List UInt8} (h : (fread l (m : Int)).2.2 = 6) : dnext m false l = (false, l.drop 1, (fread l (m : Int)).1, (fread l (m : Int)).2.2) := by
 rw [dnext, if_neg (by decide), if_pos h, h]; rfl
theorem dnext_5 {m : Nat} {l : List UInt8} (h : (fread l (m : Int)).2.2 = 5) : dnext m false l = (true, l.drop l.length, (fread l (m : Int)).1, (fread l (m : Int)).2.2) := by
 rw [dnext, if_neg (by decide), if_neg (by omega), if_pos h, h]; rfl
theorem dnext_o {m : Nat} {l : List UInt8} (h : ¬ (fread l (m : Int)).2.2 = 6) (h' : ¬ (fread l (m : Int)).2.2 = 5) : dnext m false l = (false, l.drop (fread l (m : Int)).2.1, (fread l (m : Int)).1, (fread l (m : Int)).2.2) := by
 rw [dnext, if_neg (by decide), if_neg h, if_neg h', decide_eq_false h']
def dfeed (cl : Bool) (l q : List UInt8) : List UInt8 := if cl = true then l else l ++ q
def dheld (cl : Bool) (l : List UInt8) : Nat := if cl = true then 0 else l.length
theorem dcheck_ok (w : World) (g m : Nat) (cl : Bool) (A : Option Addr) (c : Nat) (l : List UInt8) (hb_g : Blk w g 122 (decc m cl A c l)) :
  Fn Tryz.prog 64 #[(.pointer (some ⟨g, 0, none⟩))] w (fun v w' => v = .int .i64 (dchk cl : Int) ∧ w' = w)  := by
 refine fn_enter (args := [(.pointer (some ⟨g, 0, none⟩))]) Tryz.func64 rfl rfl rfl ?_
 show WC _ _ _ _ [(0, (.pointer (some ⟨g, 0, none⟩)))] _
 refine wc_seq (wc_regionL ?_)
 refine va rfl rfl ?_
 refine q_nil (k_then (wc_seq (wc_block (wc_seq (wc_regionL ?_)))))
 refine vm rfl rfl ?_
 refine wl_val (ov_nilptr Tryz.underlying55 rfl) rfl rfl rfl ?_
 refine vm rfl rfl ?_
 refine wl_gval (ov_move rfl) rfl rfl rfl rfl rfl ?_
 refine wl_gval (ov_nilCheck rfl) rfl rfl rfl rfl rfl ?_
 refine wl_gval (ov_field0 (off := 0) fo122_0 rfl) rfl rfl rfl rfl rfl ?_
 refine wl_gval (ov_loadAt oc4 rfl hb_g rfl) rfl rfl rfl rfl rfl ?_
 refine wl_gval (ov_not (b := true) rfl) rfl rfl rfl rfl rfl ?_
 refine wl_spell (d := 11) rfl (v' := (.bool false)) (rfl) ?_
 refine wl_val (ov_pick_f rfl rfl) rfl rfl rfl ?_
 refine va rfl rfl ?_
 refine q_nil (k_then ?_)
 refine wc_cond_f rfl ?_
 refine wc_seq (wc_regionL ?_)
 refine vm rfl rfl ?_
 refine vn rfl rfl ?_
 refine wl_val (ov_field0 (off := 1) fo122_1 rfl) rfl rfl rfl ?_
 refine wl_val (ov_loadAt oc4 rfl hb_g rfl) rfl rfl rfl ?_
 refine va rfl rfl ?_
 refine q_nil (k_then ?_)
 refine wc_cond rfl (fun hc2 => ?_) (fun hc2 => ?_)
 ·refine wc_seq (wc_regionL ?_)
  refine va rfl rfl ?_
  refine q_nil (k_then (q_ret (k_blockR (k_thenR ?_))))
  refine e_ret rfl rfl ?_
  subst hc2
  exact ⟨rfl, rfl⟩
 ·refine q_skip (k_block (k_then (wc_seq (wc_regionL ?_))))
  refine va rfl rfl ?_
  refine q_nil (k_then (q_ret ?_))
  refine e_ret rfl rfl ?_
  subst hc2
  exact ⟨rfl, rfl⟩
theorem dnew_ok (w : World) (m : Nat) (h2 : m ≤ 2097152) :
  Fn Tryz.prog 34 #[(.int .i64 (↑m : Int))] w (fun v w' => ∃ g, v = .tuple #[.pointer (some ⟨g, 0, none⟩), .int .i64 0] ∧ Dec w' w.heap.size g none m false [] ∧ Ext w w' ∧ w.heap.size ≤ g)  := by
 have hE := ext_refl w
 refine fn_enter (args := [(.int .i64 (↑m : Int))]) Tryz.func34 rfl rfl rfl ?_
 show WC _ _ _ _ [(0, (.int .i64 (↑m : Int)))] _
 refine wc_seq (wc_regionL ?_)
 iterate 2 refine va rfl rfl ?_
 refine q_nil (k_then (wc_seq (wc_seq (wc_regionL ?_))))
 refine vm rfl rfl ?_
 refine wl_val (ov_lss rfl rfl) rfl rfl rfl ?_
 refine wl_spell (d := 5) rfl (bf (by omega)) ?_
 refine vm rfl rfl ?_
 refine wl_gval (ov_move rfl) rfl rfl rfl rfl rfl ?_
 refine wl_gval (ov_gtr rfl rfl) rfl rfl rfl rfl rfl ?_
 refine wl_spell (d := 8) rfl (bf (by omega)) ?_
 refine wl_val (ov_pick_f rfl rfl) rfl rfl rfl ?_
 refine q_nil (k_then ?_)
 refine wc_cond_f rfl ?_
 refine q_skip (k_then (wc_seq (wc_regionL ?_)))
 refine vm rfl rfl ?_
 refine wl_val (ov_build (cs := [(.bool true), (.bool false), (.int .i64 (↑m : Int)), (.slice none 0 0)]) ze122 pl122 rfl rfl) rfl rfl rfl ?_
 refine wl_step (or_box (cs := [(.bool true), (.bool false), (.int .i64 (↑m : Int)), (.slice none 0 0)]) rfl rfl) rfl rfl rfl ?_
 rintro v w1 ⟨g12, rfl, hb_g12, he12, hl12, hu12⟩
 replace hE := hE.tr he12
 have hz_he12 := he12.size
 iterate 2 refine va rfl rfl ?_
 refine q_nil (k_then (q_ret ?_))
 refine e_ret2 rfl rfl rfl ?_
 exact ⟨g12, rfl, ⟨none, 0, rfl, hb_g12, OwnT.nil_ _ _ _, h2⟩, hE, by omega⟩
theorem dheld_ok (w : World) (lo g : Nat) (D : Option Nat) (m : Nat) (cl : Bool) (l : List UInt8) (hdec : Dec w lo g D m cl l) (hl40 : l.length ≤ 1099511627776) :
  Fn Tryz.prog 41 #[(.pointer (some ⟨g, 0, none⟩))] w (fun v w' => v = .int .i64 (dheld cl l : Int) ∧ Ext w w')  := by
 obtain ⟨A, c, rfl, hb_g, hot, hm2⟩ := hdec
 have hgl := hb_g.lt
 have hcd := hot.1
 have hcm := hot.2.1
 simp only [maxLen] at hcm
 have hDlt : ∀ x, blk A = some x → lo ≤ x ∧ x < w.heap.size := fun x e => hot.lt e
 have hE := ext_refl w
 refine fn_enter (args := [(.pointer (some ⟨g, 0, none⟩))]) Tryz.func41 rfl rfl rfl ?_
 show WC _ _ _ _ [(0, (.pointer (some ⟨g, 0, none⟩)))] _
 refine wc_seq (wc_regionL ?_)
 refine va rfl rfl ?_
 refine q_nil (k_then (wc_seq (wc_seq (wc_regionL ?_))))
 refine vm rfl rfl ?_
 refine wl_val (or_call0 cl64 rfl rfl (dcheck_ok _ _ _ _ _ _ _ hb_g)) rfl rfl rfl ?_
 refine wl_val (ov_neq rfl rfl) rfl rfl rfl ?_
 refine q_nil (k_then ?_)
 refine wc_cond_d rfl (fun hc1 => ?_) (fun hc1 => ?_)
 ·refine wc_seq (wc_regionL ?_)
  refine va rfl rfl ?_
  refine q_nil (k_then (q_ret (k_thenR ?_)))
  refine e_ret rfl rfl ?_
  cases cl with
  | false => exact absurd rfl hc1
  | true => exact ⟨rfl, hE⟩
 ·refine q_skip (k_then (wc_seq (wc_regionL ?_)))
  refine vm rfl rfl ?_
  refine vn rfl rfl ?_
  refine wl_val (ov_field0 (off := 3) fo122_3 rfl) rfl rfl rfl ?_
  refine wl_val (ov_loadAt oc32 rfl hb_g rfl) rfl rfl rfl ?_
  refine wl_val (ov_len Tryz.underlying32 rfl) rfl rfl rfl ?_
  refine va rfl rfl ?_
  refine q_nil (k_then (q_ret ?_))
  refine e_ret rfl rfl ?_
  cases cl with
  | false => exact ⟨rfl, hE⟩
  | true => exact absurd (by decide) hc1
theorem dclosed_ok (w : World) (lo g : Nat) (D : Option Nat) (m : Nat) (cl : Bool) (l : List UInt8) (hdec : Dec w lo g D m cl l) (hl40 : l.length ≤ 1099511627776) :
  Fn Tryz.prog 40 #[(.pointer (some ⟨g, 0, none⟩))] w (fun v w' => v = .bool cl ∧ Ext w w')  := by
 obtain ⟨A, c, rfl, hb_g, hot, hm2⟩ := hdec
 have hgl := hb_g.lt
 have hcd := hot.1
 have hcm := hot.2.1
 simp only [maxLen] at hcm
 have hDlt : ∀ x, blk A = some x → lo ≤ x ∧ x < w.heap.size := fun x e => hot.lt e
 have hE := ext_refl w
 refine fn_enter (args := [(.pointer (some ⟨g, 0, none⟩))]) Tryz.func40 rfl rfl rfl ?_
 show WC _ _ _ _ [(0, (.pointer (some ⟨g, 0, none⟩)))] _
 refine wc_seq (wc_regionL ?_)
 refine va rfl rfl ?_
 refine q_nil (k_then (wc_seq (wc_regionL ?_)))
 refine vm rfl rfl ?_
 refine wl_val (or_call0 cl64 rfl rfl (dcheck_ok _ _ _ _ _ _ _ hb_g)) rfl rfl rfl ?_
 refine ve rfl rfl rfl ?_
 refine wl_spell (d := 5) rfl (v' := (.bool cl)) (by cases cl <;> rfl) ?_
 refine va rfl rfl ?_
 refine q_nil (k_then (q_ret ?_))
 refine e_ret rfl rfl ?_
 exact ⟨rfl, hE⟩
theorem dfeed_ok (w : World) (lo g : Nat) (D : Option Nat) (m : Nat) (cl : Bool) (l : List UInt8) (hdec : Dec w lo g D m cl l) (hl40 : l.length ≤ 1099511627776) (lo2 hi2 : Nat) (B : Option Addr) (c2 : Nat) (q : List UInt8) (hr2 : RdB w lo2 hi2 B c2 q) (hgq : g < lo2 ∨ hi2 ≤ g) (hDq : ∀ x, D = some x → x < lo2 ∨ hi2 ≤ x) (hlo : lo ≤ w.heap.size) (hlq : q.length ≤ 1099511627776) :
  Fn Tryz.prog 42 #[(.pointer (some ⟨g, 0, none⟩)), (.slice B q.length c2)] w (fun v w' => v = .int .i64 (dchk cl : Int) ∧ (∃ D', Dec w' lo g D' m cl (dfeed cl l q) ∧ Nx w D D') ∧ Ch g D w w')  := by
 obtain ⟨A, c, rfl, hb_g, hot, hm2⟩ := hdec
 have hgl := hb_g.lt
 have hcd := hot.1
 have hcm := hot.2.1
 simp only [maxLen] at hcm
 have hDlt : ∀ x, blk A = some x → lo ≤ x ∧ x < w.heap.size := fun x e => hot.lt e
 have hC := Ch.refl g (blk A) w
 refine fn_enter (args := [(.pointer (some ⟨g, 0, none⟩)), (.slice B q.length c2)]) Tryz.func42 rfl rfl rfl ?_
 show WC _ _ _ _ [(0, (.pointer (some ⟨g, 0, none⟩))), (1, (.slice B q.length c2))] _
 refine wc_seq (wc_regionL ?_)
 refine va rfl rfl ?_
 refine q_nil (k_then (wc_seq (wc_regionL ?_)))
 refine vm rfl rfl ?_
 refine wl_val (or_call0 cl64 rfl rfl (dcheck_ok _ _ _ _ _ _ _ hb_g)) rfl rfl rfl ?_
 refine va rfl rfl ?_
 refine q_nil (k_then (wc_seq (wc_seq (wc_regionL ?_))))
 refine vm rfl rfl ?_
 refine ve rfl rfl rfl ?_
 refine q_nil (k_then ?_)
 refine wc_cond_d rfl (fun hc1 => ?_) (fun hc1 => ?_)
 ·refine wc_regionL ?_
  iterate 2 refine vm rfl rfl ?_
  refine vn rfl rfl ?_
  refine wl_val (ov_field0 (off := 3) fo122_3 rfl) rfl rfl rfl ?_
  refine wl_val (ov_loadAt oc32 rfl hb_g rfl) rfl rfl rfl ?_
  refine vm rfl rfl ?_
  refine wl_step (or_tappend bt32 rfl hot rfl hr2 (by omega) (by omega)) rfl rfl rfl ?_
  rintro v w1 ⟨A16, c16, rfl, hot16, hg16, hN16, _⟩
  have hz16 := hg16.size
  replace hb_g := hb_g.gr hg16 (OwnT.ne hot hb_g (by decide))
  replace hC := hC.tr (Ch.of_row hg16) (fun x e => .inl e)
  refine vn rfl rfl ?_
  refine wl_val (ov_field0 (off := 3) fo122_3 rfl) rfl rfl rfl ?_
  refine wl_step0 (or_storeAt (cs' := [(.bool true), (.bool cl), (.int .i64 (↑m : Int)), (.slice A16 (l ++ q).length c16)]) sz32 rfl rfl rfl hb_g rfl rfl) rfl rfl ?_
  rintro _ w2 ⟨hN2, hg2⟩
  have hz_hg2 := hg2.size
  replace hot16 := OwnT.gr hot16 hg2 (by first | exact .inl rfl | (right; intro e; first | (have := hq_hot16 _ e; omega) | exact OwnT.ne hot16 hb_g (by decide) e))
  replace hC := hC.gr2 hg2 (fun x e => by cases e; first | exact .inl rfl | (right; right; omega))
  replace hb_g := hN2
  refine q_nil (k_then (wc_seq (wc_regionL ?_)))
  refine vm rfl rfl ?_
  refine va rfl rfl ?_
  refine q_nil (k_then (q_ret ?_))
  refine e_ret rfl rfl ?_
  cases cl with
  | false => exact ⟨rfl, ⟨_, ⟨_, _, rfl, hb_g, hot16, hm2⟩, hN16⟩, hC⟩
  | true => exact absurd hc1 (by decide)
 ·refine q_skip (k_then (wc_seq (wc_regionL ?_)))
  refine vm rfl rfl ?_
  refine va rfl rfl ?_
  refine q_nil (k_then (q_ret ?_))
  refine e_ret rfl rfl ?_
  cases cl with
  | false => exact absurd rfl hc1
  | true => exact ⟨rfl, ⟨_, ⟨_, _, rfl, hb_g, hot, hm2⟩, Nx.refl _ _⟩, hC⟩
theorem dnext_ok (w : World) (lo g : Nat) (D : Option Nat) (m : Nat) (cl : Bool) (l : List UInt8) (hdec : Dec w lo g D m cl l) (hl40 : l.length ≤ 1099511627776) :
  Fn Tryz.prog 65 #[(.pointer (some ⟨g, 0, none⟩))] w (fun v w' => ∃ B c2, v = .tuple #[.agg #[.int .u8 ((dnext m cl l).2.2.1.1.toNat : Int), .slice B (dnext m cl l).2.2.1.2.length c2], .int .i64 ((dnext m cl l).2.2.2 : Int)] ∧ OwnB w' w.heap.size 5 B c2 (dnext m cl l).2.2.1.2 ∧ Dec w' lo g D m (dnext m cl l).1 (dnext m cl l).2.1 ∧ Ch g D w w')  := by
 obtain ⟨A, c, rfl, hb_g, hot, hm2⟩ := hdec
 have hq_hot := fun g e => OwnT.lt hot (g := g) e
 have hgl := hb_g.lt
 have hcd := hot.1
 have hcm := hot.2.1
 simp only [maxLen] at hcm
 have hDlt : ∀ x, blk A = some x → lo ≤ x ∧ x < w.heap.size := fun x e => hot.lt e
 have hC := Ch.refl g (blk A) w
 refine fn_enter (args := [(.pointer (some ⟨g, 0, none⟩))]) Tryz.func65 rfl rfl rfl ?_
 show WC _ _ _ _ [(0, (.pointer (some ⟨g, 0, none⟩)))] _
 refine wc_seq (wc_regionL ?_)
 refine wl_step (or_alloc (cs := [(.int .u8 0), (.slice none 0 0)]) ze117 rfl) rfl rfl rfl ?_
 rintro v w1 ⟨g2, rfl, hb_g2, he2, hl2, hu2⟩
 replace hb_g := hb_g.ext he2
 replace hot := OwnT.ext hot he2
 replace hC := hC.ext he2
 have hz_he2 := he2.size
 refine va rfl rfl ?_
 refine q_nil (k_then (wc_seq (wc_seq (wc_regionL ?_))))
 refine vm rfl rfl ?_
 refine wl_val (or_call0 cl64 rfl rfl (dcheck_ok _ _ _ _ _ _ _ hb_g)) rfl rfl rfl ?_
 refine va rfl rfl ?_
 refine q_nil (k_then (wc_seq (wc_regionL ?_)))
 refine vm rfl rfl ?_
 refine wl_val (ov_neq rfl rfl) rfl rfl rfl ?_
 refine q_nil (k_then ?_)
 refine wc_cond_d rfl (fun hc1 => ?_) (fun hc1 => ?_)
 ·have hclt : cl = true := by cases cl with | true => rfl | false => exact absurd rfl hc1
  subst hclt
  refine wc_seq (wc_regionL ?_)
  refine wl_val (ov_build (cs := [(.int .u8 0), (.slice none 0 0)]) ze117 pl117 rfl rfl) rfl rfl rfl ?_
  refine vm rfl rfl ?_
  refine wl_step0 (or_storeBlk (vs := [(.int .u8 0), (.slice none 0 0)]) sz117 rfl rfl (by simp [Value.oneCell']) hb_g2 rfl) rfl rfl ?_
  rintro _ w2 ⟨hN2, hg2⟩
  have hz_hg2 := hg2.size
  replace hb_g := hb_g.gr hg2 (by intro e; cases e; omega)
  replace hot := OwnT.gr hot hg2 (by first | exact .inl rfl | (right; intro e; first | (have := hq_hot _ e; omega) | exact OwnT.ne hot hb_g2 (by decide) e))
  replace hC := hC.gr2 hg2 (fun x e => by cases e; first | exact .inl rfl | (right; right; omega))
  replace hb_g2 := hN2
  refine va rfl rfl ?_
  refine q_nil (k_then (q_ret (k_thenR ?_)))
  refine e_retL (rs := [.cell 2 117, .tmp 3]) (vs := [.agg #[(.int .u8 0), (.slice none 0 0)], (.int .i64 (↑(dchk true) : Int))]) rfl ⟨⟨_, _, [(.int .u8 0), (.slice none 0 0)], rfl, ag117_2, hb_g2, rfl⟩, rfl, trivial⟩ ?_
  exact ⟨none, 0, rfl, Own.nil_ _ _ _ _, ⟨_, _, rfl, hb_g, hot, hm2⟩, hC⟩
 ·have hclf : cl = false := by cases cl with | false => rfl | true => exact absurd (by decide) hc1
  subst hclf
  have hfc := fread_cases l hm2
  have hfp := fread_props l (m : Int)
  refine q_skip (k_then (wc_seq ?_))
  refine wc_drawA mixed ?_
  intro w202 hx4
  replace hb_g := hb_g.ext hx4
  replace hot := OwnT.ext hot hx4
  replace hC := hC.ext hx4
  replace hb_g2 := hb_g2.ext hx4
  have hz_hx4 := hx4.size
  refine wa_main (Fam (BelU w202.heap.size 5)) (fam1 (belu_ext)) (fam2 (belu_tr)) (fam3 (belu_ext) (belu_tr)) 0 16 [(15, eqv (.pointer (some ⟨g, 0, none⟩))), (16, eqv (.pointer (some ⟨g, 0, none⟩))), (17, eqv (.pointer (some ⟨g, 3, none⟩))), (18, eqv (.slice A l.length c)), (19, eqv (.pointer (some ⟨g, 0, none⟩))), (20, eqv (.pointer (some ⟨g, 0, none⟩))), (21, eqv (.pointer (some ⟨g, 2, none⟩))), (22, eqv (.int .i64 (↑m : Int))), (23, (fun v w => ∃ A23 c23, v = (.tuple #[(.agg #[(.int .u8 (↑(fread l (m : Int)).1.1.toNat : Int)), (.slice A23 (fread l (m : Int)).1.2.length c23)]), (.int .i64 (↑(fread l (m : Int)).2.1 : Int)), (.int .i64 (↑(fread l (m : Int)).2.2 : Int))]) ∧ OwnB w w202.heap.size 5 A23 c23 (fread l (m : Int)).1.2)), (14, (fun v w => ∃ A23 c23, v = (.tuple #[(.agg #[(.int .u8 (↑(fread l (m : Int)).1.1.toNat : Int)), (.slice A23 (fread l (m : Int)).1.2.length c23)]), (.int .i64 (↑(fread l (m : Int)).2.1 : Int)), (.int .i64 (↑(fread l (m : Int)).2.2 : Int))]) ∧ OwnB w w202.heap.size 5 A23 c23 (fread l (m : Int)).1.2)), (24, (fun v w => ∃ A23 c23, v = (.agg #[(.int .u8 (↑(fread l (m : Int)).1.1.toNat : Int)), (.slice A23 (fread l (m : Int)).1.2.length c23)]) ∧ OwnB w w202.heap.size 5 A23 c23 (fread l (m : Int)).1.2)), (25, eqv (.int .i64 (↑(fread l (m : Int)).2.1 : Int))), (26, eqv (.int .i64 (↑(fread l (m : Int)).2.2 : Int))), (5, (fun v w => ∃ g5, v = .pointer (some ⟨g5, 0, none⟩) ∧ Blk w g5 117 [(.int .u8 0), (.slice none 0 0)] ∧ w202.heap.size ≤ g5)), (5, (fun v w => ∃ g_f A23 c23, v = .pointer (some ⟨g_f, 0, none⟩) ∧ Blk w g_f 117 [(.int .u8 (↑(fread l (m : Int)).1.1.toNat : Int)), (.slice A23 (fread l (m : Int)).1.2.length c23)] ∧ w202.heap.size ≤ g_f ∧ OwnB w w202.heap.size 5 A23 c23 (fread l (m : Int)).1.2)), (6, eqv (.int .i64 (↑(fread l (m : Int)).2.1 : Int)))] [[], [0], [1], [2], [], [4], [5], [6], [3, 7], [8], [9], [9], [9], [], [10, 13], [11]] [[0], [0], [0], [0], [0], [0], [0], [0], [0], [0], [0], [0], [0], [], [], [0]] [[0], [0], [0], [0], [0], [0], [0], [0], [0], [0], [0], [0], [0], [0], [0], [0]] [none, none, none, none, none, none, none, none, none, none, none, none, none, none, some 0, none] [true, true, true, true, true, true, true, true, true, true, true, true, true, false, true, true] [0] _ [] [] (fun _ _ h => h) trivial (by kernel_rfl) rfl ⟨stbA (fun _ => stb_eqv _) _, stbA (fun _ => stb_eqv _) _, stbA (fun _ => stb_eqv _) _, stbA (fun _ => stb_eqv _) _, stbA (fun _ => stb_eqv _) _, stbA (fun _ => stb_eqv _) _, stbA (fun _ => stb_eqv _) _, stbA (fun _ => stb_eqv _) _, stbB (belu_ext) ((fun v w w' ⟨A, c, hv, ho⟩ he => ⟨A, c, hv, Own.belu ho he⟩)), stbB (belu_ext) ((fun v w w' ⟨A23, c23, hb, ho23⟩ he => ⟨A23, c23, hb, Own.belu ho23 he⟩)), stbB (belu_ext) ((fun v w w' ⟨A23, c23, hb, ho23⟩ he => ⟨A23, c23, hb, Own.belu ho23 he⟩)), stbA (fun _ => stb_eqv _) _, stbA (fun _ => stb_eqv _) _, stb0 ((fun v w w' ⟨g, hv, hb, hl⟩ he => ⟨g, hv, hb.ext he, hl⟩)), stb0 ((fun v w w' ⟨g_f, A23, c23, hv, hb, hl, ho23⟩ he => ⟨g_f, A23, c23, hv, hb.ext he, hl, Own.ext ho23 he⟩)), stbA (fun _ => stb_eqv _) _, trivial⟩ ⟨?_, ?_, ?_, ?_, ?_, ?_, ?_, ?_, ?_, ?_, ?_, ?_, ?_, ?_, ?_, ?_, trivial⟩ ?_
  ·intro wd hxE
   replace hxE := belu_out hxE
   have hz_hxE := hxE.size
   show OpG _ _ _ _ _ _
   exact og_plain rfl (ox_val (ov_move rfl))
  ·intro wd hxE
   replace hxE := belu_out hxE
   have hz_hxE := hxE.size
   rintro _ rfl
   show OpG _ _ _ _ _ _
   exact og_plain rfl (ox_val (ov_nilCheck rfl))
  ·intro wd hxE
   replace hxE := belu_out hxE
   have hz_hxE := hxE.size
   rintro _ rfl
   show OpG _ _ _ _ _ _
   exact og_plain rfl (ox_val (ov_field0 (off := 3) fo122_3 rfl))
  ·intro wd hxE
   replace hxE := belu_out hxE
   replace hb_g := hb_g.ext hxE
   have hz_hxE := hxE.size
   rintro _ rfl
   show OpG _ _ _ _ _ _
   exact og_plain rfl (ox_val (ov_loadAt oc32 rfl hb_g rfl))
  ·intro wd hxE
   replace hxE := belu_out hxE
   have hz_hxE := hxE.size
   show OpG _ _ _ _ _ _
   exact og_plain rfl (ox_val (ov_move rfl))
  ·intro wd hxE
   replace hxE := belu_out hxE
   have hz_hxE := hxE.size
   rintro _ rfl
   show OpG _ _ _ _ _ _
   exact og_plain rfl (ox_val (ov_nilCheck rfl))
  ·intro wd hxE
   replace hxE := belu_out hxE
   have hz_hxE := hxE.size
   rintro _ rfl
   show OpG _ _ _ _ _ _
   exact og_plain rfl (ox_val (ov_field0 (off := 2) fo122_2 rfl))
  ·intro wd hxE
   replace hxE := belu_out hxE
   replace hb_g := hb_g.ext hxE
   have hz_hxE := hxE.size
   rintro _ rfl
   show OpG _ _ _ _ _ _
   exact og_plain rfl (ox_val (ov_loadAt oc3 rfl hb_g rfl))
  ·intro wd hxE
   replace hxE := belu_out hxE
   replace hot := OwnT.ext hot hxE
   have hz_hxE := hxE.size
   rintro _ rfl
   rintro _ rfl
   show OpG _ _ _ _ _ _
   refine og_plain rfl (OpRun.mono (or_call0 cl85 rfl rfl (fread_any _ _ _ _ _ l (m : Int) (by omega) (by omega) (OwnT.rd hot) (by omega))) ?_)
   rintro v w203 ⟨A23, c23, rfl, ho23, he23⟩
   have hz_he23 := he23.size
   exact ⟨⟨A23, c23, rfl, Own.mono ho23 (by omega)⟩, he23⟩
  ·intro wd hxE
   replace hxE := belu_out hxE
   have hz_hxE := hxE.size
   rintro _ ⟨A23, c23, rfl, ho23⟩
   show OpG _ _ _ _ _ _
   refine og_plain rfl (OpRun.mono (ov_move rfl) ?_)
   rintro v _ ⟨rfl, rfl⟩
   exact ⟨⟨A23, c23, rfl, ho23⟩, ext_refl _⟩
  ·intro wd hxE
   replace hxE := belu_out hxE
   have hz_hxE := hxE.size
   rintro _ ⟨A23, c23, rfl, ho23⟩
   show OpG _ _ _ _ _ _
   refine og_plain rfl (OpRun.mono (ov_extract rfl rfl) ?_)
   rintro v _ ⟨rfl, rfl⟩
   exact ⟨⟨A23, c23, rfl, ho23⟩, ext_refl _⟩
  ·intro wd hxE
   replace hxE := belu_out hxE
   have hz_hxE := hxE.size
   rintro _ ⟨A23, c23, rfl, ho23⟩
   show OpG _ _ _ _ _ _
   exact og_plain rfl (ox_val (ov_extract rfl rfl))
  ·intro wd hxE
   replace hxE := belu_out hxE
   have hz_hxE := hxE.size
   rintro _ ⟨A23, c23, rfl, ho23⟩
   show OpG _ _ _ _ _ _
   exact og_plain rfl (ox_val (ov_extract rfl rfl))
  ·intro wd hxE
   replace hxE := belu_out hxE
   have hz_hxE := hxE.size
   show OpG _ _ _ _ _ _
   refine og_plain rfl (OpRun.mono (or_alloc (cs := [(.int .u8 0), (.slice none 0 0)]) ze117 rfl) ?_)
   rintro v w203 ⟨g5, rfl, hb_g5, he5, hl5, hu5⟩
   have hz_he5 := he5.size
   exact ⟨⟨g5, rfl, hb_g5, by omega⟩, he5⟩
  ·intro wd hxE
   replace hxE := belu_out hxE
   have hz_hxE := hxE.size
   rintro _ ⟨A23, c23, rfl, ho23⟩
   rintro _ ⟨g5, rfl, hb_g5, hl5⟩
   show OpG _ _ _ _ _ _
   have hb0 := hb_g5
   refine og_plain rfl (OpRun.mono (or_storeBlk (vs := [(.int .u8 (↑(fread l (m : Int)).1.1.toNat : Int)), (.slice A23 (fread l (m : Int)).1.2.length c23)]) sz117 rfl rfl (by simp [Value.oneCell']) hb_g5 rfl) ?_)
   rintro _ w203 ⟨hN203, hg203⟩
   have hz_hg203 := hg203.size
   replace ho23 := Own.gr ho23 hg203 (by first | exact .inl rfl | (right; intro e; first | (have := hq_ho23 _ e; omega) | (have := Own.lt ho23 e; omega) | exact own_blk_ne ho23 hb_g5 (by decide) e))
   replace hb_g5 := hN203
   exact ⟨⟨g5, A23, c23, rfl, hb_g5, by omega, ho23⟩, belu_store hg203 hb0 (by decide) (by omega)⟩
  ·intro wd hxE
   replace hxE := belu_out hxE
   have hz_hxE := hxE.size
   rintro _ rfl
   show OpG _ _ _ _ _ _
   exact og_plain rfl (ox_val (ov_assign rfl))
  ·intro wf4 hf4
   replace hf4 := belu_out hf4
   replace hb_g := hb_g.ext hf4
   replace hot := OwnT.ext hot hf4
   replace hC := hC.ext hf4
   replace hb_g2 := hb_g2.ext hf4
   have hz_hf4 := hf4.size
   rintro _ rfl
   rintro _ rfl
   rintro _ rfl
   rintro _ rfl
   rintro _ rfl
   rintro _ rfl
   rintro _ rfl
   rintro _ rfl
   rintro _ ⟨A23, c23, rfl, ho23⟩
   rintro _ ⟨A23, c23, rfl, ho23⟩
   rintro _ ⟨A23, c23, rfl, ho23⟩
   rintro _ rfl
   rintro _ rfl
   intro v5
   rintro _ ⟨g5, A23, c23, rfl, hb_g5, hlf_g5, ho23⟩
   rintro _ rfl
   have hq_ho23 := fun g e => Own.lt ho23 (g := g) e
   refine wa_tail (by kernel_rfl) ?_
   show WL _ _ _ [_] _ _ _
   refine va rfl rfl ?_
   refine q_nil (k_then (wc_seq (wc_seq (wc_regionL ?_))))
   refine vm rfl rfl ?_
   refine q_nil (k_then (wc_block (wc_seq (wc_regionL ?_))))
   refine ve rfl rfl rfl ?_
   refine va rfl rfl ?_
   refine q_nil (k_then ?_)
   refine wc_cond_d rfl (fun hc2 => ?_) (fun hc2 => ?_)
   ·refine wc_regionL ?_
    refine va rfl rfl ?_
    refine q_nil (k_block (k_then (wc_seq (wc_regionL ?_))))
    iterate 2 refine vm rfl rfl ?_
    refine vn rfl rfl ?_
    refine wl_val (ov_field0 (off := 3) fo122_3 rfl) rfl rfl rfl ?_
    refine wl_val (ov_loadAt oc32 rfl hb_g rfl) rfl rfl rfl ?_
    refine vm rfl rfl ?_
    refine wl_step (or_tdrop bt32 1 rfl hot rfl rfl (by omega)) rfl rfl rfl ?_
    rintro v _ ⟨rfl, A46, c46, rfl, hot46, hA46⟩
    have hq_hot46 := fun g e => OwnT.lt hot46 (g := g) e
    refine vn rfl rfl ?_
    refine wl_val (ov_field0 (off := 3) fo122_3 rfl) rfl rfl rfl ?_
    refine wl_step0 (or_storeAt (cs' := [(.bool true), (.bool false), (.int .i64 (↑m : Int)), (.slice A46 (l.drop 1).length c46)]) sz32 rfl rfl rfl hb_g rfl rfl) rfl rfl ?_
    rintro _ w203 ⟨hN203, hg203⟩
    have hz_hg203 := hg203.size
    replace hot46 := OwnT.gr hot46 hg203 (by first | exact .inl rfl | (right; intro e; first | (have := hq_hot46 _ e; omega) | exact OwnT.ne hot46 hb_g (by decide) e))
    replace hC := hC.gr2 hg203 (fun x e => by cases e; first | exact .inl rfl | (right; right; omega))
    replace hb_g2 := hb_g2.gr hg203 (by intro e; cases e; omega)
    replace ho23 := Own.gr ho23 hg203 (by first | exact .inl rfl | (right; intro e; first | (have := hq_ho23 _ e; omega) | (have := Own.lt ho23 e; omega) | exact own_blk_ne ho23 hb_g (by decide) e))
    replace hb_g5 := hb_g5.gr hg203 (by intro e; cases e; omega)
    replace hb_g := hN203
    refine q_nil (k_then (wc_seq (wc_regionL ?_)))
    refine wl_val (ov_loadBlk (cs := [(.int .u8 (↑(fread l (m : Int)).1.1.toNat : Int)), (.slice A23 (fread l (m : Int)).1.2.length c23)]) ag117_2 rfl hb_g5) rfl rfl rfl ?_
    refine vm rfl rfl ?_
    refine wl_step0 (or_storeBlk (vs := [(.int .u8 (↑(fread l (m : Int)).1.1.toNat : Int)), (.slice A23 (fread l (m : Int)).1.2.length c23)]) sz117 rfl rfl (by simp [Value.oneCell']) hb_g2 rfl) rfl rfl ?_
    rintro _ w204 ⟨hN204, hg204⟩
    have hz_hg204 := hg204.size
    replace hb_g := hb_g.gr hg204 (by intro e; cases e; omega)
    replace hot46 := OwnT.gr hot46 hg204 (by first | exact .inl rfl | (right; intro e; first | (have := hq_hot46 _ e; omega) | exact OwnT.ne hot46 hb_g2 (by decide) e))
    replace hC := hC.gr2 hg204 (fun x e => by cases e; first | exact .inl rfl | (right; right; omega))
    replace ho23 := Own.gr ho23 hg204 (by first | exact .inl rfl | (right; intro e; first | (have := hq_ho23 _ e; omega) | (have := Own.lt ho23 e; omega) | exact own_blk_ne ho23 hb_g2 (by decide) e))
    replace hb_g2 := hN204
    refine va rfl rfl ?_
    refine q_nil (k_then (q_ret ?_))
    refine e_retL (rs := [.cell 2 117, .tmp 3]) (vs := [.agg #[(.int .u8 (↑(fread l (m : Int)).1.1.toNat : Int)), (.slice A23 (fread l (m : Int)).1.2.length c23)], (.int .i64 (↑(fread l (m : Int)).2.2 : Int))]) rfl ⟨⟨_, _, [(.int .u8 (↑(fread l (m : Int)).1.1.toNat : Int)), (.slice A23 (fread l (m : Int)).1.2.length c23)], rfl, ag117_2, hb_g2, rfl⟩, rfl, trivial⟩ ?_
    rw [dnext_6 (by omega)]
    exact ⟨_, _, rfl, Own.mono ho23 (by omega), ⟨_, _, hA46.symm, hb_g, hot46, hm2⟩, hC⟩
   ·refine wc_seq (wc_regionL ?_)
    refine ve rfl rfl rfl ?_
    refine va rfl rfl ?_
    refine q_nil (k_then ?_)
    refine wc_cond_d rfl (fun hc3 => ?_) (fun hc3 => ?_)
    ·refine wc_regionL ?_
     iterate 2 refine vm rfl rfl ?_
     refine vn rfl rfl ?_
     refine wl_val (ov_field0 (off := 3) fo122_3 rfl) rfl rfl rfl ?_
     refine wl_val (ov_loadAt oc32 rfl hb_g rfl) rfl rfl rfl ?_
     refine wl_val (ov_len Tryz.underlying32 rfl) rfl rfl rfl ?_
     refine vn rfl rfl ?_
     refine wl_val (ov_field0 (off := 1) fo122_1 rfl) rfl rfl rfl ?_
     refine wl_step0 (or_storeAt (cs' := [(.bool true), (.bool true), (.int .i64 (↑m : Int)), (.slice A l.length c)]) sz4 rfl rfl rfl hb_g rfl rfl) rfl rfl ?_
     rintro _ w203 ⟨hN203, hg203⟩
     have hz_hg203 := hg203.size
     replace hot := OwnT.gr hot hg203 (by first | exact .inl rfl | (right; intro e; first | (have := hq_hot _ e; omega) | exact OwnT.ne hot hb_g (by decide) e))
     replace hC := hC.gr2 hg203 (fun x e => by cases e; first | exact .inl rfl | (right; right; omega))
     replace hb_g2 := hb_g2.gr hg203 (by intro e; cases e; omega)
     replace ho23 := Own.gr ho23 hg203 (by first | exact .inl rfl | (right; intro e; first | (have := hq_ho23 _ e; omega) | (have := Own.lt ho23 e; omega) | exact own_blk_ne ho23 hb_g (by decide) e))
     replace hb_g5 := hb_g5.gr hg203 (by intro e; cases e; omega)
     replace hb_g := hN203
     refine va rfl rfl ?_
     refine q_nil (k_block (k_then (wc_seq (wc_regionL ?_))))
     iterate 2 refine vm rfl rfl ?_
     refine vn rfl rfl ?_
     refine wl_val (ov_field0 (off := 3) fo122_3 rfl) rfl rfl rfl ?_
     refine wl_val (ov_loadAt oc32 rfl hb_g rfl) rfl rfl rfl ?_
     refine vm rfl rfl ?_
     refine wl_step (or_tdrop bt32 l.length rfl hot rfl rfl (Nat.le_refl _)) rfl rfl rfl ?_
     rintro v _ ⟨rfl, A46, c46, rfl, hot46, hA46⟩
     have hq_hot46 := fun g e => OwnT.lt hot46 (g := g) e
     refine vn rfl rfl ?_
     refine wl_val (ov_field0 (off := 3) fo122_3 rfl) rfl rfl rfl ?_
     refine wl_step0 (or_storeAt (cs' := [(.bool true), (.bool true), (.int .i64 (↑m : Int)), (.slice A46 (l.drop l.length).length c46)]) sz32 rfl rfl rfl hb_g rfl rfl) rfl rfl ?_
     rintro _ w204 ⟨hN204, hg204⟩
     have hz_hg204 := hg204.size
     replace hot46 := OwnT.gr hot46 hg204 (by first | exact .inl rfl | (right; intro e; first | (have := hq_hot46 _ e; omega) | exact OwnT.ne hot46 hb_g (by decide) e))
     replace hC := hC.gr2 hg204 (fun x e => by cases e; first | exact .inl rfl | (right; right; omega))
     replace hb_g2 := hb_g2.gr hg204 (by intro e; cases e; omega)
     replace ho23 := Own.gr ho23 hg204 (by first | exact .inl rfl | (right; intro e; first | (have := hq_ho23 _ e; omega) | (have := Own.lt ho23 e; omega) | exact own_blk_ne ho23 hb_g (by decide) e))
     replace hb_g5 := hb_g5.gr hg204 (by intro e; cases e; omega)
     replace hb_g := hN204
     refine q_nil (k_then (wc_seq (wc_regionL ?_)))
     refine wl_val (ov_loadBlk (cs := [(.int .u8 (↑(fread l (m : Int)).1.1.toNat : Int)), (.slice A23 (fread l (m : Int)).1.2.length c23)]) ag117_2 rfl hb_g5) rfl rfl rfl ?_
     refine vm rfl rfl ?_
     refine wl_step0 (or_storeBlk (vs := [(.int .u8 (↑(fread l (m : Int)).1.1.toNat : Int)), (.slice A23 (fread l (m : Int)).1.2.length c23)]) sz117 rfl rfl (by simp [Value.oneCell']) hb_g2 rfl) rfl rfl ?_
     rintro _ w205 ⟨hN205, hg205⟩
     have hz_hg205 := hg205.size
     replace hb_g := hb_g.gr hg205 (by intro e; cases e; omega)
     replace hot46 := OwnT.gr hot46 hg205 (by first | exact .inl rfl | (right; intro e; first | (have := hq_hot46 _ e; omega) | exact OwnT.ne hot46 hb_g2 (by decide) e))
     replace hC := hC.gr2 hg205 (fun x e => by cases e; first | exact .inl rfl | (right; right; omega))
     replace ho23 := Own.gr ho23 hg205 (by first | exact .inl rfl | (right; intro e; first | (have := hq_ho23 _ e; omega) | (have := Own.lt ho23 e; omega) | exact own_blk_ne ho23 hb_g2 (by decide) e))
     replace hb_g2 := hN205
     refine va rfl rfl ?_
     refine q_nil (k_then (q_ret ?_))
     refine e_retL (rs := [.cell 2 117, .tmp 3]) (vs := [.agg #[(.int .u8 (↑(fread l (m : Int)).1.1.toNat : Int)), (.slice A23 (fread l (m : Int)).1.2.length c23)], (.int .i64 (↑(fread l (m : Int)).2.2 : Int))]) rfl ⟨⟨_, _, [(.int .u8 (↑(fread l (m : Int)).1.1.toNat : Int)), (.slice A23 (fread l (m : Int)).1.2.length c23)], rfl, ag117_2, hb_g2, rfl⟩, rfl, trivial⟩ ?_
     rw [dnext_5 (by omega)]
     exact ⟨_, _, rfl, Own.mono ho23 (by omega), ⟨_, _, hA46.symm, hb_g, hot46, hm2⟩, hC⟩
    ·refine q_skip (k_block (k_then (wc_seq (wc_regionL ?_))))
     iterate 2 refine vm rfl rfl ?_
     refine vn rfl rfl ?_
     refine wl_val (ov_field0 (off := 3) fo122_3 rfl) rfl rfl rfl ?_
     refine wl_val (ov_loadAt oc32 rfl hb_g rfl) rfl rfl rfl ?_
     refine vm rfl rfl ?_
     refine wl_step (or_tdrop bt32 (fread l (m : Int)).2.1 rfl hot rfl rfl (by omega)) rfl rfl rfl ?_
     rintro v _ ⟨rfl, A46, c46, rfl, hot46, hA46⟩
     have hq_hot46 := fun g e => OwnT.lt hot46 (g := g) e
     refine vn rfl rfl ?_
     refine wl_val (ov_field0 (off := 3) fo122_3 rfl) rfl rfl rfl ?_
     refine wl_step0 (or_storeAt (cs' := [(.bool true), (.bool false), (.int .i64 (↑m : Int)), (.slice A46 (l.drop (fread l (m : Int)).2.1).length c46)]) sz32 rfl rfl rfl hb_g rfl rfl) rfl rfl ?_
     rintro _ w203 ⟨hN203, hg203⟩
     have hz_hg203 := hg203.size
     replace hot46 := OwnT.gr hot46 hg203 (by first | exact .inl rfl | (right; intro e; first | (have := hq_hot46 _ e; omega) | exact OwnT.ne hot46 hb_g (by decide) e))
     replace hC := hC.gr2 hg203 (fun x e => by cases e; first | exact .inl rfl | (right; right; omega))
     replace hb_g2 := hb_g2.gr hg203 (by intro e; cases e; omega)
     replace ho23 := Own.gr ho23 hg203 (by first | exact .inl rfl | (right; intro e; first | (have := hq_ho23 _ e; omega) | (have := Own.lt ho23 e; omega) | exact own_blk_ne ho23 hb_g (by decide) e))
     replace hb_g5 := hb_g5.gr hg203 (by intro e; cases e; omega)
     replace hb_g := hN203
     refine q_nil (k_then (wc_seq (wc_regionL ?_)))
     refine wl_val (ov_loadBlk (cs := [(.int .u8 (↑(fread l (m : Int)).1.1.toNat : Int)), (.slice A23 (fread l (m : Int)).1.2.length c23)]) ag117_2 rfl hb_g5) rfl rfl rfl ?_
     refine vm rfl rfl ?_
     refine wl_step0 (or_storeBlk (vs := [(.int .u8 (↑(fread l (m : Int)).1.1.toNat : Int)), (.slice A23 (fread l (m : Int)).1.2.length c23)]) sz117 rfl rfl (by simp [Value.oneCell']) hb_g2 rfl) rfl rfl ?_
     rintro _ w204 ⟨hN204, hg204⟩
     have hz_hg204 := hg204.size
     replace hb_g := hb_g.gr hg204 (by intro e; cases e; omega)
     replace hot46 := OwnT.gr hot46 hg204 (by first | exact .inl rfl | (right; intro e; first | (have := hq_hot46 _ e; omega) | exact OwnT.ne hot46 hb_g2 (by decide) e))
     replace hC := hC.gr2 hg204 (fun x e => by cases e; first | exact .inl rfl | (right; right; omega))
     replace ho23 := Own.gr ho23 hg204 (by first | exact .inl rfl | (right; intro e; first | (have := hq_ho23 _ e; omega) | (have := Own.lt ho23 e; omega) | exact own_blk_ne ho23 hb_g2 (by decide) e))
     replace hb_g2 := hN204
     refine va rfl rfl ?_
     refine q_nil (k_then (q_ret ?_))
     refine e_retL (rs := [.cell 2 117, .tmp 3]) (vs := [.agg #[(.int .u8 (↑(fread l (m : Int)).1.1.toNat : Int)), (.slice A23 (fread l (m : Int)).1.2.length c23)], (.int .i64 (↑(fread l (m : Int)).2.2 : Int))]) rfl ⟨⟨_, _, [(.int .u8 (↑(fread l (m : Int)).1.1.toNat : Int)), (.slice A23 (fread l (m : Int)).1.2.length c23)], rfl, ag117_2, hb_g2, rfl⟩, rfl, trivial⟩ ?_
     rw [dnext_o (by omega) (by omega)]
     exact ⟨_, _, rfl, Own.mono ho23 (by omega), ⟨_, _, hA46.symm, hb_g, hot46, hm2⟩, hC⟩
end Go.Proofs.YtiighkbehiddkaaGreat