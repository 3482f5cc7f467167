/-
  The walk of DecodeAll.
-/
import Derived.Test.YtopfjpkjpmdhaaaDi
namespace Go.Proofs.Ytopfjpkjpmdhaaa
open Go.RowKit
set_option linter.unusedVariables false
set_option maxRecDepth 4000
theorem cl30 : callable Try.prog 30 = true := by kernel_rfl
theorem cl31 : callable Try.prog 31 = true := by kernel_rfl
theorem cl33 : callable Try.prog 33 = true := by kernel_rfl

theorem decodeAll_ok (w : World) (lo hi : Nat) (A : Option Addr) (c : Nat) (l : List UInt8) (hr : RdB w lo hi A c l) (m : Nat) (hm : m ≤ 2097152) :
    Fn Try.prog 8 #[(.slice A l.length c), (.int .i64 (↑m : Int))] w (fun v w' => v = .bool true ∧ Ext w w')  := by
  replace hr := hr.top
  have hE := ext_refl w
  refine fn_enter (args := [(.slice A l.length c), (.int .i64 (↑m : Int))]) Try.func8 rfl rfl rfl ?_
  show WC _ _ _ _ [(0, (.slice A l.length c)), (1, (.int .i64 (↑m : Int)))] _
  refine wc_seq ?_
  refine wc_regionL ?_
  refine wl_val (ov_assign rfl) rfl rfl rfl ?_
  refine q_nil ?_
  refine k_then ?_
  refine wc_seq ?_
  refine wc_seq ?_
  refine wc_regionL ?_
  refine wl_val (ov_move rfl) rfl rfl rfl ?_
  refine wl_val (ov_len Try.underlying26 rfl) rfl rfl rfl ?_
  refine wl_val (ov_gtr rfl rfl) rfl rfl rfl ?_
  refine wl_case_d (d := 14) rfl (fun h14 => ?_) (fun h14 => ?_)
  · refine q_nil ?_
    refine k_then ?_
    refine wc_cond_t rfl ?_
    refine wc_seq ?_
    refine wc_regionL ?_
    refine wl_step (or_call0 cl30 rfl rfl (known06_any _)) rfl rfl rfl ?_
    rintro v w1 ⟨rfl, he15⟩
    replace hr := hr.ext he15
    replace hE := hE.tr he15
    have hz_he15 := he15.size
    refine wl_val (ov_assign rfl) rfl rfl rfl ?_
    refine q_nil ?_
    refine k_then ?_
    refine q_ret ?_
    refine k_thenR ?_
    refine e_ret rfl rfl ?_
    exact ⟨rfl, hE⟩
  · refine q_nil ?_
    refine k_then ?_
    refine wc_cond_f rfl ?_
    refine q_skip ?_
    refine k_then ?_
    refine wc_seq ?_
    refine wc_seq ?_
    refine wc_regionL ?_
    refine wl_val (ov_move rfl) rfl rfl rfl ?_
    refine wl_step (or_call0 cl31 rfl rfl (rnew06_ok _ (m) (by omega))) rfl rfl rfl ?_
    rintro v w201 ⟨rfl, he18⟩
    replace hr := hr.ext he18
    replace hE := hE.tr he18
    have hz_he18 := he18.size
    refine wl_val (ov_move rfl) rfl rfl rfl ?_
    refine wl_val (ov_extract rfl rfl) rfl rfl rfl ?_
    refine wl_val (ov_extract rfl rfl) rfl rfl rfl ?_
    refine wl_step (or_alloc (cs := [(.int .i64 0), (.slice none 0 0), (.bool false)]) ze57 rfl) rfl rfl rfl ?_
    rintro v w202 ⟨g5, rfl, hb_g5, he5, hl5, hu5⟩
    replace hr := hr.ext he5
    replace hE := hE.tr he5
    have hz_he5 := he5.size
    refine wl_step0 (or_storeBlk (vs := [(.int .i64 (↑m : Int)), (.slice none 0 0), (.bool false)]) sz57 rfl rfl (by simp [Value.oneCell']) hb_g5 rfl) rfl rfl ?_
    rintro _ w203 ⟨hN203, hg203⟩
    have hz_hg203 := hg203.size
    replace hr := hr.gr hg203 (fun _ e => by cases e; omega)
    replace hE := hE.gr hg203 (fun _ e => by cases e; omega)
    replace hb_g5 := hN203
    refine wl_val (ov_assign rfl) rfl rfl rfl ?_
    refine q_nil ?_
    refine k_then ?_
    refine wc_seq ?_
    refine wc_regionL ?_
    refine wl_val (ov_move rfl) rfl rfl rfl ?_
    refine wl_val (ov_neq rfl rfl) rfl rfl rfl ?_
    refine q_nil ?_
    refine k_then ?_
    refine wc_cond_f rfl ?_
    refine q_skip ?_
    refine k_then ?_
    refine wc_seq ?_
    refine wc_regionL ?_
    refine wl_val (ov_move rfl) rfl rfl rfl ?_
    refine wl_val (ov_move rfl) rfl rfl rfl ?_
    refine wl_step (or_call0 cl33 rfl rfl (rall06_ok _ _ _ _ _ l hr (m) (by omega) (by omega))) rfl rfl rfl ?_
    rintro v w204 ⟨A49, c49, B49, d49, ys49, rfl, ho49, hp49, hFL49, hv49, he49⟩
    replace hr := hr.ext he49
    replace hE := hE.tr he49
    replace hb_g5 := hb_g5.ext he49
    have hz_he49 := he49.size
    refine wl_val (ov_move rfl) rfl rfl rfl ?_
    refine wl_val (ov_extract rfl rfl) rfl rfl rfl ?_
    refine wl_val (ov_extract rfl rfl) rfl rfl rfl ?_
    refine wl_val (ov_assign rfl) rfl rfl rfl ?_
    refine wl_val (ov_assign rfl) rfl rfl rfl ?_
    refine q_nil ?_
    refine k_then ?_
    refine wc_seq ?_
    refine wc_regionL ?_
    refine wl_val (ov_move rfl) rfl rfl rfl ?_
    refine wl_val (ov_move rfl) rfl rfl rfl ?_
    refine wl_val (ov_move rfl) rfl rfl rfl ?_
    refine wl_val (ov_move rfl) rfl rfl rfl ?_
    refine wl_step (or_call0 cl34 rfl rfl (lall_ok _ _ _ _ _ l hr (m) (by omega) (by first | omega | (simp; done)) _ _ _ _ _ _ _ _ ys49 (Own.rd ho49) (Rd.gots (Own.rd hp49)) (fun z hz => (OwnB.rd (hFL49 z hz)).mono (Nat.zero_le _) (Nat.le_refl _)) hv49)) rfl rfl rfl ?_
    rintro v w205 ⟨rfl, he56⟩
    replace hr := hr.ext he56
    replace hE := hE.tr he56
    replace hb_g5 := hb_g5.ext he56
    replace ho49 := Own.ext ho49 he56
    replace hp49 := Own.ext hp49 he56
    replace hFL49 := FL.ext hFL49 he56
    have hz_he56 := he56.size
    refine wl_val (ov_move rfl) rfl rfl rfl ?_
    refine wl_gstep (or_call0 cl30 rfl rfl (known06_any _)) rfl rfl rfl rfl rfl ?_
    rintro v w206 ⟨rfl, he58⟩
    replace hr := hr.ext he58
    replace hE := hE.tr he58
    replace hb_g5 := hb_g5.ext he58
    replace ho49 := Own.ext ho49 he58
    replace hp49 := Own.ext hp49 he58
    replace hFL49 := FL.ext hFL49 he58
    have hz_he58 := he58.size
    refine wl_val (ov_pick_t rfl rfl) rfl rfl rfl ?_
    refine wl_val (ov_assign rfl) rfl rfl rfl ?_
    refine q_nil ?_
    refine k_then ?_
    refine q_ret ?_
    refine e_ret rfl rfl ?_
    exact ⟨rfl, hE⟩

theorem decodeAll_bad (w : World) (lo hi : Nat) (A : Option Addr) (c : Nat) (l : List UInt8) (hr : RdB w lo hi A c l) (m : Int) (h : m < 0 ∨ 2097152 < m) :
    Fn Try.prog 8 #[(.slice A l.length c), (.int .i64 m)] w (fun v w' => v = .bool true ∧ Ext w w')  := by
  replace hr := hr.top
  have hE := ext_refl w
  refine fn_enter (args := [(.slice A l.length c), (.int .i64 m)]) Try.func8 rfl rfl rfl ?_
  show WC _ _ _ _ [(0, (.slice A l.length c)), (1, (.int .i64 m))] _
  refine wc_seq ?_
  refine wc_regionL ?_
  refine wl_val (ov_assign rfl) rfl rfl rfl ?_
  refine q_nil ?_
  refine k_then ?_
  refine wc_seq ?_
  refine wc_seq ?_
  refine wc_regionL ?_
  refine wl_val (ov_move rfl) rfl rfl rfl ?_
  refine wl_val (ov_len Try.underlying26 rfl) rfl rfl rfl ?_
  refine wl_val (ov_gtr rfl rfl) rfl rfl rfl ?_
  refine wl_case_d (d := 14) rfl (fun h14 => ?_) (fun h14 => ?_)
  · refine q_nil ?_
    refine k_then ?_
    refine wc_cond_t rfl ?_
    refine wc_seq ?_
    refine wc_regionL ?_
    refine wl_step (or_call0 cl30 rfl rfl (known06_any _)) rfl rfl rfl ?_
    rintro v w1 ⟨rfl, he15⟩
    replace hr := hr.ext he15
    replace hE := hE.tr he15
    have hz_he15 := he15.size
    refine wl_val (ov_assign rfl) rfl rfl rfl ?_
    refine q_nil ?_
    refine k_then ?_
    refine q_ret ?_
    refine k_thenR ?_
    refine e_ret rfl rfl ?_
    exact ⟨rfl, hE⟩
  · refine q_nil ?_
    refine k_then ?_
    refine wc_cond_f rfl ?_
    refine q_skip ?_
    refine k_then ?_
    refine wc_seq ?_
    refine wc_seq ?_
    refine wc_regionL ?_
    refine wl_val (ov_move rfl) rfl rfl rfl ?_
    refine wl_step (or_call0 cl31 rfl rfl (rnew06_bad _ m (by omega))) rfl rfl rfl ?_
    rintro v w201 ⟨rfl, he18⟩
    replace hr := hr.ext he18
    replace hE := hE.tr he18
    have hz_he18 := he18.size
    refine wl_val (ov_move rfl) rfl rfl rfl ?_
    refine wl_val (ov_extract rfl rfl) rfl rfl rfl ?_
    refine wl_val (ov_extract rfl rfl) rfl rfl rfl ?_
    refine wl_step (or_alloc (cs := [(.int .i64 0), (.slice none 0 0), (.bool false)]) ze57 rfl) rfl rfl rfl ?_
    rintro v w202 ⟨g5, rfl, hb_g5, he5, hl5, hu5⟩
    replace hr := hr.ext he5
    replace hE := hE.tr he5
    have hz_he5 := he5.size
    refine wl_step0 (or_storeBlk (vs := [(.int .i64 0), (.slice none 0 0), (.bool false)]) sz57 rfl rfl (by simp [Value.oneCell']) hb_g5 rfl) rfl rfl ?_
    rintro _ w203 ⟨hN203, hg203⟩
    have hz_hg203 := hg203.size
    replace hr := hr.gr hg203 (fun _ e => by cases e; omega)
    replace hE := hE.gr hg203 (fun _ e => by cases e; omega)
    replace hb_g5 := hN203
    refine wl_val (ov_assign rfl) rfl rfl rfl ?_
    refine q_nil ?_
    refine k_then ?_
    refine wc_seq ?_
    refine wc_regionL ?_
    refine wl_val (ov_move rfl) rfl rfl rfl ?_
    refine wl_val (ov_neq rfl rfl) rfl rfl rfl ?_
    refine q_nil ?_
    refine k_then ?_
    refine wc_cond_t rfl ?_
    refine wc_seq ?_
    refine wc_regionL ?_
    refine wl_val (ov_move rfl) rfl rfl rfl ?_
    refine wl_val (ov_move rfl) rfl rfl rfl ?_
    refine wl_step (or_call0 cl32 rfl rfl (dAll_bad _ _ _ l m (by omega))) rfl rfl rfl ?_
    rintro v w204 ⟨rfl, he26⟩
    replace hr := hr.ext he26
    replace hE := hE.tr he26
    replace hb_g5 := hb_g5.ext he26
    have hz_he26 := he26.size
    refine wl_val (ov_move rfl) rfl rfl rfl ?_
    refine wl_val (ov_extract rfl rfl) rfl rfl rfl ?_
    refine wl_val (ov_extract rfl rfl) rfl rfl rfl ?_
    refine wl_val (ov_extract rfl rfl) rfl rfl rfl ?_
    refine wl_val (ov_assign rfl) rfl rfl rfl ?_
    refine wl_val (ov_assign rfl) rfl rfl rfl ?_
    refine wl_val (ov_assign rfl) rfl rfl rfl ?_
    refine q_nil ?_
    refine k_then ?_
    refine wc_seq ?_
    refine wc_regionL ?_
    refine wl_val (ov_move rfl) rfl rfl rfl ?_
    refine wl_val (ov_len Try.underlying60 rfl) rfl rfl rfl ?_
    refine wl_val (ov_eql rfl rfl) rfl rfl rfl ?_
    refine wl_val (ov_move rfl) rfl rfl rfl ?_
    refine wl_gval (ov_move rfl) rfl rfl rfl rfl rfl ?_
    refine wl_gval (ov_len Try.underlying61 rfl) rfl rfl rfl rfl rfl ?_
    refine wl_gval (ov_eql rfl rfl) rfl rfl rfl rfl rfl ?_
    refine wl_val (ov_pick_t rfl rfl) rfl rfl rfl ?_
    refine wl_val (ov_move rfl) rfl rfl rfl ?_
    refine wl_gval (ov_move rfl) rfl rfl rfl rfl rfl ?_
    refine wl_gval (ov_move rfl) rfl rfl rfl rfl rfl ?_
    refine wl_gval (ov_eql rfl rfl) rfl rfl rfl rfl rfl ?_
    refine wl_val (ov_pick_t rfl rfl) rfl rfl rfl ?_
    refine wl_val (ov_move rfl) rfl rfl rfl ?_
    refine wl_gstep (or_call0 cl30 rfl rfl (known06_any _)) rfl rfl rfl rfl rfl ?_
    rintro v w205 ⟨rfl, he44⟩
    replace hr := hr.ext he44
    replace hE := hE.tr he44
    replace hb_g5 := hb_g5.ext he44
    have hz_he44 := he44.size
    refine wl_val (ov_pick_t rfl rfl) rfl rfl rfl ?_
    refine wl_val (ov_assign rfl) rfl rfl rfl ?_
    refine q_nil ?_
    refine k_then ?_
    refine q_ret ?_
    refine k_thenR ?_
    refine e_ret rfl rfl ?_
    exact ⟨rfl, hE⟩

theorem decodeAll_walk (w : World) (lo hi : Nat) (A : Option Addr) (c : Nat) (l : List UInt8) (hr : RdB w lo hi A c l) (m : Int) : Fn Try.prog 8 #[.slice A l.length c, .int .i64 m] w (fun v w' => v = .bool true ∧ Ext w w') := by
  by_cases h : m < 0 ∨ 2097152 < m
  · exact decodeAll_bad w lo hi A c l hr m h
  · obtain ⟨k, rfl⟩ : ∃ k : Nat, m = (k : Int) := ⟨m.toNat, by omega⟩
    exact decodeAll_ok w lo hi A c l hr k (by omega)

end Go.Proofs.Ytopfjpkjpmdhaaa
