/-
  The walks of the laws of layer 4: each returns true and leaves what was there.
-/
import Derived.Test.YtfniipfdpoeapaaLa
namespace Go.Proofs.Ytfniipfdpoeapaa
open Go.RowKit
set_option linter.unusedVariables false
theorem cl23 : callable Try.prog 23 = true := by kernel_rfl
theorem cl31 : callable Try.prog 31 = true := by kernel_rfl
theorem sz5 : (Try.prog.info? 5).map (·.size) = some 1 := by kernel_rfl

theorem varintGets_walk (w : World) (lo hi : Nat) (A : Option Addr) (c : Nat) (l : List UInt8) (hr : RdB w lo hi A c l) :
    Fn Try.prog 9 #[(.slice A l.length c)] w (fun v w' => v = .bool true ∧ Ext w w') := by
  have hE := ext_refl w
  refine fn_enter (args := [(.slice A l.length c)]) Try.func9 rfl rfl rfl ?_
  show WC _ _ _ _ [(0, (.slice A l.length c))] _
  refine wc_seq ?_
  refine wc_regionL ?_
  refine wl_val (ov_assign rfl) rfl rfl rfl ?_
  refine q_nil ?_
  refine k_then ?_
  refine wc_seq ?_
  refine wc_seq ?_
  refine wc_regionL ?_
  refine wl_val (ov_move rfl) rfl rfl rfl ?_
  refine wl_val (ov_len Try.underlying22 rfl) rfl rfl rfl ?_
  refine wl_val (ov_gtr rfl rfl) rfl rfl rfl ?_
  refine q_nil ?_
  refine k_then ?_
  refine wc_cond_d rfl (fun hc1 => ?_) (fun hc1 => ?_)
  · refine wc_seq ?_
    refine wc_regionL ?_
    refine wl_step (or_call0 cl23 rfl rfl (known04_any _)) rfl rfl rfl ?_
    rintro v w1 ⟨rfl, he9⟩
    replace hr := hr.ext he9
    replace hE := hE.tr he9
    have hz_he9 := he9.size
    refine wl_val (ov_assign rfl) rfl rfl rfl ?_
    refine q_nil ?_
    refine k_then ?_
    refine q_ret ?_
    refine k_thenR ?_
    refine e_ret rfl rfl ?_
    exact ⟨rfl, hE⟩
  · refine q_skip ?_
    refine k_then ?_
    refine wc_seq ?_
    refine wc_regionL ?_
    refine wl_val (ov_move rfl) rfl rfl rfl ?_
    refine wl_val (or_call0 cl29 rfl rfl (rget_any _ _ _ _ _ l hr)) rfl rfl rfl ?_
    refine wl_val (ov_move rfl) rfl rfl rfl ?_
    refine wl_val (ov_extract rfl rfl) rfl rfl rfl ?_
    refine wl_val (ov_extract rfl rfl) rfl rfl rfl ?_
    refine wl_val (ov_extract rfl rfl) rfl rfl rfl ?_
    refine wl_val (ov_assign rfl) rfl rfl rfl ?_
    refine wl_val (ov_assign rfl) rfl rfl rfl ?_
    refine wl_val (ov_assign rfl) rfl rfl rfl ?_
    refine q_nil ?_
    refine k_then ?_
    refine wc_seq ?_
    refine wc_regionL ?_
    refine wl_val (ov_move rfl) rfl rfl rfl ?_
    refine wl_val (ov_move rfl) rfl rfl rfl ?_
    refine wl_val (ov_move rfl) rfl rfl rfl ?_
    refine wl_val (ov_move rfl) rfl rfl rfl ?_
    refine wl_val (or_call0 cl30 rfl rfl (lget_any _ _ _ _ _ l (↑(vget l).1 : Int) (↑(vget l).2.1 : Int) (↑(vget l).2.2 : Int) hr rfl rfl rfl)) rfl rfl rfl ?_
    refine wl_val (ov_move rfl) rfl rfl rfl ?_
    refine wl_gstep (or_call0 cl23 rfl rfl (known04_any _)) rfl rfl rfl rfl rfl ?_
    rintro v w201 ⟨rfl, he22⟩
    replace hr := hr.ext he22
    replace hE := hE.tr he22
    have hz_he22 := he22.size
    refine wl_val (ov_pick_t rfl rfl) rfl rfl rfl ?_
    refine wl_val (ov_assign rfl) rfl rfl rfl ?_
    refine q_nil ?_
    refine k_then ?_
    refine q_ret ?_
    refine e_ret rfl rfl ?_
    exact ⟨rfl, hE⟩

theorem varintParts_walk (w : World) (lo hi : Nat) (A : Option Addr) (c : Nat) (l : List UInt8) (most : Int) (hm : most ≤ 9223372036854775807) (hr : RdB w lo hi A c l) :
    Fn Try.prog 10 #[(.slice A l.length c), (.int .i64 most)] w (fun v w' => v = .bool true ∧ Ext w w') := by
  replace hr := hr.top
  have hE := ext_refl w
  refine fn_enter (args := [(.slice A l.length c), (.int .i64 most)]) Try.func10 rfl rfl rfl ?_
  show WC _ _ _ _ [(0, (.slice A l.length c)), (1, (.int .i64 most))] _
  refine wc_seq ?_
  refine wc_regionL ?_
  refine wl_val (ov_assign rfl) rfl rfl rfl ?_
  refine q_nil ?_
  refine k_then ?_
  refine wc_seq ?_
  refine wc_seq ?_
  refine wc_regionL ?_
  refine wl_val (ov_move rfl) rfl rfl rfl ?_
  refine wl_val (ov_len Try.underlying22 rfl) rfl rfl rfl ?_
  refine wl_val (ov_gtr rfl rfl) rfl rfl rfl ?_
  refine q_nil ?_
  refine k_then ?_
  refine wc_cond_d rfl (fun hc1 => ?_) (fun hc1 => ?_)
  · refine wc_seq ?_
    refine wc_regionL ?_
    refine wl_step (or_call0 cl23 rfl rfl (known04_any _)) rfl rfl rfl ?_
    rintro v w1 ⟨rfl, he16⟩
    replace hr := hr.ext he16
    replace hE := hE.tr he16
    have hz_he16 := he16.size
    refine wl_val (ov_assign rfl) rfl rfl rfl ?_
    refine q_nil ?_
    refine k_then ?_
    refine q_ret ?_
    refine k_thenR ?_
    refine e_ret rfl rfl ?_
    exact ⟨rfl, hE⟩
  · refine q_skip ?_
    refine k_then ?_
    refine wc_seq ?_
    refine wc_regionL ?_
    refine wl_val (ov_move rfl) rfl rfl rfl ?_
    refine wl_val (ov_move rfl) rfl rfl rfl ?_
    refine wl_step (or_call0 cl31 rfl rfl (rgetbytes_any _ _ _ _ _ l most (by omega) hr (by omega))) rfl rfl rfl ?_
    rintro v w201 ⟨A20, c20, rfl, ho20, he20⟩
    replace hr := hr.ext he20
    replace hE := hE.tr he20
    have hz_he20 := he20.size
    have hq_ho20 := fun g e => Own.lt ho20 (g := g) e
    refine wl_val (ov_move rfl) rfl rfl rfl ?_
    refine wl_val (ov_extract rfl rfl) rfl rfl rfl ?_
    refine wl_val (ov_extract rfl rfl) rfl rfl rfl ?_
    refine wl_val (ov_extract rfl rfl) rfl rfl rfl ?_
    refine wl_val (ov_assign rfl) rfl rfl rfl ?_
    refine wl_val (ov_assign rfl) rfl rfl rfl ?_
    refine wl_val (ov_assign rfl) rfl rfl rfl ?_
    refine q_nil ?_
    refine k_then ?_
    refine wc_seq ?_
    refine wc_seq ?_
    refine wc_regionL ?_
    refine wl_val (ov_move rfl) rfl rfl rfl ?_
    refine wl_val (ov_move rfl) rfl rfl rfl ?_
    refine wl_val (ov_move rfl) rfl rfl rfl ?_
    refine wl_val (ov_bstr bt22 Try.underlying9 rfl (OwnB.rd ho20)) rfl rfl rfl ?_
    refine wl_val (ov_move rfl) rfl rfl rfl ?_
    refine wl_val (ov_move rfl) rfl rfl rfl ?_
    refine wl_step (or_call0 cl32 rfl rfl (lpart_any _ _ _ _ _ l most (by omega) (vpart l most).1 (↑(vpart l most).2.1 : Int) (↑(vpart l most).2.2 : Int) hr (by omega) rfl rfl rfl)) rfl rfl rfl ?_
    rintro v w202 ⟨rfl, he30⟩
    replace hr := hr.ext he30
    replace hE := hE.tr he30
    replace ho20 := Own.ext ho20 he30
    have hz_he30 := he30.size
    refine wl_val (ov_not rfl) rfl rfl rfl ?_
    refine q_nil ?_
    refine k_then ?_
    refine wc_cond_f rfl ?_
    refine q_skip ?_
    refine k_then ?_
    refine wc_seq ?_
    refine wc_regionL ?_
    refine wl_val (ov_move rfl) rfl rfl rfl ?_
    refine wl_step (or_bappend0 bt22 rfl rfl hr (by omega)) rfl rfl rfl ?_
    rintro v w203 ⟨A33, c33, rfl, ho33, he33⟩
    replace hr := hr.ext he33
    replace hE := hE.tr he33
    replace ho20 := Own.ext ho20 he33
    have hz_he33 := he33.size
    have hq_ho33 := fun g e => Own.lt ho33 (g := g) e
    refine wl_val (ov_assign rfl) rfl rfl rfl ?_
    refine q_nil ?_
    refine k_then ?_
    refine wc_seq ?_
    refine wc_regionL ?_
    refine wl_val (ov_move rfl) rfl rfl rfl ?_
    refine wl_val (ov_move rfl) rfl rfl rfl ?_
    refine wl_step (or_call0 cl33 rfl rfl (getbytes_any _ _ _ _ _ l most (by omega) (OwnB.rd ho33) (by omega))) rfl rfl rfl ?_
    rintro v w204 ⟨A37, c37, rfl, ho37, he37⟩
    replace hr := hr.ext he37
    replace hE := hE.tr he37
    replace ho20 := Own.ext ho20 he37
    replace ho33 := Own.ext ho33 he37
    have hz_he37 := he37.size
    have hq_ho37 := fun g e => Own.lt ho37 (g := g) e
    refine wl_val (ov_move rfl) rfl rfl rfl ?_
    refine wl_val (ov_extract rfl rfl) rfl rfl rfl ?_
    refine wl_val (ov_extract rfl rfl) rfl rfl rfl ?_
    refine wl_val (ov_extract rfl rfl) rfl rfl rfl ?_
    refine wl_val (ov_assign rfl) rfl rfl rfl ?_
    refine wl_val (ov_assign rfl) rfl rfl rfl ?_
    refine wl_val (ov_assign rfl) rfl rfl rfl ?_
    refine q_nil ?_
    refine k_then ?_
    refine wc_seq ?_
    refine wc_seq ?_
    refine wc_regionL ?_
    refine wl_val (ov_move rfl) rfl rfl rfl ?_
    refine wl_val (ov_len Try.underlying22 rfl) rfl rfl rfl ?_
    refine wl_val (ov_move rfl) rfl rfl rfl ?_
    refine q_nil ?_
    refine k_then ?_
    have hcap_8 := RdB.cap (OwnB.rd ho33)
    refine wc_block ?_
    refine wc_loop (σ := Nat × List UInt8) (fun s => l.length - s.1) (fun s => [(8, .slice A33 l.length c33), (43, .int .i64 (s.1 : Int)), (4, (.bool false)), (5, (.slice A20 (vpart l most).1.length c20)), (9, (.slice A37 (vpart l most).1.length c37)), (42, (.int .i64 (↑l.length : Int)))]) (fun s w' => OwnB w' w202.heap.size 5 A33 c33 s.2 ∧ Gr w204 w' (blk A33) ∧ s.2.length = l.length ∧ s.1 ≤ l.length) (0, l) (⟨ho33, (ext_refl _).row _, rfl, Nat.zero_le _⟩) (⟨rfl, rfl, rfl, rfl, rfl, rfl, trivial⟩) ?_
    rintro ⟨k_8, l_8⟩ w205 ⟨ho_8, hG_8, hL_8, hk_8⟩
    simp only at hL_8 hk_8
    replace ho_8 : OwnB _ _ _ _ _ l_8 := ho_8
    show WC _ _ _ _ [(8, (.slice A33 l.length c33)), (43, (.int .i64 (↑k_8 : Int))), (4, (.bool false)), (5, (.slice A20 (vpart l most).1.length c20)), (9, (.slice A37 (vpart l most).1.length c37)), (42, (.int .i64 (↑l.length : Int)))] _
    refine wc_seq ?_
    refine wc_regionL ?_
    refine wl_val (ov_lss rfl rfl) rfl rfl rfl ?_
    refine q_nil ?_
    refine k_then ?_
    refine wc_seq ?_
    refine wc_cond_d rfl (fun hc3 => ?_) (fun hc3 => ?_)
    · obtain ⟨g_8, hA_8, hg1_8, hgu_8⟩ := Own.addr ho_8 (by omega)
      subst hA_8
      refine q_skip ?_
      refine k_then ?_
      refine wc_seq ?_
      refine wc_block ?_
      refine wc_seq ?_
      refine wc_regionL ?_
      refine wl_val (ov_move rfl) rfl rfl rfl ?_
      refine wl_val (ov_assign rfl) rfl rfl rfl ?_
      refine q_nil ?_
      refine k_then ?_
      refine wc_regionL ?_
      refine wl_val (ov_move rfl) rfl rfl rfl ?_
      refine wl_val (ov_move rfl) rfl rfl rfl ?_
      refine wl_val (ov_oindex bt22.s rfl rfl rfl (by omega)) rfl rfl rfl ?_
      refine wl_val (ov_load oc5 rfl (OwnB.cellAt ho_8 (by omega))) rfl rfl rfl ?_
      refine wl_val (ov_add rfl rfl (wu8_succ _)) rfl rfl rfl ?_
      refine wl_val (ov_oindex bt22.s rfl rfl rfl (by omega)) rfl rfl rfl ?_
      refine wl_step0 (or_storeOwn sz5 rfl rfl ho_8 (by omega)) rfl rfl ?_
      rintro _ w206 ⟨ho2_8, hg2_8⟩
      have hz2_8 := hg2_8.size
      refine q_nil ?_
      refine k_block ?_
      refine k_then ?_
      refine wc_regionL ?_
      refine wl_val (ov_add rfl rfl (wi64 (by omega) (by omega))) rfl rfl rfl ?_
      refine wl_val (ov_move rfl) rfl rfl rfl ?_
      refine q_nil ?_
      refine k_loop ((k_8 + 1, l_8.set k_8 ((l_8.getD k_8 0) + 1))) (by show l.length - (k_8 + 1) < l.length - k_8; omega) (⟨rfl, rfl, rfl, rfl, rfl, rfl, trivial⟩) (⟨ho2_8, hG_8.gr hg2_8 (fun g e => .inl e), by show (List.set _ _ _).length = _; rw [List.length_set]; exact hL_8, by show k_8 + 1 ≤ _; omega⟩)
    · refine wc_spell (d := 8) rfl (v' := .slice A33 l_8.length c33) (by rw [hL_8]) ?_
      have hz_hG_8 := hG_8.size
      replace hr := hr.gr hG_8 (fun g e => by have := hq_ho33 g e; omega)
      replace hE := hE.gr hG_8 (fun g e => by have := hq_ho33 g e; omega)
      replace ho20 := Own.gr ho20 hG_8 (own_apart fun g e g2 e2 => by have := hq_ho20 g e; have := hq_ho33 g2 e2; omega)
      replace ho37 := Own.gr ho37 hG_8 (own_apart fun g e g2 e2 => by have := hq_ho37 g e; have := hq_ho33 g2 e2; omega)
      have hq_ho_8 := fun g e => Own.lt ho_8 (g := g) e
      refine q_exit ?_
      refine k_thenX ?_
      refine k_thenX ?_
      refine k_blockE ?_
      refine k_then ?_
      refine wc_seq ?_
      refine wc_regionL ?_
      refine wl_val (ov_move rfl) rfl rfl rfl ?_
      refine wl_val (ov_bstr bt22 Try.underlying9 rfl (OwnB.rd ho37)) rfl rfl rfl ?_
      refine wl_val (ov_move rfl) rfl rfl rfl ?_
      refine wl_val (ov_bstr bt22 Try.underlying9 rfl (OwnB.rd ho20)) rfl rfl rfl ?_
      refine wl_val (ov_seq rfl rfl) rfl rfl rfl ?_
      refine wl_spell (d := 57) rfl (bt (rfl)) ?_
      refine wl_val (ov_move rfl) rfl rfl rfl ?_
      refine wl_gstep (or_call0 cl23 rfl rfl (known04_any _)) rfl rfl rfl rfl rfl ?_
      rintro v w206 ⟨rfl, he59⟩
      replace hr := hr.ext he59
      replace hE := hE.tr he59
      replace ho20 := Own.ext ho20 he59
      replace ho37 := Own.ext ho37 he59
      replace ho_8 := Own.ext ho_8 he59
      have hz_he59 := he59.size
      refine wl_val (ov_pick_t rfl rfl) rfl rfl rfl ?_
      refine wl_val (ov_assign rfl) rfl rfl rfl ?_
      refine q_nil ?_
      refine k_then ?_
      refine q_ret ?_
      refine e_ret rfl rfl ?_
      exact ⟨rfl, hE⟩

end Go.Proofs.Ytfniipfdpoeapaa
