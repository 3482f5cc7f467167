/-
  The walks of the laws of layer 4: each returns true and leaves what was there.
-/
import Derived.Test.YtfniipfdpoeapaaLa
namespace Go.Proofs.Ytfniipfdpoeapaa
open Go.RowKit
set_option linter.unusedVariables false
theorem cl23 : callable Try.prog 23 = true := by kernel_rfl
theorem cl28 : callable Try.prog 28 = true := by kernel_rfl
theorem cl31 : callable Try.prog 31 = true := by kernel_rfl
theorem sz5 : (Try.prog.info? 5).map (·.size) = some 1 := by kernel_rfl

theorem varintGets_walk (w : World) (lo hi : Nat) (A : Option Addr) (c : Nat) (l : List UInt8) (hr : RdB w lo hi A c l) :
    Fn Try.prog 9 #[(.slice A l.length c)] w (fun v w' => v = .bool true ∧ Ext w w') := by
  have hE := ext_refl w
  refine fn_enter (args := [(.slice A l.length c)]) Try.func9 rfl rfl rfl ?_
  show WC _ _ _ _ [(0, (.slice A l.length c))] _
  refine wc_seq ?_
  refine wc_regionL ?_
  refine wl_val (ov_assign rfl) rfl rfl rfl ?_
  refine q_nil ?_
  refine k_then ?_
  refine wc_seq ?_
  refine wc_seq ?_
  refine wc_regionL ?_
  refine wl_val (ov_move rfl) rfl rfl rfl ?_
  refine wl_val (ov_len Try.underlying22 rfl) rfl rfl rfl ?_
  refine wl_val (ov_gtr rfl rfl) rfl rfl rfl ?_
  refine q_nil ?_
  refine k_then ?_
  refine wc_cond_d rfl (fun hc1 => ?_) (fun hc1 => ?_)
  · refine wc_seq ?_
    refine wc_regionL ?_
    refine wl_step (or_call0 cl23 rfl rfl (known04_any _)) rfl rfl rfl ?_
    rintro v w1 ⟨rfl, he9⟩
    replace hr := hr.ext he9
    replace hE := hE.tr he9
    have hz_he9 := he9.size
    refine wl_val (ov_assign rfl) rfl rfl rfl ?_
    refine q_nil ?_
    refine k_then ?_
    refine q_ret ?_
    refine k_thenR ?_
    refine e_ret rfl rfl ?_
    exact ⟨rfl, hE⟩
  · refine q_skip ?_
    refine k_then ?_
    refine wc_seq ?_
    refine wc_regionL ?_
    refine wl_val (ov_move rfl) rfl rfl rfl ?_
    refine wl_val (or_call0 cl29 rfl rfl (rget_any _ _ _ _ _ l hr)) rfl rfl rfl ?_
    refine wl_val (ov_move rfl) rfl rfl rfl ?_
    refine wl_val (ov_extract rfl rfl) rfl rfl rfl ?_
    refine wl_val (ov_extract rfl rfl) rfl rfl rfl ?_
    refine wl_val (ov_extract rfl rfl) rfl rfl rfl ?_
    refine wl_val (ov_assign rfl) rfl rfl rfl ?_
    refine wl_val (ov_assign rfl) rfl rfl rfl ?_
    refine wl_val (ov_assign rfl) rfl rfl rfl ?_
    refine q_nil ?_
    refine k_then ?_
    refine wc_seq ?_
    refine wc_regionL ?_
    refine wl_val (ov_move rfl) rfl rfl rfl ?_
    refine wl_val (ov_move rfl) rfl rfl rfl ?_
    refine wl_val (ov_move rfl) rfl rfl rfl ?_
    refine wl_val (ov_move rfl) rfl rfl rfl ?_
    refine wl_val (or_call0 cl30 rfl rfl (lget_any _ _ _ _ _ l (↑(vget l).1 : Int) (↑(vget l).2.1 : Int) (↑(vget l).2.2 : Int) hr rfl rfl rfl)) rfl rfl rfl ?_
    refine wl_val (ov_move rfl) rfl rfl rfl ?_
    refine wl_gstep (or_call0 cl23 rfl rfl (known04_any _)) rfl rfl rfl rfl rfl ?_
    rintro v w201 ⟨rfl, he22⟩
    replace hr := hr.ext he22
    replace hE := hE.tr he22
    have hz_he22 := he22.size
    refine wl_val (ov_pick_t rfl rfl) rfl rfl rfl ?_
    refine wl_val (ov_assign rfl) rfl rfl rfl ?_
    refine q_nil ?_
    refine k_then ?_
    refine q_ret ?_
    refine e_ret rfl rfl ?_
    exact ⟨rfl, hE⟩

theorem varintParts_walk (w : World) (lo hi : Nat) (A : Option Addr) (c : Nat) (l : List UInt8) (most : Int) (hm : most ≤ 9223372036854775807) (hr : RdB w lo hi A c l) :
    Fn Try.prog 10 #[(.slice A l.length c), (.int .i64 most)] w (fun v w' => v = .bool true ∧ Ext w w') := by
  replace hr := hr.top
  have hE := ext_refl w
  refine fn_enter (args := [(.slice A l.length c), (.int .i64 most)]) Try.func10 rfl rfl rfl ?_
  show WC _ _ _ _ [(0, (.slice A l.length c)), (1, (.int .i64 most))] _
  refine wc_seq ?_
  refine wc_regionL ?_
  refine wl_val (ov_assign rfl) rfl rfl rfl ?_
  refine q_nil ?_
  refine k_then ?_
  refine wc_seq ?_
  refine wc_seq ?_
  refine wc_regionL ?_
  refine wl_val (ov_move rfl) rfl rfl rfl ?_
  refine wl_val (ov_len Try.underlying22 rfl) rfl rfl rfl ?_
  refine wl_val (ov_gtr rfl rfl) rfl rfl rfl ?_
  refine q_nil ?_
  refine k_then ?_
  refine wc_cond_d rfl (fun hc1 => ?_) (fun hc1 => ?_)
  · refine wc_seq ?_
    refine wc_regionL ?_
    refine wl_step (or_call0 cl23 rfl rfl (known04_any _)) rfl rfl rfl ?_
    rintro v w1 ⟨rfl, he16⟩
    replace hr := hr.ext he16
    replace hE := hE.tr he16
    have hz_he16 := he16.size
    refine wl_val (ov_assign rfl) rfl rfl rfl ?_
    refine q_nil ?_
    refine k_then ?_
    refine q_ret ?_
    refine k_thenR ?_
    refine e_ret rfl rfl ?_
    exact ⟨rfl, hE⟩
  · refine q_skip ?_
    refine k_then ?_
    refine wc_seq ?_
    refine wc_regionL ?_
    refine wl_val (ov_move rfl) rfl rfl rfl ?_
    refine wl_val (ov_move rfl) rfl rfl rfl ?_
    refine wl_step (or_call0 cl31 rfl rfl (rgetbytes_any _ _ _ _ _ l most (by omega) hr (by omega))) rfl rfl rfl ?_
    rintro v w201 ⟨A20, c20, rfl, ho20, he20⟩
    replace hr := hr.ext he20
    replace hE := hE.tr he20
    have hz_he20 := he20.size
    have hq_ho20 := fun g e => Own.lt ho20 (g := g) e
    refine wl_val (ov_move rfl) rfl rfl rfl ?_
    refine wl_val (ov_extract rfl rfl) rfl rfl rfl ?_
    refine wl_val (ov_extract rfl rfl) rfl rfl rfl ?_
    refine wl_val (ov_extract rfl rfl) rfl rfl rfl ?_
    refine wl_val (ov_assign rfl) rfl rfl rfl ?_
    refine wl_val (ov_assign rfl) rfl rfl rfl ?_
    refine wl_val (ov_assign rfl) rfl rfl rfl ?_
    refine q_nil ?_
    refine k_then ?_
    refine wc_seq ?_
    refine wc_seq ?_
    refine wc_regionL ?_
    refine wl_val (ov_move rfl) rfl rfl rfl ?_
    refine wl_val (ov_move rfl) rfl rfl rfl ?_
    refine wl_val (ov_move rfl) rfl rfl rfl ?_
    refine wl_val (ov_bstr bt22 Try.underlying9 rfl (OwnB.rd ho20)) rfl rfl rfl ?_
    refine wl_val (ov_move rfl) rfl rfl rfl ?_
    refine wl_val (ov_move rfl) rfl rfl rfl ?_
    refine wl_step (or_call0 cl32 rfl rfl (lpart_any _ _ _ _ _ l most (by omega) (vpart l most).1 (↑(vpart l most).2.1 : Int) (↑(vpart l most).2.2 : Int) hr (by omega) rfl rfl rfl)) rfl rfl rfl ?_
    rintro v w202 ⟨rfl, he30⟩
    replace hr := hr.ext he30
    replace hE := hE.tr he30
    replace ho20 := Own.ext ho20 he30
    have hz_he30 := he30.size
    refine wl_val (ov_not rfl) rfl rfl rfl ?_
    refine q_nil ?_
    refine k_then ?_
    refine wc_cond_f rfl ?_
    refine q_skip ?_
    refine k_then ?_
    refine wc_seq ?_
    refine wc_regionL ?_
    refine wl_val (ov_move rfl) rfl rfl rfl ?_
    refine wl_step (or_bappend0 bt22 rfl rfl hr (by omega)) rfl rfl rfl ?_
    rintro v w203 ⟨A33, c33, rfl, ho33, he33⟩
    replace hr := hr.ext he33
    replace hE := hE.tr he33
    replace ho20 := Own.ext ho20 he33
    have hz_he33 := he33.size
    have hq_ho33 := fun g e => Own.lt ho33 (g := g) e
    refine wl_val (ov_assign rfl) rfl rfl rfl ?_
    refine q_nil ?_
    refine k_then ?_
    refine wc_seq ?_
    refine wc_regionL ?_
    refine wl_val (ov_move rfl) rfl rfl rfl ?_
    refine wl_val (ov_move rfl) rfl rfl rfl ?_
    refine wl_step (or_call0 cl33 rfl rfl (getbytes_any _ _ _ _ _ l most (by omega) (OwnB.rd ho33) (by omega))) rfl rfl rfl ?_
    rintro v w204 ⟨A37, c37, rfl, ho37, he37⟩
    replace hr := hr.ext he37
    replace hE := hE.tr he37
    replace ho20 := Own.ext ho20 he37
    replace ho33 := Own.ext ho33 he37
    have hz_he37 := he37.size
    have hq_ho37 := fun g e => Own.lt ho37 (g := g) e
    refine wl_val (ov_move rfl) rfl rfl rfl ?_
    refine wl_val (ov_extract rfl rfl) rfl rfl rfl ?_
    refine wl_val (ov_extract rfl rfl) rfl rfl rfl ?_
    refine wl_val (ov_extract rfl rfl) rfl rfl rfl ?_
    refine wl_val (ov_assign rfl) rfl rfl rfl ?_
    refine wl_val (ov_assign rfl) rfl rfl rfl ?_
    refine wl_val (ov_assign rfl) rfl rfl rfl ?_
    refine q_nil ?_
    refine k_then ?_
    refine wc_seq ?_
    refine wc_seq ?_
    refine wc_regionL ?_
    refine wl_val (ov_move rfl) rfl rfl rfl ?_
    refine wl_val (ov_len Try.underlying22 rfl) rfl rfl rfl ?_
    refine wl_val (ov_move rfl) rfl rfl rfl ?_
    refine q_nil ?_
    refine k_then ?_
    have hcap_8 := RdB.cap (OwnB.rd ho33)
    refine wc_block ?_
    refine wc_loop (σ := Nat × List UInt8) (fun s => l.length - s.1) (fun s => [(8, .slice A33 l.length c33), (43, .int .i64 (s.1 : Int)), (4, (.bool false)), (5, (.slice A20 (vpart l most).1.length c20)), (9, (.slice A37 (vpart l most).1.length c37)), (42, (.int .i64 (↑l.length : Int)))]) (fun s w' => OwnB w' w202.heap.size 5 A33 c33 s.2 ∧ Gr w204 w' (blk A33) ∧ s.2.length = l.length ∧ s.1 ≤ l.length) (0, l) (⟨ho33, (ext_refl _).row _, rfl, Nat.zero_le _⟩) (⟨rfl, rfl, rfl, rfl, rfl, rfl, trivial⟩) ?_
    rintro ⟨k_8, l_8⟩ w205 ⟨ho_8, hG_8, hL_8, hk_8⟩
    simp only at hL_8 hk_8
    replace ho_8 : OwnB _ _ _ _ _ l_8 := ho_8
    show WC _ _ _ _ [(8, (.slice A33 l.length c33)), (43, (.int .i64 (↑k_8 : Int))), (4, (.bool false)), (5, (.slice A20 (vpart l most).1.length c20)), (9, (.slice A37 (vpart l most).1.length c37)), (42, (.int .i64 (↑l.length : Int)))] _
    refine wc_seq ?_
    refine wc_regionL ?_
    refine wl_val (ov_lss rfl rfl) rfl rfl rfl ?_
    refine q_nil ?_
    refine k_then ?_
    refine wc_seq ?_
    refine wc_cond_d rfl (fun hc3 => ?_) (fun hc3 => ?_)
    · obtain ⟨g_8, hA_8, hg1_8, hgu_8⟩ := Own.addr ho_8 (by omega)
      subst hA_8
      refine q_skip ?_
      refine k_then ?_
      refine wc_seq ?_
      refine wc_block ?_
      refine wc_seq ?_
      refine wc_regionL ?_
      refine wl_val (ov_move rfl) rfl rfl rfl ?_
      refine wl_val (ov_assign rfl) rfl rfl rfl ?_
      refine q_nil ?_
      refine k_then ?_
      refine wc_regionL ?_
      refine wl_val (ov_move rfl) rfl rfl rfl ?_
      refine wl_val (ov_move rfl) rfl rfl rfl ?_
      refine wl_val (ov_oindex bt22.s rfl rfl rfl (by omega)) rfl rfl rfl ?_
      refine wl_val (ov_load oc5 rfl (OwnB.cellAt ho_8 (by omega))) rfl rfl rfl ?_
      refine wl_val (ov_add rfl rfl (wu8_succ _)) rfl rfl rfl ?_
      refine wl_val (ov_oindex bt22.s rfl rfl rfl (by omega)) rfl rfl rfl ?_
      refine wl_step0 (or_storeOwn sz5 rfl rfl ho_8 (by omega)) rfl rfl ?_
      rintro _ w206 ⟨ho2_8, hg2_8⟩
      have hz2_8 := hg2_8.size
      refine q_nil ?_
      refine k_block ?_
      refine k_then ?_
      refine wc_regionL ?_
      refine wl_val (ov_add rfl rfl (wi64 (by omega) (by omega))) rfl rfl rfl ?_
      refine wl_val (ov_move rfl) rfl rfl rfl ?_
      refine q_nil ?_
      refine k_loop ((k_8 + 1, l_8.set k_8 ((l_8.getD k_8 0) + 1))) (by show l.length - (k_8 + 1) < l.length - k_8; omega) (⟨rfl, rfl, rfl, rfl, rfl, rfl, trivial⟩) (⟨ho2_8, hG_8.gr hg2_8 (fun g e => .inl e), by show (List.set _ _ _).length = _; rw [List.length_set]; exact hL_8, by show k_8 + 1 ≤ _; omega⟩)
    · refine wc_spell (d := 8) rfl (v' := .slice A33 l_8.length c33) (by rw [hL_8]) ?_
      have hz_hG_8 := hG_8.size
      replace hr := hr.gr hG_8 (fun g e => by have := hq_ho33 g e; omega)
      replace hE := hE.gr hG_8 (fun g e => by have := hq_ho33 g e; omega)
      replace ho20 := Own.gr ho20 hG_8 (own_apart fun g e g2 e2 => by have := hq_ho20 g e; have := hq_ho33 g2 e2; omega)
      replace ho37 := Own.gr ho37 hG_8 (own_apart fun g e g2 e2 => by have := hq_ho37 g e; have := hq_ho33 g2 e2; omega)
      have hq_ho_8 := fun g e => Own.lt ho_8 (g := g) e
      refine q_exit ?_
      refine k_thenX ?_
      refine k_thenX ?_
      refine k_blockE ?_
      refine k_then ?_
      refine wc_seq ?_
      refine wc_regionL ?_
      refine wl_val (ov_move rfl) rfl rfl rfl ?_
      refine wl_val (ov_bstr bt22 Try.underlying9 rfl (OwnB.rd ho37)) rfl rfl rfl ?_
      refine wl_val (ov_move rfl) rfl rfl rfl ?_
      refine wl_val (ov_bstr bt22 Try.underlying9 rfl (OwnB.rd ho20)) rfl rfl rfl ?_
      refine wl_val (ov_seq rfl rfl) rfl rfl rfl ?_
      refine wl_spell (d := 57) rfl (bt (rfl)) ?_
      refine wl_val (ov_move rfl) rfl rfl rfl ?_
      refine wl_gstep (or_call0 cl23 rfl rfl (known04_any _)) rfl rfl rfl rfl rfl ?_
      rintro v w206 ⟨rfl, he59⟩
      replace hr := hr.ext he59
      replace hE := hE.tr he59
      replace ho20 := Own.ext ho20 he59
      replace ho37 := Own.ext ho37 he59
      replace ho_8 := Own.ext ho_8 he59
      have hz_he59 := he59.size
      refine wl_val (ov_pick_t rfl rfl) rfl rfl rfl ?_
      refine wl_val (ov_assign rfl) rfl rfl rfl ?_
      refine q_nil ?_
      refine k_then ?_
      refine q_ret ?_
      refine e_ret rfl rfl ?_
      exact ⟨rfl, hE⟩

theorem varintPuts_walk (w : World) (lo hi lo2 hi2 : Nat) (A : Option Addr) (c : Nat) (l : List UInt8) (n : Nat) (B : Option Addr) (c2 : Nat) (m : List UInt8) (hn : n < 18446744073709551616) (hr : RdB w lo hi A c l) (hr2 : RdB w lo2 hi2 B c2 m) :
    Fn Try.prog 8 #[(.slice A l.length c), (.int .u64 (↑n : Int)), (.slice B m.length c2)] w (fun v w' => v = .bool true ∧ Ext w w') := by
  replace hr := hr.top
  replace hr2 := hr2.top
  have hE := ext_refl w
  have hel := enc_len n
  have hel2 := enc_len m.length
  refine fn_enter (args := [(.slice A l.length c), (.int .u64 (↑n : Int)), (.slice B m.length c2)]) Try.func8 rfl rfl rfl ?_
  show WC _ _ _ _ [(0, (.slice A l.length c)), (1, (.int .u64 (↑n : Int))), (2, (.slice B m.length c2))] _
  refine wc_seq ?_
  refine wc_regionL ?_
  refine wl_val (ov_assign rfl) rfl rfl rfl ?_
  refine q_nil ?_
  refine k_then ?_
  refine wc_seq ?_
  refine wc_seq ?_
  refine wc_regionL ?_
  refine wl_val (ov_move rfl) rfl rfl rfl ?_
  refine wl_val (ov_len Try.underlying22 rfl) rfl rfl rfl ?_
  refine wl_val (ov_gtr rfl rfl) rfl rfl rfl ?_
  refine wl_case_d (d := 13) rfl (fun h300 => ?_) (fun h300 => ?_)
  · refine wl_val (ov_move rfl) rfl rfl rfl ?_
    refine wl_gskip rfl rfl rfl rfl rfl rfl ?_
    refine wl_gskip rfl rfl rfl rfl rfl rfl ?_
    refine wl_gskip rfl rfl rfl rfl rfl rfl ?_
    refine wl_val (ov_pick_t rfl rfl) rfl rfl rfl ?_
    refine q_nil ?_
    refine k_then ?_
    refine wc_cond_t rfl ?_
    refine wc_seq ?_
    refine wc_regionL ?_
    refine wl_step (or_call0 cl23 rfl rfl (known04_any _)) rfl rfl rfl ?_
    rintro v w1 ⟨rfl, he19⟩
    replace hr := hr.ext he19
    replace hr2 := hr2.ext he19
    replace hE := hE.tr he19
    have hz_he19 := he19.size
    refine wl_val (ov_assign rfl) rfl rfl rfl ?_
    refine q_nil ?_
    refine k_then ?_
    refine q_ret ?_
    refine k_thenR ?_
    refine e_ret rfl rfl ?_
    exact ⟨rfl, hE⟩
  · refine wl_val (ov_move rfl) rfl rfl rfl ?_
    refine wl_gval (ov_move rfl) rfl rfl rfl rfl rfl ?_
    refine wl_gval (ov_len Try.underlying22 rfl) rfl rfl rfl rfl rfl ?_
    refine wl_gval (ov_gtr rfl rfl) rfl rfl rfl rfl rfl ?_
    refine wl_val (ov_pick_f rfl rfl) rfl rfl rfl ?_
    refine q_nil ?_
    refine k_then ?_
    refine wc_cond_d rfl (fun hc1 => ?_) (fun hc1 => ?_)
    · refine wc_seq ?_
      refine wc_regionL ?_
      refine wl_step (or_call0 cl23 rfl rfl (known04_any _)) rfl rfl rfl ?_
      rintro v w201 ⟨rfl, he19⟩
      replace hr := hr.ext he19
      replace hr2 := hr2.ext he19
      replace hE := hE.tr he19
      have hz_he19 := he19.size
      refine wl_val (ov_assign rfl) rfl rfl rfl ?_
      refine q_nil ?_
      refine k_then ?_
      refine q_ret ?_
      refine k_thenR ?_
      refine e_ret rfl rfl ?_
      exact ⟨rfl, hE⟩
    · refine q_skip ?_
      refine k_then ?_
      refine wc_seq ?_
      refine wc_regionL ?_
      refine wl_step (or_makeBytes0 (n := 700) bt22 rfl rfl (by rfl) (by omega)) rfl rfl rfl ?_
      rintro v w201 ⟨A20, c20, rfl, ho20, he20⟩
      replace hr := hr.ext he20
      replace hr2 := hr2.ext he20
      replace hE := hE.tr he20
      have hz_he20 := he20.size
      have hq_ho20 := fun g e => Own.lt ho20 (g := g) e
      refine wl_val (ov_move rfl) rfl rfl rfl ?_
      refine wl_step (or_bappend bt22 rfl ho20 rfl hr (by simp; omega) (by omega)) rfl rfl rfl ?_
      rintro v w202 ⟨A22, c22, rfl, ho22, hg22, ha22⟩
      have hq22 := fun g e => Own.lt ho20 (g := g) e
      have hz_hg22 := hg22.size
      replace hr := hr.gr hg22 (fun g e => by have := hq22 g e; omega)
      replace hr2 := hr2.gr hg22 (fun g e => by have := hq22 g e; omega)
      replace hE := hE.gr hg22 (fun g e => by have := hq22 g e; omega)
      have hq_ho22 := fun g e => Own.lt ho22 (g := g) e
      rw [show [] ++ l = l from by simp] at ho22; rw [show [] ++ l = l from by simp]
      refine wl_val (ov_assign rfl) rfl rfl rfl ?_
      refine q_nil ?_
      refine k_then ?_
      refine wc_seq ?_
      refine wc_regionL ?_
      refine wl_val (ov_move rfl) rfl rfl rfl ?_
      refine wl_val (ov_move rfl) rfl rfl rfl ?_
      refine wl_step (or_call0 cl24 rfl rfl (put_any _ _ _ _ _ l (n) (OwnB.rd ho22) (by omega) (by omega))) rfl rfl rfl ?_
      rintro v w203 ⟨A25, c25, rfl, ho25, he25⟩
      replace hr := hr.ext he25
      replace hr2 := hr2.ext he25
      replace hE := hE.tr he25
      replace ho22 := Own.ext ho22 he25
      have hz_he25 := he25.size
      have hq_ho25 := fun g e => Own.lt ho25 (g := g) e
      refine wl_val (ov_assign rfl) rfl rfl rfl ?_
      refine q_nil ?_
      refine k_then ?_
      refine wc_seq ?_
      refine wc_regionL ?_
      refine wl_val (ov_move rfl) rfl rfl rfl ?_
      refine wl_val (ov_move rfl) rfl rfl rfl ?_
      refine wl_step (or_call0 cl25 rfl rfl (putbytes_any _ _ _ _ _ _ _ l _ _ m (OwnB.rd ho22) hr2 (by omega))) rfl rfl rfl ?_
      rintro v w204 ⟨A28, c28, rfl, ho28, he28⟩
      replace hr := hr.ext he28
      replace hr2 := hr2.ext he28
      replace hE := hE.tr he28
      replace ho22 := Own.ext ho22 he28
      replace ho25 := Own.ext ho25 he28
      have hz_he28 := he28.size
      have hq_ho28 := fun g e => Own.lt ho28 (g := g) e
      refine wl_val (ov_assign rfl) rfl rfl rfl ?_
      refine q_nil ?_
      refine k_then ?_
      refine wc_seq ?_
      refine wc_seq ?_
      refine wc_draw mixed 33 [(29, eqv (.int .u64 (↑n : Int))), (30, eqv (.int .i64 (↑(enc (n)).length : Int))), (31, eqv (.int .u64 (↑n : Int))), (32, isOwnB w204.heap.size 5 (enc (n))), (33, eqv (.int .i64 (↑(enc (n)).length : Int))), (34, eqv (.bool false)), (35, eqv (.bool false)), (36, eqv (.slice A25 (l ++ enc (n)).length c25)), (37, eqv (.string (strB (l ++ enc (n))))), (38, eqv (.slice A l.length c)), (39, eqv (.string (strB l))), (40, eqv (.int .u64 (↑n : Int))), (41, isOwnB w204.heap.size 5 (enc (n))), (42, eqv (.string (strB (enc (n))))), (43, eqv (.string (strB (l ++ (enc (n)))))), (44, eqv (.bool false)), (45, eqv (.bool false)), (46, eqv (.bool false)), (47, eqv (.slice A28 (l ++ enc m.length ++ m).length c28)), (48, eqv (.string (strB (l ++ enc m.length ++ m)))), (49, eqv (.slice A l.length c)), (50, eqv (.string (strB l))), (51, eqv (.slice B m.length c2)), (52, isOwnB w204.heap.size 5 (enc m.length ++ m)), (53, eqv (.string (strB (enc m.length ++ m)))), (54, eqv (.string (strB (l ++ (enc m.length ++ m))))), (55, eqv (.bool false)), (56, eqv (.bool false)), (57, eqv (.bool false)), (58, eqv (.slice A22 l.length c22)), (59, eqv (.string (strB l))), (60, eqv (.slice A l.length c)), (61, eqv (.string (strB l)))] [[], [0], [], [2], [3], [1, 4], [5], [6], [6, 7], [6], [6, 9], [6], [6, 11], [6, 12], [6, 10, 13], [6, 8, 14], [6, 15], [16], [17], [17, 18], [17], [17, 20], [17], [17, 22], [17, 23], [17, 21, 24], [17, 19, 25], [17, 26], [27], [28], [28, 29], [28], [28, 31]] (by kernel_rfl) rfl ⟨stb_eqv _, stb_eqv _, stb_eqv _, stb_isOwnB _ _ _, stb_eqv _, stb_eqv _, stb_eqv _, stb_eqv _, stb_eqv _, stb_eqv _, stb_eqv _, stb_eqv _, stb_isOwnB _ _ _, stb_eqv _, stb_eqv _, stb_eqv _, stb_eqv _, stb_eqv _, stb_eqv _, stb_eqv _, stb_eqv _, stb_eqv _, stb_eqv _, stb_isOwnB _ _ _, stb_eqv _, stb_eqv _, stb_eqv _, stb_eqv _, stb_eqv _, stb_eqv _, stb_eqv _, stb_eqv _, stb_eqv _, trivial⟩ ⟨?_, ?_, ?_, ?_, ?_, ?_, ?_, ?_, ?_, ?_, ?_, ?_, ?_, ?_, ?_, ?_, ?_, ?_, ?_, ?_, ?_, ?_, ?_, ?_, ?_, ?_, ?_, ?_, ?_, ?_, ?_, ?_, ?_, trivial⟩ ?_
      · intro wd hxE
        replace hr := hr.ext hxE
        replace hr2 := hr2.ext hxE
        replace hE := hE.tr hxE
        replace ho22 := Own.ext ho22 hxE
        replace ho25 := Own.ext ho25 hxE
        replace ho28 := Own.ext ho28 hxE
        have hz_hxE := hxE.size
        show OpG _ _ _ _ _ _
        exact og_plain rfl (ox_val (ov_move rfl))
      · intro wd hxE
        replace hr := hr.ext hxE
        replace hr2 := hr2.ext hxE
        replace hE := hE.tr hxE
        replace ho22 := Own.ext ho22 hxE
        replace ho25 := Own.ext ho25 hxE
        replace ho28 := Own.ext ho28 hxE
        have hz_hxE := hxE.size
        rintro _ rfl
        show OpG _ _ _ _ _ _
        exact og_plain rfl (ox_val (or_call0 cl26 rfl rfl (size_any _ (n) (by omega))))
      · intro wd hxE
        replace hr := hr.ext hxE
        replace hr2 := hr2.ext hxE
        replace hE := hE.tr hxE
        replace ho22 := Own.ext ho22 hxE
        replace ho25 := Own.ext ho25 hxE
        replace ho28 := Own.ext ho28 hxE
        have hz_hxE := hxE.size
        show OpG _ _ _ _ _ _
        exact og_plain rfl (ox_val (ov_move rfl))
      · intro wd hxE
        replace hr := hr.ext hxE
        replace hr2 := hr2.ext hxE
        replace hE := hE.tr hxE
        replace ho22 := Own.ext ho22 hxE
        replace ho25 := Own.ext ho25 hxE
        replace ho28 := Own.ext ho28 hxE
        have hz_hxE := hxE.size
        rintro _ rfl
        show OpG _ _ _ _ _ _
        refine og_plain rfl (OpRun.mono (or_call0 cl27 rfl rfl (rput_any (n) _ (by omega))) ?_)
        rintro v w205 ⟨A32, c32, rfl, ho32, he32⟩
        replace hr := hr.ext he32
        replace hr2 := hr2.ext he32
        replace hE := hE.tr he32
        replace ho22 := Own.ext ho22 he32
        replace ho25 := Own.ext ho25 he32
        replace ho28 := Own.ext ho28 he32
        have hz_he32 := he32.size
        have hq_ho32 := fun g e => Own.lt ho32 (g := g) e
        exact ⟨⟨A32, c32, rfl, Own.mono ho32 (by omega)⟩, he32⟩
      · intro wd hxE
        replace hr := hr.ext hxE
        replace hr2 := hr2.ext hxE
        replace hE := hE.tr hxE
        replace ho22 := Own.ext ho22 hxE
        replace ho25 := Own.ext ho25 hxE
        replace ho28 := Own.ext ho28 hxE
        have hz_hxE := hxE.size
        rintro _ ⟨A32, c32, rfl, ho32⟩
        show OpG _ _ _ _ _ _
        exact og_plain rfl (ox_val (ov_len Try.underlying22 rfl))
      · intro wd hxE
        replace hr := hr.ext hxE
        replace hr2 := hr2.ext hxE
        replace hE := hE.tr hxE
        replace ho22 := Own.ext ho22 hxE
        replace ho25 := Own.ext ho25 hxE
        replace ho28 := Own.ext ho28 hxE
        have hz_hxE := hxE.size
        rintro _ rfl
        rintro _ rfl
        show OpG _ _ _ _ _ _
        exact og_plain rfl (ox_F (fun h => h rfl) (ov_neq rfl rfl))
      · intro wd hxE
        replace hr := hr.ext hxE
        replace hr2 := hr2.ext hxE
        replace hE := hE.tr hxE
        replace ho22 := Own.ext ho22 hxE
        replace ho25 := Own.ext ho25 hxE
        replace ho28 := Own.ext ho28 hxE
        have hz_hxE := hxE.size
        rintro _ rfl
        show OpG _ _ _ _ _ _
        exact og_plain rfl (ox_val (ov_move rfl))
      · intro wd hxE
        replace hr := hr.ext hxE
        replace hr2 := hr2.ext hxE
        replace hE := hE.tr hxE
        replace ho22 := Own.ext ho22 hxE
        replace ho25 := Own.ext ho25 hxE
        replace ho28 := Own.ext ho28 hxE
        have hz_hxE := hxE.size
        rintro _ rfl
        show OpG _ _ _ _ _ _
        exact og_on rfl rfl rfl (ox_val (ov_move rfl))
      · intro wd hxE
        replace hr := hr.ext hxE
        replace hr2 := hr2.ext hxE
        replace hE := hE.tr hxE
        replace ho22 := Own.ext ho22 hxE
        replace ho25 := Own.ext ho25 hxE
        replace ho28 := Own.ext ho28 hxE
        have hz_hxE := hxE.size
        rintro _ rfl
        rintro _ rfl
        show OpG _ _ _ _ _ _
        exact og_on rfl rfl rfl (ox_val (ov_bstr bt22 Try.underlying9 rfl (OwnB.rd ho25)))
      · intro wd hxE
        replace hr := hr.ext hxE
        replace hr2 := hr2.ext hxE
        replace hE := hE.tr hxE
        replace ho22 := Own.ext ho22 hxE
        replace ho25 := Own.ext ho25 hxE
        replace ho28 := Own.ext ho28 hxE
        have hz_hxE := hxE.size
        rintro _ rfl
        show OpG _ _ _ _ _ _
        exact og_on rfl rfl rfl (ox_val (ov_move rfl))
      · intro wd hxE
        replace hr := hr.ext hxE
        replace hr2 := hr2.ext hxE
        replace hE := hE.tr hxE
        replace ho22 := Own.ext ho22 hxE
        replace ho25 := Own.ext ho25 hxE
        replace ho28 := Own.ext ho28 hxE
        have hz_hxE := hxE.size
        rintro _ rfl
        rintro _ rfl
        show OpG _ _ _ _ _ _
        exact og_on rfl rfl rfl (ox_val (ov_bstr bt22 Try.underlying9 rfl hr))
      · intro wd hxE
        replace hr := hr.ext hxE
        replace hr2 := hr2.ext hxE
        replace hE := hE.tr hxE
        replace ho22 := Own.ext ho22 hxE
        replace ho25 := Own.ext ho25 hxE
        replace ho28 := Own.ext ho28 hxE
        have hz_hxE := hxE.size
        rintro _ rfl
        show OpG _ _ _ _ _ _
        exact og_on rfl rfl rfl (ox_val (ov_move rfl))
      · intro wd hxE
        replace hr := hr.ext hxE
        replace hr2 := hr2.ext hxE
        replace hE := hE.tr hxE
        replace ho22 := Own.ext ho22 hxE
        replace ho25 := Own.ext ho25 hxE
        replace ho28 := Own.ext ho28 hxE
        have hz_hxE := hxE.size
        rintro _ rfl
        rintro _ rfl
        show OpG _ _ _ _ _ _
        refine og_on rfl rfl rfl (OpRun.mono (or_call0 cl27 rfl rfl (rput_any (n) _ (by omega))) ?_)
        rintro v w205 ⟨A41, c41, rfl, ho41, he41⟩
        replace hr := hr.ext he41
        replace hr2 := hr2.ext he41
        replace hE := hE.tr he41
        replace ho22 := Own.ext ho22 he41
        replace ho25 := Own.ext ho25 he41
        replace ho28 := Own.ext ho28 he41
        have hz_he41 := he41.size
        have hq_ho41 := fun g e => Own.lt ho41 (g := g) e
        exact ⟨⟨A41, c41, rfl, Own.mono ho41 (by omega)⟩, he41⟩
      · intro wd hxE
        replace hr := hr.ext hxE
        replace hr2 := hr2.ext hxE
        replace hE := hE.tr hxE
        replace ho22 := Own.ext ho22 hxE
        replace ho25 := Own.ext ho25 hxE
        replace ho28 := Own.ext ho28 hxE
        have hz_hxE := hxE.size
        rintro _ rfl
        rintro _ ⟨A41, c41, rfl, ho41⟩
        show OpG _ _ _ _ _ _
        exact og_on rfl rfl rfl (ox_val (ov_bstr bt22 Try.underlying9 rfl (OwnB.rd ho41)))
      · intro wd hxE
        replace hr := hr.ext hxE
        replace hr2 := hr2.ext hxE
        replace hE := hE.tr hxE
        replace ho22 := Own.ext ho22 hxE
        replace ho25 := Own.ext ho25 hxE
        replace ho28 := Own.ext ho28 hxE
        have hz_hxE := hxE.size
        rintro _ rfl
        rintro _ rfl
        rintro _ rfl
        show OpG _ _ _ _ _ _
        exact og_on rfl rfl rfl (ox_val (ov_sadd rfl rfl (by omega)))
      · intro wd hxE
        replace hr := hr.ext hxE
        replace hr2 := hr2.ext hxE
        replace hE := hE.tr hxE
        replace ho22 := Own.ext ho22 hxE
        replace ho25 := Own.ext ho25 hxE
        replace ho28 := Own.ext ho28 hxE
        have hz_hxE := hxE.size
        rintro _ rfl
        rintro _ rfl
        rintro _ rfl
        show OpG _ _ _ _ _ _
        exact og_on rfl rfl rfl (ox_F (fun h => h rfl) (ov_sne rfl rfl))
      · intro wd hxE
        replace hr := hr.ext hxE
        replace hr2 := hr2.ext hxE
        replace hE := hE.tr hxE
        replace ho22 := Own.ext ho22 hxE
        replace ho25 := Own.ext ho25 hxE
        replace ho28 := Own.ext ho28 hxE
        have hz_hxE := hxE.size
        rintro _ rfl
        rintro _ rfl
        show OpG _ _ _ _ _ _
        exact og_plain rfl (ox_val (ov_pick_f rfl rfl))
      · intro wd hxE
        replace hr := hr.ext hxE
        replace hr2 := hr2.ext hxE
        replace hE := hE.tr hxE
        replace ho22 := Own.ext ho22 hxE
        replace ho25 := Own.ext ho25 hxE
        replace ho28 := Own.ext ho28 hxE
        have hz_hxE := hxE.size
        rintro _ rfl
        show OpG _ _ _ _ _ _
        exact og_plain rfl (ox_val (ov_move rfl))
      · intro wd hxE
        replace hr := hr.ext hxE
        replace hr2 := hr2.ext hxE
        replace hE := hE.tr hxE
        replace ho22 := Own.ext ho22 hxE
        replace ho25 := Own.ext ho25 hxE
        replace ho28 := Own.ext ho28 hxE
        have hz_hxE := hxE.size
        rintro _ rfl
        show OpG _ _ _ _ _ _
        exact og_on rfl rfl rfl (ox_val (ov_move rfl))
      · intro wd hxE
        replace hr := hr.ext hxE
        replace hr2 := hr2.ext hxE
        replace hE := hE.tr hxE
        replace ho22 := Own.ext ho22 hxE
        replace ho25 := Own.ext ho25 hxE
        replace ho28 := Own.ext ho28 hxE
        have hz_hxE := hxE.size
        rintro _ rfl
        rintro _ rfl
        show OpG _ _ _ _ _ _
        exact og_on rfl rfl rfl (ox_val (ov_bstr bt22 Try.underlying9 rfl (OwnB.rd ho28)))
      · intro wd hxE
        replace hr := hr.ext hxE
        replace hr2 := hr2.ext hxE
        replace hE := hE.tr hxE
        replace ho22 := Own.ext ho22 hxE
        replace ho25 := Own.ext ho25 hxE
        replace ho28 := Own.ext ho28 hxE
        have hz_hxE := hxE.size
        rintro _ rfl
        show OpG _ _ _ _ _ _
        exact og_on rfl rfl rfl (ox_val (ov_move rfl))
      · intro wd hxE
        replace hr := hr.ext hxE
        replace hr2 := hr2.ext hxE
        replace hE := hE.tr hxE
        replace ho22 := Own.ext ho22 hxE
        replace ho25 := Own.ext ho25 hxE
        replace ho28 := Own.ext ho28 hxE
        have hz_hxE := hxE.size
        rintro _ rfl
        rintro _ rfl
        show OpG _ _ _ _ _ _
        exact og_on rfl rfl rfl (ox_val (ov_bstr bt22 Try.underlying9 rfl hr))
      · intro wd hxE
        replace hr := hr.ext hxE
        replace hr2 := hr2.ext hxE
        replace hE := hE.tr hxE
        replace ho22 := Own.ext ho22 hxE
        replace ho25 := Own.ext ho25 hxE
        replace ho28 := Own.ext ho28 hxE
        have hz_hxE := hxE.size
        rintro _ rfl
        show OpG _ _ _ _ _ _
        exact og_on rfl rfl rfl (ox_val (ov_move rfl))
      · intro wd hxE
        replace hr := hr.ext hxE
        replace hr2 := hr2.ext hxE
        replace hE := hE.tr hxE
        replace ho22 := Own.ext ho22 hxE
        replace ho25 := Own.ext ho25 hxE
        replace ho28 := Own.ext ho28 hxE
        have hz_hxE := hxE.size
        rintro _ rfl
        rintro _ rfl
        show OpG _ _ _ _ _ _
        refine og_on rfl rfl rfl (OpRun.mono (or_call0 cl28 rfl rfl (rputbytes_any _ _ _ _ _ m hr2 (by omega))) ?_)
        rintro v w205 ⟨A52, c52, rfl, ho52, he52⟩
        replace hr := hr.ext he52
        replace hr2 := hr2.ext he52
        replace hE := hE.tr he52
        replace ho22 := Own.ext ho22 he52
        replace ho25 := Own.ext ho25 he52
        replace ho28 := Own.ext ho28 he52
        have hz_he52 := he52.size
        have hq_ho52 := fun g e => Own.lt ho52 (g := g) e
        exact ⟨⟨A52, c52, rfl, Own.mono ho52 (by omega)⟩, he52⟩
      · intro wd hxE
        replace hr := hr.ext hxE
        replace hr2 := hr2.ext hxE
        replace hE := hE.tr hxE
        replace ho22 := Own.ext ho22 hxE
        replace ho25 := Own.ext ho25 hxE
        replace ho28 := Own.ext ho28 hxE
        have hz_hxE := hxE.size
        rintro _ rfl
        rintro _ ⟨A52, c52, rfl, ho52⟩
        show OpG _ _ _ _ _ _
        exact og_on rfl rfl rfl (ox_val (ov_bstr bt22 Try.underlying9 rfl (OwnB.rd ho52)))
      · intro wd hxE
        replace hr := hr.ext hxE
        replace hr2 := hr2.ext hxE
        replace hE := hE.tr hxE
        replace ho22 := Own.ext ho22 hxE
        replace ho25 := Own.ext ho25 hxE
        replace ho28 := Own.ext ho28 hxE
        have hz_hxE := hxE.size
        rintro _ rfl
        rintro _ rfl
        rintro _ rfl
        show OpG _ _ _ _ _ _
        exact og_on rfl rfl rfl (ox_val (ov_sadd rfl rfl (by simp; omega)))
      · intro wd hxE
        replace hr := hr.ext hxE
        replace hr2 := hr2.ext hxE
        replace hE := hE.tr hxE
        replace ho22 := Own.ext ho22 hxE
        replace ho25 := Own.ext ho25 hxE
        replace ho28 := Own.ext ho28 hxE
        have hz_hxE := hxE.size
        rintro _ rfl
        rintro _ rfl
        rintro _ rfl
        show OpG _ _ _ _ _ _
        exact og_on rfl rfl rfl (ox_F (by simp) (ov_sne rfl rfl))
      · intro wd hxE
        replace hr := hr.ext hxE
        replace hr2 := hr2.ext hxE
        replace hE := hE.tr hxE
        replace ho22 := Own.ext ho22 hxE
        replace ho25 := Own.ext ho25 hxE
        replace ho28 := Own.ext ho28 hxE
        have hz_hxE := hxE.size
        rintro _ rfl
        rintro _ rfl
        show OpG _ _ _ _ _ _
        exact og_plain rfl (ox_val (ov_pick_f rfl rfl))
      · intro wd hxE
        replace hr := hr.ext hxE
        replace hr2 := hr2.ext hxE
        replace hE := hE.tr hxE
        replace ho22 := Own.ext ho22 hxE
        replace ho25 := Own.ext ho25 hxE
        replace ho28 := Own.ext ho28 hxE
        have hz_hxE := hxE.size
        rintro _ rfl
        show OpG _ _ _ _ _ _
        exact og_plain rfl (ox_val (ov_move rfl))
      · intro wd hxE
        replace hr := hr.ext hxE
        replace hr2 := hr2.ext hxE
        replace hE := hE.tr hxE
        replace ho22 := Own.ext ho22 hxE
        replace ho25 := Own.ext ho25 hxE
        replace ho28 := Own.ext ho28 hxE
        have hz_hxE := hxE.size
        rintro _ rfl
        show OpG _ _ _ _ _ _
        exact og_on rfl rfl rfl (ox_val (ov_move rfl))
      · intro wd hxE
        replace hr := hr.ext hxE
        replace hr2 := hr2.ext hxE
        replace hE := hE.tr hxE
        replace ho22 := Own.ext ho22 hxE
        replace ho25 := Own.ext ho25 hxE
        replace ho28 := Own.ext ho28 hxE
        have hz_hxE := hxE.size
        rintro _ rfl
        rintro _ rfl
        show OpG _ _ _ _ _ _
        exact og_on rfl rfl rfl (ox_val (ov_bstr bt22 Try.underlying9 rfl (OwnB.rd ho22)))
      · intro wd hxE
        replace hr := hr.ext hxE
        replace hr2 := hr2.ext hxE
        replace hE := hE.tr hxE
        replace ho22 := Own.ext ho22 hxE
        replace ho25 := Own.ext ho25 hxE
        replace ho28 := Own.ext ho28 hxE
        have hz_hxE := hxE.size
        rintro _ rfl
        show OpG _ _ _ _ _ _
        exact og_on rfl rfl rfl (ox_val (ov_move rfl))
      · intro wd hxE
        replace hr := hr.ext hxE
        replace hr2 := hr2.ext hxE
        replace hE := hE.tr hxE
        replace ho22 := Own.ext ho22 hxE
        replace ho25 := Own.ext ho25 hxE
        replace ho28 := Own.ext ho28 hxE
        have hz_hxE := hxE.size
        rintro _ rfl
        rintro _ rfl
        show OpG _ _ _ _ _ _
        exact og_on rfl rfl rfl (ox_val (ov_bstr bt22 Try.underlying9 rfl hr))
      · intro wf6 hf6
        replace hr := hr.ext hf6
        replace hr2 := hr2.ext hf6
        replace hE := hE.tr hf6
        replace ho22 := Own.ext ho22 hf6
        replace ho25 := Own.ext ho25 hf6
        replace ho28 := Own.ext ho28 hf6
        have hz_hf6 := hf6.size
        rintro _ rfl
        rintro _ rfl
        rintro _ rfl
        rintro _ ⟨A32, c32, rfl, ho32⟩
        rintro _ rfl
        rintro _ rfl
        rintro _ rfl
        rintro _ rfl
        rintro _ rfl
        rintro _ rfl
        rintro _ rfl
        rintro _ rfl
        rintro _ ⟨A41, c41, rfl, ho41⟩
        rintro _ rfl
        rintro _ rfl
        rintro _ rfl
        rintro _ rfl
        rintro _ rfl
        rintro _ rfl
        rintro _ rfl
        rintro _ rfl
        rintro _ rfl
        rintro _ rfl
        rintro _ ⟨A52, c52, rfl, ho52⟩
        rintro _ rfl
        rintro _ rfl
        rintro _ rfl
        rintro _ rfl
        rintro _ rfl
        rintro _ rfl
        rintro _ rfl
        rintro _ rfl
        rintro _ rfl
        show WL _ _ _ [_, _] _ _ _
        refine wl_gval (ov_sne rfl rfl) rfl rfl rfl rfl rfl ?_
        refine wl_spell (d := 62) rfl (bf (fun h => h rfl)) ?_
        refine wl_val (ov_pick_f rfl rfl) rfl rfl rfl ?_
        refine q_nil ?_
        refine k_then ?_
        refine wc_cond_f rfl ?_
        refine q_skip ?_
        refine k_then ?_
        refine wc_seq ?_
        refine wc_seq ?_
        refine wc_regionL ?_
        refine wl_val (ov_move rfl) rfl rfl rfl ?_
        refine wl_val (ov_len Try.underlying22 rfl) rfl rfl rfl ?_
        refine wl_val (ov_move rfl) rfl rfl rfl ?_
        refine q_nil ?_
        refine k_then ?_
        have hcap_9 := RdB.cap (OwnB.rd ho28)
        refine wc_block ?_
        refine wc_loop (σ := Nat × List UInt8) (fun s => (l ++ enc m.length ++ m).length - s.1) (fun s => [(9, .slice A28 (l ++ enc m.length ++ m).length c28), (66, .int .i64 (s.1 : Int)), (0, (.slice A l.length c)), (1, (.int .u64 (↑n : Int))), (6, (.bool false)), (7, (.slice A22 l.length c22)), (8, (.slice A25 (l ++ enc (n)).length c25)), (65, (.int .i64 (↑(l ++ enc m.length ++ m).length : Int)))]) (fun s w' => OwnB w' w203.heap.size 5 A28 c28 s.2 ∧ Gr wf6 w' (blk A28) ∧ s.2.length = (l ++ enc m.length ++ m).length ∧ s.1 ≤ (l ++ enc m.length ++ m).length) (0, (l ++ enc m.length ++ m)) (⟨ho28, (ext_refl _).row _, rfl, Nat.zero_le _⟩) (⟨rfl, rfl, rfl, rfl, rfl, rfl, rfl, rfl, trivial⟩) ?_
        rintro ⟨k_9, l_9⟩ w205 ⟨ho_9, hG_9, hL_9, hk_9⟩
        simp only at hL_9 hk_9
        replace ho_9 : OwnB _ _ _ _ _ l_9 := ho_9
        show WC _ _ _ _ [(9, (.slice A28 (l ++ enc m.length ++ m).length c28)), (66, (.int .i64 (↑k_9 : Int))), (0, (.slice A l.length c)), (1, (.int .u64 (↑n : Int))), (6, (.bool false)), (7, (.slice A22 l.length c22)), (8, (.slice A25 (l ++ enc (n)).length c25)), (65, (.int .i64 (↑(l ++ enc m.length ++ m).length : Int)))] _
        refine wc_seq ?_
        refine wc_regionL ?_
        refine wl_val (ov_lss rfl rfl) rfl rfl rfl ?_
        refine q_nil ?_
        refine k_then ?_
        refine wc_seq ?_
        refine wc_cond_d rfl (fun hc3 => ?_) (fun hc3 => ?_)
        · obtain ⟨g_9, hA_9, hg1_9, hgu_9⟩ := Own.addr ho_9 (by omega)
          subst hA_9
          refine q_skip ?_
          refine k_then ?_
          refine wc_seq ?_
          refine wc_block ?_
          refine wc_seq ?_
          refine wc_regionL ?_
          refine wl_val (ov_move rfl) rfl rfl rfl ?_
          refine wl_val (ov_assign rfl) rfl rfl rfl ?_
          refine q_nil ?_
          refine k_then ?_
          refine wc_regionL ?_
          refine wl_val (ov_move rfl) rfl rfl rfl ?_
          refine wl_val (ov_move rfl) rfl rfl rfl ?_
          refine wl_val (ov_oindex bt22.s rfl rfl rfl (by omega)) rfl rfl rfl ?_
          refine wl_val (ov_load oc5 rfl (OwnB.cellAt ho_9 (by omega))) rfl rfl rfl ?_
          refine wl_val (ov_add rfl rfl (wu8_succ _)) rfl rfl rfl ?_
          refine wl_val (ov_oindex bt22.s rfl rfl rfl (by omega)) rfl rfl rfl ?_
          refine wl_step0 (or_storeOwn sz5 rfl rfl ho_9 (by omega)) rfl rfl ?_
          rintro _ w206 ⟨ho2_9, hg2_9⟩
          have hz2_9 := hg2_9.size
          refine q_nil ?_
          refine k_block ?_
          refine k_then ?_
          refine wc_regionL ?_
          refine wl_val (ov_add rfl rfl (wi64 (by omega) (by omega))) rfl rfl rfl ?_
          refine wl_val (ov_move rfl) rfl rfl rfl ?_
          refine q_nil ?_
          refine k_loop ((k_9 + 1, l_9.set k_9 ((l_9.getD k_9 0) + 1))) (by show (l ++ enc m.length ++ m).length - (k_9 + 1) < (l ++ enc m.length ++ m).length - k_9; omega) (⟨rfl, rfl, rfl, rfl, rfl, rfl, rfl, rfl, trivial⟩) (⟨ho2_9, hG_9.gr hg2_9 (fun g e => .inl e), by show (List.set _ _ _).length = _; rw [List.length_set]; exact hL_9, by show k_9 + 1 ≤ _; omega⟩)
        · refine wc_spell (d := 9) rfl (v' := .slice A28 l_9.length c28) (by rw [hL_9]) ?_
          have hz_hG_9 := hG_9.size
          replace hr := hr.gr hG_9 (fun g e => by have := hq_ho28 g e; omega)
          replace hr2 := hr2.gr hG_9 (fun g e => by have := hq_ho28 g e; omega)
          replace hE := hE.gr hG_9 (fun g e => by have := hq_ho28 g e; omega)
          replace ho22 := Own.gr ho22 hG_9 (own_apart fun g e g2 e2 => by have := hq_ho22 g e; have := hq_ho28 g2 e2; omega)
          replace ho25 := Own.gr ho25 hG_9 (own_apart fun g e g2 e2 => by have := hq_ho25 g e; have := hq_ho28 g2 e2; omega)
          have hq_ho_9 := fun g e => Own.lt ho_9 (g := g) e
          refine q_exit ?_
          refine k_thenX ?_
          refine k_thenX ?_
          refine k_blockE ?_
          refine k_then ?_
          refine wc_seq ?_
          refine wc_draw mixed 14 [(76, eqv (.slice A25 (l ++ enc (n)).length c25)), (77, eqv (.string (strB (l ++ enc (n))))), (78, eqv (.slice A l.length c)), (79, eqv (.string (strB l))), (80, eqv (.int .u64 (↑n : Int))), (81, isOwnB w205.heap.size 5 (enc (n))), (82, eqv (.string (strB (enc (n))))), (83, eqv (.string (strB (l ++ (enc (n)))))), (84, eqv (.bool true)), (85, eqv (.bool true)), (86, eqv (.slice A22 l.length c22)), (87, eqv (.string (strB l))), (88, eqv (.slice A l.length c)), (89, eqv (.string (strB l)))] [[], [0], [], [2], [], [4], [5], [3, 6], [1, 7], [8], [9], [9, 10], [9], [9, 12]] (by kernel_rfl) rfl ⟨stb_eqv _, stb_eqv _, stb_eqv _, stb_eqv _, stb_eqv _, stb_isOwnB _ _ _, stb_eqv _, stb_eqv _, stb_eqv _, stb_eqv _, stb_eqv _, stb_eqv _, stb_eqv _, stb_eqv _, trivial⟩ ⟨?_, ?_, ?_, ?_, ?_, ?_, ?_, ?_, ?_, ?_, ?_, ?_, ?_, ?_, trivial⟩ ?_
          · intro wd hxE
            replace hr := hr.ext hxE
            replace hr2 := hr2.ext hxE
            replace hE := hE.tr hxE
            replace ho22 := Own.ext ho22 hxE
            replace ho25 := Own.ext ho25 hxE
            replace ho_9 := Own.ext ho_9 hxE
            have hz_hxE := hxE.size
            show OpG _ _ _ _ _ _
            exact og_plain rfl (ox_val (ov_move rfl))
          · intro wd hxE
            replace hr := hr.ext hxE
            replace hr2 := hr2.ext hxE
            replace hE := hE.tr hxE
            replace ho22 := Own.ext ho22 hxE
            replace ho25 := Own.ext ho25 hxE
            replace ho_9 := Own.ext ho_9 hxE
            have hz_hxE := hxE.size
            rintro _ rfl
            show OpG _ _ _ _ _ _
            exact og_plain rfl (ox_val (ov_bstr bt22 Try.underlying9 rfl (OwnB.rd ho25)))
          · intro wd hxE
            replace hr := hr.ext hxE
            replace hr2 := hr2.ext hxE
            replace hE := hE.tr hxE
            replace ho22 := Own.ext ho22 hxE
            replace ho25 := Own.ext ho25 hxE
            replace ho_9 := Own.ext ho_9 hxE
            have hz_hxE := hxE.size
            show OpG _ _ _ _ _ _
            exact og_plain rfl (ox_val (ov_move rfl))
          · intro wd hxE
            replace hr := hr.ext hxE
            replace hr2 := hr2.ext hxE
            replace hE := hE.tr hxE
            replace ho22 := Own.ext ho22 hxE
            replace ho25 := Own.ext ho25 hxE
            replace ho_9 := Own.ext ho_9 hxE
            have hz_hxE := hxE.size
            rintro _ rfl
            show OpG _ _ _ _ _ _
            exact og_plain rfl (ox_val (ov_bstr bt22 Try.underlying9 rfl hr))
          · intro wd hxE
            replace hr := hr.ext hxE
            replace hr2 := hr2.ext hxE
            replace hE := hE.tr hxE
            replace ho22 := Own.ext ho22 hxE
            replace ho25 := Own.ext ho25 hxE
            replace ho_9 := Own.ext ho_9 hxE
            have hz_hxE := hxE.size
            show OpG _ _ _ _ _ _
            exact og_plain rfl (ox_val (ov_move rfl))
          · intro wd hxE
            replace hr := hr.ext hxE
            replace hr2 := hr2.ext hxE
            replace hE := hE.tr hxE
            replace ho22 := Own.ext ho22 hxE
            replace ho25 := Own.ext ho25 hxE
            replace ho_9 := Own.ext ho_9 hxE
            have hz_hxE := hxE.size
            rintro _ rfl
            show OpG _ _ _ _ _ _
            refine og_plain rfl (OpRun.mono (or_call0 cl27 rfl rfl (rput_any (n) _ (by omega))) ?_)
            rintro v w206 ⟨A81, c81, rfl, ho81, he81⟩
            replace hr := hr.ext he81
            replace hr2 := hr2.ext he81
            replace hE := hE.tr he81
            replace ho22 := Own.ext ho22 he81
            replace ho25 := Own.ext ho25 he81
            replace ho_9 := Own.ext ho_9 he81
            have hz_he81 := he81.size
            have hq_ho81 := fun g e => Own.lt ho81 (g := g) e
            exact ⟨⟨A81, c81, rfl, Own.mono ho81 (by omega)⟩, he81⟩
          · intro wd hxE
            replace hr := hr.ext hxE
            replace hr2 := hr2.ext hxE
            replace hE := hE.tr hxE
            replace ho22 := Own.ext ho22 hxE
            replace ho25 := Own.ext ho25 hxE
            replace ho_9 := Own.ext ho_9 hxE
            have hz_hxE := hxE.size
            rintro _ ⟨A81, c81, rfl, ho81⟩
            show OpG _ _ _ _ _ _
            exact og_plain rfl (ox_val (ov_bstr bt22 Try.underlying9 rfl (OwnB.rd ho81)))
          · intro wd hxE
            replace hr := hr.ext hxE
            replace hr2 := hr2.ext hxE
            replace hE := hE.tr hxE
            replace ho22 := Own.ext ho22 hxE
            replace ho25 := Own.ext ho25 hxE
            replace ho_9 := Own.ext ho_9 hxE
            have hz_hxE := hxE.size
            rintro _ rfl
            rintro _ rfl
            show OpG _ _ _ _ _ _
            exact og_plain rfl (ox_val (ov_sadd rfl rfl (by omega)))
          · intro wd hxE
            replace hr := hr.ext hxE
            replace hr2 := hr2.ext hxE
            replace hE := hE.tr hxE
            replace ho22 := Own.ext ho22 hxE
            replace ho25 := Own.ext ho25 hxE
            replace ho_9 := Own.ext ho_9 hxE
            have hz_hxE := hxE.size
            rintro _ rfl
            rintro _ rfl
            show OpG _ _ _ _ _ _
            exact og_plain rfl (ox_T (rfl) (ov_seq rfl rfl))
          · intro wd hxE
            replace hr := hr.ext hxE
            replace hr2 := hr2.ext hxE
            replace hE := hE.tr hxE
            replace ho22 := Own.ext ho22 hxE
            replace ho25 := Own.ext ho25 hxE
            replace ho_9 := Own.ext ho_9 hxE
            have hz_hxE := hxE.size
            rintro _ rfl
            show OpG _ _ _ _ _ _
            exact og_plain rfl (ox_val (ov_move rfl))
          · intro wd hxE
            replace hr := hr.ext hxE
            replace hr2 := hr2.ext hxE
            replace hE := hE.tr hxE
            replace ho22 := Own.ext ho22 hxE
            replace ho25 := Own.ext ho25 hxE
            replace ho_9 := Own.ext ho_9 hxE
            have hz_hxE := hxE.size
            rintro _ rfl
            show OpG _ _ _ _ _ _
            exact og_on rfl rfl rfl (ox_val (ov_move rfl))
          · intro wd hxE
            replace hr := hr.ext hxE
            replace hr2 := hr2.ext hxE
            replace hE := hE.tr hxE
            replace ho22 := Own.ext ho22 hxE
            replace ho25 := Own.ext ho25 hxE
            replace ho_9 := Own.ext ho_9 hxE
            have hz_hxE := hxE.size
            rintro _ rfl
            rintro _ rfl
            show OpG _ _ _ _ _ _
            exact og_on rfl rfl rfl (ox_val (ov_bstr bt22 Try.underlying9 rfl (OwnB.rd ho22)))
          · intro wd hxE
            replace hr := hr.ext hxE
            replace hr2 := hr2.ext hxE
            replace hE := hE.tr hxE
            replace ho22 := Own.ext ho22 hxE
            replace ho25 := Own.ext ho25 hxE
            replace ho_9 := Own.ext ho_9 hxE
            have hz_hxE := hxE.size
            rintro _ rfl
            show OpG _ _ _ _ _ _
            exact og_on rfl rfl rfl (ox_val (ov_move rfl))
          · intro wd hxE
            replace hr := hr.ext hxE
            replace hr2 := hr2.ext hxE
            replace hE := hE.tr hxE
            replace ho22 := Own.ext ho22 hxE
            replace ho25 := Own.ext ho25 hxE
            replace ho_9 := Own.ext ho_9 hxE
            have hz_hxE := hxE.size
            rintro _ rfl
            rintro _ rfl
            show OpG _ _ _ _ _ _
            exact og_on rfl rfl rfl (ox_val (ov_bstr bt22 Try.underlying9 rfl hr))
          · intro wf13 hf13
            replace hr := hr.ext hf13
            replace hr2 := hr2.ext hf13
            replace hE := hE.tr hf13
            replace ho22 := Own.ext ho22 hf13
            replace ho25 := Own.ext ho25 hf13
            replace ho_9 := Own.ext ho_9 hf13
            have hz_hf13 := hf13.size
            rintro _ rfl
            rintro _ rfl
            rintro _ rfl
            rintro _ rfl
            rintro _ rfl
            rintro _ ⟨A81, c81, rfl, ho81⟩
            rintro _ rfl
            rintro _ rfl
            rintro _ rfl
            rintro _ rfl
            rintro _ rfl
            rintro _ rfl
            rintro _ rfl
            rintro _ rfl
            show WL _ _ _ [_, _, _, _, _, _] _ _ _
            refine wl_gval (ov_seq rfl rfl) rfl rfl rfl rfl rfl ?_
            refine wl_spell (d := 90) rfl (bt (rfl)) ?_
            refine wl_val (ov_pick_t rfl rfl) rfl rfl rfl ?_
            refine wl_val (ov_move rfl) rfl rfl rfl ?_
            refine wl_gstep (or_call0 cl23 rfl rfl (known04_any _)) rfl rfl rfl rfl rfl ?_
            rintro v w206 ⟨rfl, he93⟩
            replace hr := hr.ext he93
            replace hr2 := hr2.ext he93
            replace hE := hE.tr he93
            replace ho22 := Own.ext ho22 he93
            replace ho25 := Own.ext ho25 he93
            replace ho_9 := Own.ext ho_9 he93
            have hz_he93 := he93.size
            refine wl_val (ov_pick_t rfl rfl) rfl rfl rfl ?_
            refine wl_val (ov_assign rfl) rfl rfl rfl ?_
            refine q_nil ?_
            refine k_then ?_
            refine q_ret ?_
            refine e_ret rfl rfl ?_
            exact ⟨rfl, hE⟩

end Go.Proofs.Ytfniipfdpoeapaa
