/-
  The contracts of the reference of layer 6.
-/
import Derived.Test.YtopfjpkjpmdhaaaDg
namespace Go.Proofs.Ytopfjpkjpmdhaaa
open Go.RowKit
set_option linter.unusedVariables false
set_option maxRecDepth 4000
theorem ag57_3 : aggTy Try.prog 57 3 = true := by kernel_rfl
theorem cl45 : callable Try.prog 45 = true := by kernel_rfl
theorem cl64 : callable Try.prog 64 = true := by kernel_rfl
theorem fo57_0 : fieldOff Try.prog 57 0 = some 0 := by kernel_rfl
theorem fo57_1 : fieldOff Try.prog 57 1 = some 1 := by kernel_rfl
theorem fo57_2 : fieldOff Try.prog 57 2 = some 2 := by kernel_rfl
theorem pl57 : placesOf Try.prog 57 = some [(0, 1), (1, 1), (2, 1)] := by kernel_rfl
theorem sz57 : (Try.prog.info? 57).map (·.size) = some 3 := by kernel_rfl
theorem ze57 : zeroOf Try.prog 57 = some (.agg #[(.int .i64 0), (.slice none 0 0), (.bool false)]) := by kernel_rfl

theorem rnew06_ok (w : World) (m : Nat) (h2 : m ≤ 2097152) :
    Fn Try.prog 31 #[(.int .i64 (↑m : Int))] w (fun v w' => v = .tuple #[.agg #[.int .i64 (m : Int), .slice none 0 0, .bool false], .int .i64 0] ∧ Ext w w')  := by
  have hE := ext_refl w
  refine fn_enter (args := [(.int .i64 (↑m : Int))]) Try.func31 rfl rfl rfl ?_
  show WC _ _ _ _ [(0, (.int .i64 (↑m : Int)))] _
  refine wc_seq ?_
  refine wc_regionL ?_
  refine wl_step (or_alloc (cs := [(.int .i64 0), (.slice none 0 0), (.bool false)]) ze57 rfl) rfl rfl rfl ?_
  rintro v w1 ⟨g2, rfl, hb_g2, he2, hl2, hu2⟩
  replace hE := hE.tr he2
  have hz_he2 := he2.size
  refine wl_val (ov_assign rfl) rfl rfl rfl ?_
  refine q_nil ?_
  refine k_then ?_
  refine wc_seq ?_
  refine wc_seq ?_
  refine wc_regionL ?_
  refine wl_val (ov_move rfl) rfl rfl rfl ?_
  refine wl_val (ov_lss rfl rfl) rfl rfl rfl ?_
  refine wl_spell (d := 5) rfl (bf (by omega)) ?_
  refine wl_val (ov_move rfl) rfl rfl rfl ?_
  refine wl_gval (ov_move rfl) rfl rfl rfl rfl rfl ?_
  refine wl_gval (ov_gtr rfl rfl) rfl rfl rfl rfl rfl ?_
  refine wl_spell (d := 8) rfl (bf (by omega)) ?_
  refine wl_val (ov_pick_f rfl rfl) rfl rfl rfl ?_
  refine q_nil ?_
  refine k_then ?_
  refine wc_cond_f rfl ?_
  refine q_skip ?_
  refine k_then ?_
  refine wc_seq ?_
  refine wc_regionL ?_
  refine wl_val (ov_move rfl) rfl rfl rfl ?_
  refine wl_val (ov_build (cs := [(.int .i64 (↑m : Int)), (.slice none 0 0), (.bool false)]) ze57 pl57 rfl rfl) rfl rfl rfl ?_
  refine wl_step0 (or_storeBlk (vs := [(.int .i64 (↑m : Int)), (.slice none 0 0), (.bool false)]) sz57 rfl rfl (by simp [Value.oneCell']) hb_g2 rfl) rfl rfl ?_
  rintro _ w2 ⟨hN2, hg2⟩
  have hz_hg2 := hg2.size
  replace hE := hE.gr hg2 (fun _ e => by cases e; omega)
  replace hb_g2 := hN2
  refine wl_val (ov_assign rfl) rfl rfl rfl ?_
  refine q_nil ?_
  refine k_then ?_
  refine q_ret ?_
  refine e_retL (rs := [.cell 2 57, .tmp 3]) (vs := [.agg #[(.int .i64 (↑m : Int)), (.slice none 0 0), (.bool false)], (.int .i64 0)]) rfl ⟨⟨_, _, [(.int .i64 (↑m : Int)), (.slice none 0 0), (.bool false)], rfl, ag57_3, hb_g2, rfl⟩, rfl, trivial⟩ ?_
  exact ⟨rfl, hE⟩

theorem rnew06_bad (w : World) (m : Int) (h : m < 0 ∨ 2097152 < m) :
    Fn Try.prog 31 #[(.int .i64 m)] w (fun v w' => v = .tuple #[.agg #[.int .i64 0, .slice none 0 0, .bool false], .int .i64 2] ∧ Ext w w')  := by
  have hE := ext_refl w
  refine fn_enter (args := [(.int .i64 m)]) Try.func31 rfl rfl rfl ?_
  show WC _ _ _ _ [(0, (.int .i64 m))] _
  refine wc_seq ?_
  refine wc_regionL ?_
  refine wl_step (or_alloc (cs := [(.int .i64 0), (.slice none 0 0), (.bool false)]) ze57 rfl) rfl rfl rfl ?_
  rintro v w1 ⟨g2, rfl, hb_g2, he2, hl2, hu2⟩
  replace hE := hE.tr he2
  have hz_he2 := he2.size
  refine wl_val (ov_assign rfl) rfl rfl rfl ?_
  refine q_nil ?_
  refine k_then ?_
  refine wc_seq ?_
  refine wc_seq ?_
  refine wc_regionL ?_
  refine wl_val (ov_move rfl) rfl rfl rfl ?_
  refine wl_val (ov_lss rfl rfl) rfl rfl rfl ?_
  refine wl_case_d (d := 5) rfl (fun h5 => ?_) (fun h5 => ?_)
  · refine wl_val (ov_move rfl) rfl rfl rfl ?_
    refine wl_gskip rfl rfl rfl rfl rfl rfl ?_
    refine wl_gskip rfl rfl rfl rfl rfl rfl ?_
    refine wl_val (ov_pick_t rfl rfl) rfl rfl rfl ?_
    refine q_nil ?_
    refine k_then ?_
    refine wc_cond_t rfl ?_
    refine wc_seq ?_
    refine wc_regionL ?_
    refine wl_val (ov_build (cs := [(.int .i64 0), (.slice none 0 0), (.bool false)]) ze57 pl57 rfl rfl) rfl rfl rfl ?_
    refine wl_step0 (or_storeBlk (vs := [(.int .i64 0), (.slice none 0 0), (.bool false)]) sz57 rfl rfl (by simp [Value.oneCell']) hb_g2 rfl) rfl rfl ?_
    rintro _ w2 ⟨hN2, hg2⟩
    have hz_hg2 := hg2.size
    replace hE := hE.gr hg2 (fun _ e => by cases e; omega)
    replace hb_g2 := hN2
    refine wl_val (ov_assign rfl) rfl rfl rfl ?_
    refine q_nil ?_
    refine k_then ?_
    refine q_ret ?_
    refine k_thenR ?_
    refine e_retL (rs := [.cell 2 57, .tmp 3]) (vs := [.agg #[(.int .i64 0), (.slice none 0 0), (.bool false)], (.int .i64 2)]) rfl ⟨⟨_, _, [(.int .i64 0), (.slice none 0 0), (.bool false)], rfl, ag57_3, hb_g2, rfl⟩, rfl, trivial⟩ ?_
    exact ⟨rfl, hE⟩
  · refine wl_val (ov_move rfl) rfl rfl rfl ?_
    refine wl_gval (ov_move rfl) rfl rfl rfl rfl rfl ?_
    refine wl_gval (ov_gtr rfl rfl) rfl rfl rfl rfl rfl ?_
    refine wl_spell (d := 8) rfl (bt (by omega)) ?_
    refine wl_val (ov_pick_f rfl rfl) rfl rfl rfl ?_
    refine q_nil ?_
    refine k_then ?_
    refine wc_cond_t rfl ?_
    refine wc_seq ?_
    refine wc_regionL ?_
    refine wl_val (ov_build (cs := [(.int .i64 0), (.slice none 0 0), (.bool false)]) ze57 pl57 rfl rfl) rfl rfl rfl ?_
    refine wl_step0 (or_storeBlk (vs := [(.int .i64 0), (.slice none 0 0), (.bool false)]) sz57 rfl rfl (by simp [Value.oneCell']) hb_g2 rfl) rfl rfl ?_
    rintro _ w202 ⟨hN202, hg202⟩
    have hz_hg202 := hg202.size
    replace hE := hE.gr hg202 (fun _ e => by cases e; omega)
    replace hb_g2 := hN202
    refine wl_val (ov_assign rfl) rfl rfl rfl ?_
    refine q_nil ?_
    refine k_then ?_
    refine q_ret ?_
    refine k_thenR ?_
    refine e_retL (rs := [.cell 2 57, .tmp 3]) (vs := [.agg #[(.int .i64 0), (.slice none 0 0), (.bool false)], (.int .i64 2)]) rfl ⟨⟨_, _, [(.int .i64 0), (.slice none 0 0), (.bool false)], rfl, ag57_3, hb_g2, rfl⟩, rfl, trivial⟩ ?_
    exact ⟨rfl, hE⟩

theorem rfeed06_t (w : World) (lo hi m : Nat) (A : Option Addr) (c : Nat) (l : List UInt8) (hr : RdB w lo hi A c l) (hhi : hi ≤ w.heap.size) (hl40 : l.length ≤ 1099511627776) (lo2 hi2 : Nat) (B : Option Addr) (c2 : Nat) (q : List UInt8) (hr2 : RdB w lo2 hi2 B c2 q) (hlq : q.length ≤ 1099511627776) :
    Fn Try.prog 44 #[(.agg #[(.int .i64 (↑m : Int)), (.slice A l.length c), (.bool true)]), (.slice B q.length c2)] w (fun v w' => ∃ A' c' lo' hi', v = .tuple #[.agg #[.int .i64 (m : Int), .slice A' (dfeed true l q).length c', .bool true], .int .i64 (dchk true : Int)] ∧ RdB w' lo' hi' A' c' (dfeed true l q) ∧ hi' ≤ w'.heap.size ∧ ((lo' = lo ∧ hi' = hi) ∨ w.heap.size ≤ lo') ∧ Ext w w')  := by
  have hE := ext_refl w
  refine fn_enter (args := [(.agg #[(.int .i64 (↑m : Int)), (.slice A l.length c), (.bool true)]), (.slice B q.length c2)]) Try.func44 rfl rfl rfl ?_
  show WC _ _ _ _ [(0, (.agg #[(.int .i64 (↑m : Int)), (.slice A l.length c), (.bool true)])), (1, (.slice B q.length c2))] _
  refine wc_seq ?_
  refine wc_regionL ?_
  refine wl_step (or_box (cs := [(.int .i64 (↑m : Int)), (.slice A l.length c), (.bool true)]) rfl rfl) rfl rfl rfl ?_
  rintro v w1 ⟨g2, rfl, hb_g2, he2, hl2, hu2⟩
  replace hr := hr.ext he2
  replace hE := hE.tr he2
  have hz_he2 := he2.size
  refine wl_step (or_alloc (cs := [(.int .i64 0), (.slice none 0 0), (.bool false)]) ze57 rfl) rfl rfl rfl ?_
  rintro v w2 ⟨g4, rfl, hb_g4, he4, hl4, hu4⟩
  replace hr := hr.ext he4
  replace hE := hE.tr he4
  replace hb_g2 := hb_g2.ext he4
  have hz_he4 := he4.size
  refine wl_val (ov_assign rfl) rfl rfl rfl ?_
  refine q_nil ?_
  refine k_then ?_
  refine wc_seq ?_
  refine wc_seq ?_
  refine wc_regionL ?_
  refine wl_val (ov_field0 (off := 2) fo57_2 rfl) rfl rfl rfl ?_
  refine wl_val (ov_loadAt oc4 rfl hb_g2 rfl) rfl rfl rfl ?_
  refine q_nil ?_
  refine k_then ?_
  refine wc_cond_t rfl ?_
  refine wc_seq ?_
  refine wc_regionL ?_
  refine wl_val (ov_loadBlk (cs := [(.int .i64 (↑m : Int)), (.slice A l.length c), (.bool true)]) ag57_3 rfl hb_g2) rfl rfl rfl ?_
  refine wl_step0 (or_storeBlk (vs := [(.int .i64 (↑m : Int)), (.slice A l.length c), (.bool true)]) sz57 rfl rfl (by simp [Value.oneCell']) hb_g4 rfl) rfl rfl ?_
  rintro _ w3 ⟨hN3, hg3⟩
  have hz_hg3 := hg3.size
  replace hr := hr.gr hg3 (fun _ e => by cases e; omega)
  replace hE := hE.gr hg3 (fun _ e => by cases e; omega)
  replace hb_g2 := hb_g2.gr hg3 (by intro e; cases e; omega)
  replace hb_g4 := hN3
  refine wl_val (ov_assign rfl) rfl rfl rfl ?_
  refine q_nil ?_
  refine k_then ?_
  refine q_ret ?_
  refine k_thenR ?_
  refine e_retL (rs := [.cell 4 57, .tmp 5]) (vs := [.agg #[(.int .i64 (↑m : Int)), (.slice A l.length c), (.bool true)], (.int .i64 14)]) rfl ⟨⟨_, _, [(.int .i64 (↑m : Int)), (.slice A l.length c), (.bool true)], rfl, ag57_3, hb_g4, rfl⟩, rfl, trivial⟩ ?_
  exact ⟨_, _, lo, hi, rfl, hr, by omega, .inl ⟨rfl, rfl⟩, hE⟩

theorem rfeed06_f (w : World) (lo hi m : Nat) (A : Option Addr) (c : Nat) (l : List UInt8) (hr : RdB w lo hi A c l) (hhi : hi ≤ w.heap.size) (hl40 : l.length ≤ 1099511627776) (lo2 hi2 : Nat) (B : Option Addr) (c2 : Nat) (q : List UInt8) (hr2 : RdB w lo2 hi2 B c2 q) (hlq : q.length ≤ 1099511627776) :
    Fn Try.prog 44 #[(.agg #[(.int .i64 (↑m : Int)), (.slice A l.length c), (.bool false)]), (.slice B q.length c2)] w (fun v w' => ∃ A' c' lo' hi', v = .tuple #[.agg #[.int .i64 (m : Int), .slice A' (dfeed false l q).length c', .bool false], .int .i64 (dchk false : Int)] ∧ RdB w' lo' hi' A' c' (dfeed false l q) ∧ hi' ≤ w'.heap.size ∧ ((lo' = lo ∧ hi' = hi) ∨ w.heap.size ≤ lo') ∧ Ext w w')  := by
  replace hr2 := hr2.top
  have hE := ext_refl w
  refine fn_enter (args := [(.agg #[(.int .i64 (↑m : Int)), (.slice A l.length c), (.bool false)]), (.slice B q.length c2)]) Try.func44 rfl rfl rfl ?_
  show WC _ _ _ _ [(0, (.agg #[(.int .i64 (↑m : Int)), (.slice A l.length c), (.bool false)])), (1, (.slice B q.length c2))] _
  refine wc_seq ?_
  refine wc_regionL ?_
  refine wl_step (or_box (cs := [(.int .i64 (↑m : Int)), (.slice A l.length c), (.bool false)]) rfl rfl) rfl rfl rfl ?_
  rintro v w1 ⟨g2, rfl, hb_g2, he2, hl2, hu2⟩
  replace hr := hr.ext he2
  replace hr2 := hr2.ext he2
  replace hE := hE.tr he2
  have hz_he2 := he2.size
  refine wl_step (or_alloc (cs := [(.int .i64 0), (.slice none 0 0), (.bool false)]) ze57 rfl) rfl rfl rfl ?_
  rintro v w2 ⟨g4, rfl, hb_g4, he4, hl4, hu4⟩
  replace hr := hr.ext he4
  replace hr2 := hr2.ext he4
  replace hE := hE.tr he4
  replace hb_g2 := hb_g2.ext he4
  have hz_he4 := he4.size
  refine wl_val (ov_assign rfl) rfl rfl rfl ?_
  refine q_nil ?_
  refine k_then ?_
  refine wc_seq ?_
  refine wc_seq ?_
  refine wc_regionL ?_
  refine wl_val (ov_field0 (off := 2) fo57_2 rfl) rfl rfl rfl ?_
  refine wl_val (ov_loadAt oc4 rfl hb_g2 rfl) rfl rfl rfl ?_
  refine q_nil ?_
  refine k_then ?_
  refine wc_cond_f rfl ?_
  refine q_skip ?_
  refine k_then ?_
  refine wc_seq ?_
  refine wc_regionL ?_
  refine wl_val (ov_field0 (off := 1) fo57_1 rfl) rfl rfl rfl ?_
  refine wl_val (ov_loadAt oc26 rfl hb_g2 rfl) rfl rfl rfl ?_
  refine wl_step (or_bappend0 bt26 rfl rfl hr (by omega)) rfl rfl rfl ?_
  rintro v w3 ⟨A11, c11, rfl, ho11, he11⟩
  replace hr := hr.ext he11
  replace hr2 := hr2.ext he11
  replace hE := hE.tr he11
  replace hb_g2 := hb_g2.ext he11
  replace hb_g4 := hb_g4.ext he11
  have hz_he11 := he11.size
  have hq_ho11 := fun g e => Own.lt ho11 (g := g) e
  refine wl_val (ov_move rfl) rfl rfl rfl ?_
  refine wl_step (or_bappend bt26 rfl ho11 rfl hr2 (by omega) (by omega)) rfl rfl rfl ?_
  rintro v w4 ⟨A13, c13, rfl, ho13, hg13, ha13⟩
  have hq13 := fun g e => Own.lt ho11 (g := g) e
  have hz_hg13 := hg13.size
  replace hr := hr.gr hg13 (fun g e => by have := hq13 g e; omega)
  replace hr2 := hr2.gr hg13 (fun g e => by have := hq13 g e; omega)
  replace hE := hE.gr hg13 (fun g e => by have := hq13 g e; omega)
  replace hb_g2 := hb_g2.gr hg13 (by first | (intro e; have := hq13 _ e; omega) | exact own_blk_ne ho11 hb_g2 (by decide))
  replace hb_g4 := hb_g4.gr hg13 (by first | (intro e; have := hq13 _ e; omega) | exact own_blk_ne ho11 hb_g4 (by decide))
  have hq_ho13 := fun g e => Own.lt ho13 (g := g) e
  refine wl_val (ov_field0 (off := 1) fo57_1 rfl) rfl rfl rfl ?_
  refine wl_step0 (or_storeAt (cs' := [(.int .i64 (↑m : Int)), (.slice A13 (l ++ q).length c13), (.bool false)]) sz26 rfl rfl rfl hb_g2 rfl rfl) rfl rfl ?_
  rintro _ w5 ⟨hN5, hg5⟩
  have hz_hg5 := hg5.size
  replace hr := hr.gr hg5 (fun _ e => by cases e; omega)
  replace hr2 := hr2.gr hg5 (fun _ e => by cases e; omega)
  replace hE := hE.gr hg5 (fun _ e => by cases e; omega)
  replace hb_g4 := hb_g4.gr hg5 (by intro e; cases e; omega)
  replace ho13 := Own.gr ho13 hg5 (by first | exact .inl rfl | (right; intro e; first | (have := hq_ho13 _ e; omega) | (have := Own.lt ho13 e; omega) | exact own_blk_ne ho13 hb_g2 (by decide) e))
  replace hb_g2 := hN5
  refine q_nil ?_
  refine k_then ?_
  refine wc_seq ?_
  refine wc_regionL ?_
  refine wl_val (ov_loadBlk (cs := [(.int .i64 (↑m : Int)), (.slice A13 (l ++ q).length c13), (.bool false)]) ag57_3 rfl hb_g2) rfl rfl rfl ?_
  refine wl_step0 (or_storeBlk (vs := [(.int .i64 (↑m : Int)), (.slice A13 (l ++ q).length c13), (.bool false)]) sz57 rfl rfl (by simp [Value.oneCell']) hb_g4 rfl) rfl rfl ?_
  rintro _ w6 ⟨hN6, hg6⟩
  have hz_hg6 := hg6.size
  replace hr := hr.gr hg6 (fun _ e => by cases e; omega)
  replace hr2 := hr2.gr hg6 (fun _ e => by cases e; omega)
  replace hE := hE.gr hg6 (fun _ e => by cases e; omega)
  replace hb_g2 := hb_g2.gr hg6 (by intro e; cases e; omega)
  replace ho13 := Own.gr ho13 hg6 (by first | exact .inl rfl | (right; intro e; first | (have := hq_ho13 _ e; omega) | (have := Own.lt ho13 e; omega) | exact own_blk_ne ho13 hb_g4 (by decide) e))
  replace hb_g4 := hN6
  refine wl_val (ov_assign rfl) rfl rfl rfl ?_
  refine q_nil ?_
  refine k_then ?_
  refine q_ret ?_
  refine e_retL (rs := [.cell 4 57, .tmp 5]) (vs := [.agg #[(.int .i64 (↑m : Int)), (.slice A13 (l ++ q).length c13), (.bool false)], (.int .i64 0)]) rfl ⟨⟨_, _, [(.int .i64 (↑m : Int)), (.slice A13 (l ++ q).length c13), (.bool false)], rfl, ag57_3, hb_g4, rfl⟩, rfl, trivial⟩ ?_
  exact ⟨A13, c13, _, _, rfl, (OwnB.rd ho13).mono (Nat.le_refl _) (Nat.le_refl _), Nat.le_refl _, .inr (by omega), hE⟩

theorem rfeed06_any (w : World) (lo hi m : Nat) (A : Option Addr) (c : Nat) (l : List UInt8) (cl : Bool) (hr : RdB w lo hi A c l) (hhi : hi ≤ w.heap.size) (hl40 : l.length ≤ 1099511627776) (lo2 hi2 : Nat) (B : Option Addr) (c2 : Nat) (q : List UInt8) (hr2 : RdB w lo2 hi2 B c2 q) (hlq : q.length ≤ 1099511627776) : Fn Try.prog 44 #[.agg #[.int .i64 (m : Int), .slice A l.length c, .bool cl], .slice B q.length c2] w (fun v w' => ∃ A' c' lo' hi', v = .tuple #[.agg #[.int .i64 (m : Int), .slice A' (dfeed cl l q).length c', .bool cl], .int .i64 (dchk cl : Int)] ∧ RdB w' lo' hi' A' c' (dfeed cl l q) ∧ hi' ≤ w'.heap.size ∧ ((lo' = lo ∧ hi' = hi) ∨ w.heap.size ≤ lo') ∧ Ext w w') := by
  cases cl with
  | true => exact rfeed06_t w lo hi m A c l hr hhi hl40 lo2 hi2 B c2 q hr2 hlq
  | false => exact rfeed06_f w lo hi m A c l hr hhi hl40 lo2 hi2 B c2 q hr2 hlq

theorem rnext06_t (w : World) (lo hi m : Nat) (A : Option Addr) (c : Nat) (l : List UInt8) (hr : RdB w lo hi A c l) (hhi : hi ≤ w.heap.size) (hl40 : l.length ≤ 1099511627776) (hm : m ≤ 2097152) :
    Fn Try.prog 45 #[(.agg #[(.int .i64 (↑m : Int)), (.slice A l.length c), (.bool true)])] w (fun v w' => ∃ A' c' B c2, v = .tuple #[.agg #[.int .i64 (m : Int), .slice A' (dnext m true l).2.1.length c', .bool (dnext m true l).1], .agg #[.int .u8 ((dnext m true l).2.2.1.1.toNat : Int), .slice B (dnext m true l).2.2.1.2.length c2], .int .i64 ((dnext m true l).2.2.2 : Int)] ∧ RdB w' lo hi A' c' (dnext m true l).2.1 ∧ OwnB w' w.heap.size 5 B c2 (dnext m true l).2.2.1.2 ∧ Ext w w')  := by
  have hE := ext_refl w
  refine fn_enter (args := [(.agg #[(.int .i64 (↑m : Int)), (.slice A l.length c), (.bool true)])]) Try.func45 rfl rfl rfl ?_
  show WC _ _ _ _ [(0, (.agg #[(.int .i64 (↑m : Int)), (.slice A l.length c), (.bool true)]))] _
  refine wc_seq ?_
  refine wc_regionL ?_
  refine wl_step (or_box (cs := [(.int .i64 (↑m : Int)), (.slice A l.length c), (.bool true)]) rfl rfl) rfl rfl rfl ?_
  rintro v w1 ⟨g1, rfl, hb_g1, he1, hl1, hu1⟩
  replace hr := hr.ext he1
  replace hE := hE.tr he1
  have hz_he1 := he1.size
  refine wl_step (or_alloc (cs := [(.int .i64 0), (.slice none 0 0), (.bool false)]) ze57 rfl) rfl rfl rfl ?_
  rintro v w2 ⟨g2, rfl, hb_g2, he2, hl2, hu2⟩
  replace hr := hr.ext he2
  replace hE := hE.tr he2
  replace hb_g1 := hb_g1.ext he2
  have hz_he2 := he2.size
  refine wl_step (or_alloc (cs := [(.int .u8 0), (.slice none 0 0)]) ze72 rfl) rfl rfl rfl ?_
  rintro v w3 ⟨g3, rfl, hb_g3, he3, hl3, hu3⟩
  replace hr := hr.ext he3
  replace hE := hE.tr he3
  replace hb_g1 := hb_g1.ext he3
  replace hb_g2 := hb_g2.ext he3
  have hz_he3 := he3.size
  refine wl_val (ov_assign rfl) rfl rfl rfl ?_
  refine q_nil ?_
  refine k_then ?_
  refine wc_seq ?_
  refine wc_seq ?_
  refine wc_regionL ?_
  refine wl_val (ov_field0 (off := 2) fo57_2 rfl) rfl rfl rfl ?_
  refine wl_val (ov_loadAt oc4 rfl hb_g1 rfl) rfl rfl rfl ?_
  refine q_nil ?_
  refine k_then ?_
  refine wc_cond_t rfl ?_
  refine wc_seq ?_
  refine wc_regionL ?_
  refine wl_val (ov_loadBlk (cs := [(.int .i64 (↑m : Int)), (.slice A l.length c), (.bool true)]) ag57_3 rfl hb_g1) rfl rfl rfl ?_
  refine wl_val (ov_build (cs := [(.int .u8 0), (.slice none 0 0)]) ze72 pl72 rfl rfl) rfl rfl rfl ?_
  refine wl_step0 (or_storeBlk (vs := [(.int .i64 (↑m : Int)), (.slice A l.length c), (.bool true)]) sz57 rfl rfl (by simp [Value.oneCell']) hb_g2 rfl) rfl rfl ?_
  rintro _ w4 ⟨hN4, hg4⟩
  have hz_hg4 := hg4.size
  replace hr := hr.gr hg4 (fun _ e => by cases e; omega)
  replace hE := hE.gr hg4 (fun _ e => by cases e; omega)
  replace hb_g1 := hb_g1.gr hg4 (by intro e; cases e; omega)
  replace hb_g3 := hb_g3.gr hg4 (by intro e; cases e; omega)
  replace hb_g2 := hN4
  refine wl_step0 (or_storeBlk (vs := [(.int .u8 0), (.slice none 0 0)]) sz72 rfl rfl (by simp [Value.oneCell']) hb_g3 rfl) rfl rfl ?_
  rintro _ w5 ⟨hN5, hg5⟩
  have hz_hg5 := hg5.size
  replace hr := hr.gr hg5 (fun _ e => by cases e; omega)
  replace hE := hE.gr hg5 (fun _ e => by cases e; omega)
  replace hb_g1 := hb_g1.gr hg5 (by intro e; cases e; omega)
  replace hb_g2 := hb_g2.gr hg5 (by intro e; cases e; omega)
  replace hb_g3 := hN5
  refine wl_val (ov_assign rfl) rfl rfl rfl ?_
  refine q_nil ?_
  refine k_then ?_
  refine q_ret ?_
  refine k_thenR ?_
  refine e_retL (rs := [.cell 2 57, .cell 3 72, .tmp 4]) (vs := [.agg #[(.int .i64 (↑m : Int)), (.slice A l.length c), (.bool true)], .agg #[(.int .u8 0), (.slice none 0 0)], (.int .i64 14)]) rfl ⟨⟨_, _, [(.int .i64 (↑m : Int)), (.slice A l.length c), (.bool true)], rfl, ag57_3, hb_g2, rfl⟩, ⟨_, _, [(.int .u8 0), (.slice none 0 0)], rfl, ag72_2, hb_g3, rfl⟩, rfl, trivial⟩ ?_
  exact ⟨A, c, none, 0, rfl, hr, Own.nil_ _ _ _ _, hE⟩

theorem rnext06_f (w : World) (lo hi m : Nat) (A : Option Addr) (c : Nat) (l : List UInt8) (hr : RdB w lo hi A c l) (hhi : hi ≤ w.heap.size) (hl40 : l.length ≤ 1099511627776) (hm : m ≤ 2097152) :
    Fn Try.prog 45 #[(.agg #[(.int .i64 (↑m : Int)), (.slice A l.length c), (.bool false)])] w (fun v w' => ∃ A' c' B c2, v = .tuple #[.agg #[.int .i64 (m : Int), .slice A' (dnext m false l).2.1.length c', .bool (dnext m false l).1], .agg #[.int .u8 ((dnext m false l).2.2.1.1.toNat : Int), .slice B (dnext m false l).2.2.1.2.length c2], .int .i64 ((dnext m false l).2.2.2 : Int)] ∧ RdB w' lo hi A' c' (dnext m false l).2.1 ∧ OwnB w' w.heap.size 5 B c2 (dnext m false l).2.2.1.2 ∧ Ext w w')  := by
  have hfc := fread_cases l hm
  have hfp := fread_props l (m : Int)
  have hE := ext_refl w
  refine fn_enter (args := [(.agg #[(.int .i64 (↑m : Int)), (.slice A l.length c), (.bool false)])]) Try.func45 rfl rfl rfl ?_
  show WC _ _ _ _ [(0, (.agg #[(.int .i64 (↑m : Int)), (.slice A l.length c), (.bool false)]))] _
  refine wc_seq ?_
  refine wc_regionL ?_
  refine wl_step (or_box (cs := [(.int .i64 (↑m : Int)), (.slice A l.length c), (.bool false)]) rfl rfl) rfl rfl rfl ?_
  rintro v w1 ⟨g1, rfl, hb_g1, he1, hl1, hu1⟩
  replace hr := hr.ext he1
  replace hE := hE.tr he1
  have hz_he1 := he1.size
  refine wl_step (or_alloc (cs := [(.int .i64 0), (.slice none 0 0), (.bool false)]) ze57 rfl) rfl rfl rfl ?_
  rintro v w2 ⟨g2, rfl, hb_g2, he2, hl2, hu2⟩
  replace hr := hr.ext he2
  replace hE := hE.tr he2
  replace hb_g1 := hb_g1.ext he2
  have hz_he2 := he2.size
  refine wl_step (or_alloc (cs := [(.int .u8 0), (.slice none 0 0)]) ze72 rfl) rfl rfl rfl ?_
  rintro v w3 ⟨g3, rfl, hb_g3, he3, hl3, hu3⟩
  replace hr := hr.ext he3
  replace hE := hE.tr he3
  replace hb_g1 := hb_g1.ext he3
  replace hb_g2 := hb_g2.ext he3
  have hz_he3 := he3.size
  refine wl_val (ov_assign rfl) rfl rfl rfl ?_
  refine q_nil ?_
  refine k_then ?_
  refine wc_seq ?_
  refine wc_seq ?_
  refine wc_regionL ?_
  refine wl_val (ov_field0 (off := 2) fo57_2 rfl) rfl rfl rfl ?_
  refine wl_val (ov_loadAt oc4 rfl hb_g1 rfl) rfl rfl rfl ?_
  refine q_nil ?_
  refine k_then ?_
  refine wc_cond_f rfl ?_
  refine q_skip ?_
  refine k_then ?_
  refine wc_seq ?_
  refine wc_regionL ?_
  refine wl_val (ov_field0 (off := 1) fo57_1 rfl) rfl rfl rfl ?_
  refine wl_val (ov_loadAt oc26 rfl hb_g1 rfl) rfl rfl rfl ?_
  refine wl_val (ov_field0 (off := 0) fo57_0 rfl) rfl rfl rfl ?_
  refine wl_val (ov_loadAt oc3 rfl hb_g1 rfl) rfl rfl rfl ?_
  refine wl_step (or_call0 cl64 rfl rfl (rfread_any _ _ _ _ _ l (↑m : Int) (by omega) (by omega) hr (by omega))) rfl rfl rfl ?_
  rintro v w4 ⟨A17, c17, rfl, ho17, he17⟩
  replace hr := hr.ext he17
  replace hE := hE.tr he17
  replace hb_g1 := hb_g1.ext he17
  replace hb_g2 := hb_g2.ext he17
  replace hb_g3 := hb_g3.ext he17
  have hz_he17 := he17.size
  have hq_ho17 := fun g e => Own.lt ho17 (g := g) e
  refine wl_val (ov_move rfl) rfl rfl rfl ?_
  refine wl_val (ov_extract rfl rfl) rfl rfl rfl ?_
  refine wl_val (ov_extract rfl rfl) rfl rfl rfl ?_
  refine wl_val (ov_extract rfl rfl) rfl rfl rfl ?_
  refine wl_step (or_alloc (cs := [(.int .u8 0), (.slice none 0 0)]) ze72 rfl) rfl rfl rfl ?_
  rintro v w5 ⟨g5, rfl, hb_g5, he5, hl5, hu5⟩
  replace hr := hr.ext he5
  replace hE := hE.tr he5
  replace hb_g1 := hb_g1.ext he5
  replace hb_g2 := hb_g2.ext he5
  replace hb_g3 := hb_g3.ext he5
  replace ho17 := Own.ext ho17 he5
  have hz_he5 := he5.size
  refine wl_step0 (or_storeBlk (vs := [(.int .u8 (↑(fread l (↑m : Int)).1.1.toNat : Int)), (.slice A17 (fread l (↑m : Int)).1.2.length c17)]) sz72 rfl rfl (by simp [Value.oneCell']) hb_g5 rfl) rfl rfl ?_
  rintro _ w6 ⟨hN6, hg6⟩
  have hz_hg6 := hg6.size
  replace hr := hr.gr hg6 (fun _ e => by cases e; omega)
  replace hE := hE.gr hg6 (fun _ e => by cases e; omega)
  replace hb_g1 := hb_g1.gr hg6 (by intro e; cases e; omega)
  replace hb_g2 := hb_g2.gr hg6 (by intro e; cases e; omega)
  replace hb_g3 := hb_g3.gr hg6 (by intro e; cases e; omega)
  replace ho17 := Own.gr ho17 hg6 (by first | exact .inl rfl | (right; intro e; first | (have := hq_ho17 _ e; omega) | (have := Own.lt ho17 e; omega) | exact own_blk_ne ho17 hb_g5 (by decide) e))
  replace hb_g5 := hN6
  refine wl_val (ov_assign rfl) rfl rfl rfl ?_
  refine wl_val (ov_assign rfl) rfl rfl rfl ?_
  refine q_nil ?_
  refine k_then ?_
  refine wc_seq ?_
  refine wc_seq ?_
  refine wc_regionL ?_
  refine wl_val (ov_move rfl) rfl rfl rfl ?_
  refine q_nil ?_
  refine k_then ?_
  refine wc_block ?_
  refine wc_seq ?_
  refine wc_regionL ?_
  refine wl_val (ov_eql rfl rfl) rfl rfl rfl ?_
  refine wl_val (ov_assign rfl) rfl rfl rfl ?_
  refine q_nil ?_
  refine k_then ?_
  refine wc_cond_d rfl (fun hc2 => ?_) (fun hc2 => ?_)
  · refine wc_regionL ?_
    refine wl_val (ov_field0 (off := 1) fo57_1 rfl) rfl rfl rfl ?_
    refine wl_val (ov_loadAt oc26 rfl hb_g1 rfl) rfl rfl rfl ?_
    refine wl_val (ov_move rfl) rfl rfl rfl ?_
    have hcap27 := RdB.cap hr
    refine wl_step (or_bslice bt26 rfl hr (bounds_l rfl (by omega) (by omega)) (by omega) (by omega) (by omega) (by omega)) rfl rfl rfl ?_
    rintro v _ ⟨rfl, A27, c27, rfl, hr27, hl27⟩
    have hs27 : (l.drop (Int.toNat (↑(fread l (↑m : Int)).2.1 : Int))).take (l.length - (Int.toNat (↑(fread l (↑m : Int)).2.1 : Int))) = (l.drop (fread l (m : Int)).2.1) := (by rw [Int.toNat_natCast, List.take_of_length_le (by simp)])
    rw [hs27] at hr27 hl27; rw [hs27]; clear hs27
    refine wl_val (ov_field0 (off := 1) fo57_1 rfl) rfl rfl rfl ?_
    refine wl_step0 (or_storeAt (cs' := [(.int .i64 (↑m : Int)), (.slice A27 (l.drop (fread l (m : Int)).2.1).length c27), (.bool false)]) sz26 rfl rfl rfl hb_g1 rfl rfl) rfl rfl ?_
    rintro _ w7 ⟨hN7, hg7⟩
    have hz_hg7 := hg7.size
    replace hr := hr.gr hg7 (fun _ e => by cases e; omega)
    replace hE := hE.gr hg7 (fun _ e => by cases e; omega)
    replace hb_g2 := hb_g2.gr hg7 (by intro e; cases e; omega)
    replace hb_g3 := hb_g3.gr hg7 (by intro e; cases e; omega)
    replace ho17 := Own.gr ho17 hg7 (by first | exact .inl rfl | (right; intro e; first | (have := hq_ho17 _ e; omega) | (have := Own.lt ho17 e; omega) | exact own_blk_ne ho17 hb_g1 (by decide) e))
    replace hb_g5 := hb_g5.gr hg7 (by intro e; cases e; omega)
    replace hr27 := hr27.gr hg7 (fun _ e => by cases e; omega)
    replace hb_g1 := hN7
    refine q_nil ?_
    refine k_block ?_
    refine k_then ?_
    refine wc_seq ?_
    refine wc_drawA mixed ?_
    intro w8 hx12
    replace hr := hr.ext hx12
    replace hE := hE.tr hx12
    replace hb_g1 := hb_g1.ext hx12
    replace hb_g2 := hb_g2.ext hx12
    replace hb_g3 := hb_g3.ext hx12
    replace ho17 := Own.ext ho17 hx12
    replace hb_g5 := hb_g5.ext hx12
    replace hr27 := hr27.ext hx12
    have hz_hx12 := hx12.size
    refine wa_main (RT w.heap.size) rt1 rt2 rt3 0 5 [(39, eqv (.agg #[(.int .i64 (↑m : Int)), (.slice A27 (l.drop (fread l (m : Int)).2.1).length c27), (.bool false)])), (40, eqv (.agg #[(.int .u8 (↑(fread l (↑m : Int)).1.1.toNat : Int)), (.slice A17 (fread l (↑m : Int)).1.2.length c17)])), (41, eqv (.int .i64 (↑(fread l (↑m : Int)).2.2 : Int))), (45, (fun _ w => Blk w g2 57 [(.int .i64 (↑m : Int)), (.slice A27 (l.drop (fread l (m : Int)).2.1).length c27), (.bool false)])), (46, (fun _ w => Blk w g3 72 [(.int .u8 (↑(fread l (↑m : Int)).1.1.toNat : Int)), (.slice A17 (fread l (↑m : Int)).1.2.length c17)]))] [[], [], [], [0], [1]] [[57, 72], [57, 72], [57, 72], [72], [57]] [[], [57], [57, 72], [], [57]] [none, none, none, some 57, some 72] [true, true, true, true, true] [57, 72] _ [] [] (fun _ _ h => h) trivial (by kernel_rfl) rfl ⟨stbA (fun _ => stb_eqv _) _, stbA (fun _ => stb_eqv _) _, stbA (fun _ => stb_eqv _) _, ⟨fun _ w w' hb he => hb.ext he, fun e he v w w' hb k => RT.bk k hb (by simp at he; first | (subst he; decide) | (rcases he with rfl | rfl <;> decide) | (rcases he with rfl | rfl | rfl <;> decide))⟩, ⟨fun _ w w' hb he => hb.ext he, fun e he v w w' hb k => RT.bk k hb (by simp at he; first | (subst he; decide) | (rcases he with rfl | rfl <;> decide) | (rcases he with rfl | rfl | rfl <;> decide))⟩, trivial⟩ ⟨?_, ?_, ?_, ?_, ?_, trivial⟩ ?_
    · intro wd hxE
      replace hxE : Ext _ _ := rt_nil hxE
      replace hr := hr.ext hxE
      replace hE := hE.tr hxE
      replace hb_g1 := hb_g1.ext hxE
      replace hb_g2 := hb_g2.ext hxE
      replace hb_g3 := hb_g3.ext hxE
      replace ho17 := Own.ext ho17 hxE
      replace hb_g5 := hb_g5.ext hxE
      replace hr27 := hr27.ext hxE
      have hz_hxE := hxE.size
      show OpG _ _ _ _ _ _
      exact og_plain rfl (ox_val (ov_loadBlk (cs := [(.int .i64 (↑m : Int)), (.slice A27 (l.drop (fread l (m : Int)).2.1).length c27), (.bool false)]) ag57_3 rfl hb_g1))
    · intro wd hxE
      have hz_hxE := hxE.size
      replace hr := hxE.rd hr (by omega)
      replace hE := hxE.e0 hE (by omega)
      replace hb_g3 := hxE.bk hb_g3 (by decide)
      replace ho17 := hxE.own ho17 (by decide)
      replace hb_g5 := hxE.bk hb_g5 (by decide)
      replace hr27 := hxE.rd hr27 (by omega)
      show OpG _ _ _ _ _ _
      exact og_plain rfl (ox_val (ov_loadBlk (cs := [(.int .u8 (↑(fread l (↑m : Int)).1.1.toNat : Int)), (.slice A17 (fread l (↑m : Int)).1.2.length c17)]) ag72_2 rfl hb_g5))
    · intro wd hxE
      have hz_hxE := hxE.size
      replace hr := hxE.rd hr (by omega)
      replace hE := hxE.e0 hE (by omega)
      replace ho17 := hxE.own ho17 (by decide)
      replace hr27 := hxE.rd hr27 (by omega)
      show OpG _ _ _ _ _ _
      exact og_plain rfl (ox_val (ov_move rfl))
    · intro wd hxE
      replace hxE : Ext _ _ := rt_nil hxE
      replace hr := hr.ext hxE
      replace hE := hE.tr hxE
      replace hb_g1 := hb_g1.ext hxE
      replace hb_g2 := hb_g2.ext hxE
      replace hb_g3 := hb_g3.ext hxE
      replace ho17 := Own.ext ho17 hxE
      replace hb_g5 := hb_g5.ext hxE
      replace hr27 := hr27.ext hxE
      have hz_hxE := hxE.size
      rintro _ rfl
      show OpG _ _ _ _ _ _
      have hb0 := hb_g2
      refine og_plain rfl (OpRun.mono (or_storeBlk (vs := [(.int .i64 (↑m : Int)), (.slice A27 (l.drop (fread l (m : Int)).2.1).length c27), (.bool false)]) sz57 rfl rfl (by simp [Value.oneCell']) hb_g2 rfl) ?_)
      rintro _ w9 ⟨hN9, hg9⟩
      have hz_hg9 := hg9.size
      replace hr := hr.gr hg9 (fun _ e => by cases e; omega)
      replace hE := hE.gr hg9 (fun _ e => by cases e; omega)
      replace hb_g1 := hb_g1.gr hg9 (by intro e; cases e; omega)
      replace hb_g3 := hb_g3.gr hg9 (by intro e; cases e; omega)
      replace ho17 := Own.gr ho17 hg9 (by first | exact .inl rfl | (right; intro e; first | (have := hq_ho17 _ e; omega) | (have := Own.lt ho17 e; omega) | exact own_blk_ne ho17 hb_g2 (by decide) e))
      replace hb_g5 := hb_g5.gr hg9 (by intro e; cases e; omega)
      replace hr27 := hr27.gr hg9 (fun _ e => by cases e; omega)
      replace hb_g2 := hN9
      exact ⟨hb_g2, rt_store hg9 hb0 (by omega)⟩
    · intro wd hxE
      have hz_hxE := hxE.size
      replace hr := hxE.rd hr (by omega)
      replace hE := hxE.e0 hE (by omega)
      replace hb_g3 := hxE.bk hb_g3 (by decide)
      replace ho17 := hxE.own ho17 (by decide)
      replace hb_g5 := hxE.bk hb_g5 (by decide)
      replace hr27 := hxE.rd hr27 (by omega)
      rintro _ rfl
      show OpG _ _ _ _ _ _
      have hb0 := hb_g3
      refine og_plain rfl (OpRun.mono (or_storeBlk (vs := [(.int .u8 (↑(fread l (↑m : Int)).1.1.toNat : Int)), (.slice A17 (fread l (↑m : Int)).1.2.length c17)]) sz72 rfl rfl (by simp [Value.oneCell']) hb_g3 rfl) ?_)
      rintro _ w9 ⟨hN9, hg9⟩
      have hz_hg9 := hg9.size
      replace hr := hr.gr hg9 (fun _ e => by cases e; omega)
      replace hE := hE.gr hg9 (fun _ e => by cases e; omega)
      replace ho17 := Own.gr ho17 hg9 (by first | exact .inl rfl | (right; intro e; first | (have := hq_ho17 _ e; omega) | (have := Own.lt ho17 e; omega) | exact own_blk_ne ho17 hb_g3 (by decide) e))
      replace hb_g5 := hb_g5.gr hg9 (by intro e; cases e; omega)
      replace hr27 := hr27.gr hg9 (fun _ e => by cases e; omega)
      replace hb_g3 := hN9
      exact ⟨hb_g3, rt_store hg9 hb0 (by omega)⟩
    · intro wf12 hf12
      have hz_hf12 := hf12.size
      replace hr := hf12.rd hr (by omega)
      replace hE := hf12.e0 hE (by omega)
      replace ho17 := hf12.own ho17 (by decide)
      replace hr27 := hf12.rd hr27 (by omega)
      rintro _ rfl
      rintro _ rfl
      rintro _ rfl
      rintro _ hb_g2
      rintro _ hb_g3
      refine wa_tail (by kernel_rfl) ?_
      show WL _ _ _ [_] _ _ _
      refine wl_val (ov_assign rfl) rfl rfl rfl ?_
      refine q_nil ?_
      refine k_then ?_
      refine q_ret ?_
      refine e_retL (rs := [.cell 2 57, .cell 3 72, .tmp 4]) (vs := [.agg #[(.int .i64 (↑m : Int)), (.slice A27 (l.drop (fread l (m : Int)).2.1).length c27), (.bool false)], .agg #[(.int .u8 (↑(fread l (↑m : Int)).1.1.toNat : Int)), (.slice A17 (fread l (↑m : Int)).1.2.length c17)], (.int .i64 (↑(fread l (↑m : Int)).2.2 : Int))]) rfl ⟨⟨_, _, [(.int .i64 (↑m : Int)), (.slice A27 (l.drop (fread l (m : Int)).2.1).length c27), (.bool false)], rfl, ag57_3, hb_g2, rfl⟩, ⟨_, _, [(.int .u8 (↑(fread l (↑m : Int)).1.1.toNat : Int)), (.slice A17 (fread l (↑m : Int)).1.2.length c17)], rfl, ag72_2, hb_g3, rfl⟩, rfl, trivial⟩ ?_
      rw [dnext_o (by omega) (by omega)]
      exact ⟨A27, c27, A17, c17, rfl, hr27, Own.mono ho17 (by omega), hE⟩
  · refine wc_seq ?_
    refine wc_regionL ?_
    refine wl_val (ov_eql rfl rfl) rfl rfl rfl ?_
    refine wl_val (ov_assign rfl) rfl rfl rfl ?_
    refine q_nil ?_
    refine k_then ?_
    refine wc_cond_d rfl (fun hc3 => ?_) (fun hc3 => ?_)
    · refine wc_regionL ?_
      refine wl_val (ov_field0 (off := 1) fo57_1 rfl) rfl rfl rfl ?_
      refine wl_val (ov_loadAt oc26 rfl hb_g1 rfl) rfl rfl rfl ?_
      have hcap33 := RdB.cap hr
      refine wl_step (or_bslice bt26 rfl hr (bounds_l rfl (by omega) (by omega)) (by omega) (by omega) (by omega) (by omega)) rfl rfl rfl ?_
      rintro v _ ⟨rfl, A33, c33, rfl, hr33, hl33⟩
      have hs33 : (l.drop (Int.toNat 1)).take (l.length - (Int.toNat 1)) = (l.drop 1) := (by show (l.drop 1).take (l.length - 1) = l.drop 1; rw [List.take_of_length_le (by simp)])
      rw [hs33] at hr33 hl33; rw [hs33]; clear hs33
      refine wl_val (ov_field0 (off := 1) fo57_1 rfl) rfl rfl rfl ?_
      refine wl_step0 (or_storeAt (cs' := [(.int .i64 (↑m : Int)), (.slice A33 (l.drop 1).length c33), (.bool false)]) sz26 rfl rfl rfl hb_g1 rfl rfl) rfl rfl ?_
      rintro _ w207 ⟨hN207, hg207⟩
      have hz_hg207 := hg207.size
      replace hr := hr.gr hg207 (fun _ e => by cases e; omega)
      replace hE := hE.gr hg207 (fun _ e => by cases e; omega)
      replace hb_g2 := hb_g2.gr hg207 (by intro e; cases e; omega)
      replace hb_g3 := hb_g3.gr hg207 (by intro e; cases e; omega)
      replace ho17 := Own.gr ho17 hg207 (by first | exact .inl rfl | (right; intro e; first | (have := hq_ho17 _ e; omega) | (have := Own.lt ho17 e; omega) | exact own_blk_ne ho17 hb_g1 (by decide) e))
      replace hb_g5 := hb_g5.gr hg207 (by intro e; cases e; omega)
      replace hr33 := hr33.gr hg207 (fun _ e => by cases e; omega)
      replace hb_g1 := hN207
      refine q_nil ?_
      refine k_block ?_
      refine k_then ?_
      refine wc_seq ?_
      refine wc_drawA mixed ?_
      intro w208 hx12
      replace hr := hr.ext hx12
      replace hE := hE.tr hx12
      replace hb_g1 := hb_g1.ext hx12
      replace hb_g2 := hb_g2.ext hx12
      replace hb_g3 := hb_g3.ext hx12
      replace ho17 := Own.ext ho17 hx12
      replace hb_g5 := hb_g5.ext hx12
      replace hr33 := hr33.ext hx12
      have hz_hx12 := hx12.size
      refine wa_main (RT w.heap.size) rt1 rt2 rt3 0 5 [(39, eqv (.agg #[(.int .i64 (↑m : Int)), (.slice A33 (l.drop 1).length c33), (.bool false)])), (40, eqv (.agg #[(.int .u8 (↑(fread l (↑m : Int)).1.1.toNat : Int)), (.slice A17 (fread l (↑m : Int)).1.2.length c17)])), (41, eqv (.int .i64 (↑(fread l (↑m : Int)).2.2 : Int))), (45, (fun _ w => Blk w g2 57 [(.int .i64 (↑m : Int)), (.slice A33 (l.drop 1).length c33), (.bool false)])), (46, (fun _ w => Blk w g3 72 [(.int .u8 (↑(fread l (↑m : Int)).1.1.toNat : Int)), (.slice A17 (fread l (↑m : Int)).1.2.length c17)]))] [[], [], [], [0], [1]] [[57, 72], [57, 72], [57, 72], [72], [57]] [[], [57], [57, 72], [], [57]] [none, none, none, some 57, some 72] [true, true, true, true, true] [57, 72] _ [] [] (fun _ _ h => h) trivial (by kernel_rfl) rfl ⟨stbA (fun _ => stb_eqv _) _, stbA (fun _ => stb_eqv _) _, stbA (fun _ => stb_eqv _) _, ⟨fun _ w w' hb he => hb.ext he, fun e he v w w' hb k => RT.bk k hb (by simp at he; first | (subst he; decide) | (rcases he with rfl | rfl <;> decide) | (rcases he with rfl | rfl | rfl <;> decide))⟩, ⟨fun _ w w' hb he => hb.ext he, fun e he v w w' hb k => RT.bk k hb (by simp at he; first | (subst he; decide) | (rcases he with rfl | rfl <;> decide) | (rcases he with rfl | rfl | rfl <;> decide))⟩, trivial⟩ ⟨?_, ?_, ?_, ?_, ?_, trivial⟩ ?_
      · intro wd hxE
        replace hxE : Ext _ _ := rt_nil hxE
        replace hr := hr.ext hxE
        replace hE := hE.tr hxE
        replace hb_g1 := hb_g1.ext hxE
        replace hb_g2 := hb_g2.ext hxE
        replace hb_g3 := hb_g3.ext hxE
        replace ho17 := Own.ext ho17 hxE
        replace hb_g5 := hb_g5.ext hxE
        replace hr33 := hr33.ext hxE
        have hz_hxE := hxE.size
        show OpG _ _ _ _ _ _
        exact og_plain rfl (ox_val (ov_loadBlk (cs := [(.int .i64 (↑m : Int)), (.slice A33 (l.drop 1).length c33), (.bool false)]) ag57_3 rfl hb_g1))
      · intro wd hxE
        have hz_hxE := hxE.size
        replace hr := hxE.rd hr (by omega)
        replace hE := hxE.e0 hE (by omega)
        replace hb_g3 := hxE.bk hb_g3 (by decide)
        replace ho17 := hxE.own ho17 (by decide)
        replace hb_g5 := hxE.bk hb_g5 (by decide)
        replace hr33 := hxE.rd hr33 (by omega)
        show OpG _ _ _ _ _ _
        exact og_plain rfl (ox_val (ov_loadBlk (cs := [(.int .u8 (↑(fread l (↑m : Int)).1.1.toNat : Int)), (.slice A17 (fread l (↑m : Int)).1.2.length c17)]) ag72_2 rfl hb_g5))
      · intro wd hxE
        have hz_hxE := hxE.size
        replace hr := hxE.rd hr (by omega)
        replace hE := hxE.e0 hE (by omega)
        replace ho17 := hxE.own ho17 (by decide)
        replace hr33 := hxE.rd hr33 (by omega)
        show OpG _ _ _ _ _ _
        exact og_plain rfl (ox_val (ov_move rfl))
      · intro wd hxE
        replace hxE : Ext _ _ := rt_nil hxE
        replace hr := hr.ext hxE
        replace hE := hE.tr hxE
        replace hb_g1 := hb_g1.ext hxE
        replace hb_g2 := hb_g2.ext hxE
        replace hb_g3 := hb_g3.ext hxE
        replace ho17 := Own.ext ho17 hxE
        replace hb_g5 := hb_g5.ext hxE
        replace hr33 := hr33.ext hxE
        have hz_hxE := hxE.size
        rintro _ rfl
        show OpG _ _ _ _ _ _
        have hb0 := hb_g2
        refine og_plain rfl (OpRun.mono (or_storeBlk (vs := [(.int .i64 (↑m : Int)), (.slice A33 (l.drop 1).length c33), (.bool false)]) sz57 rfl rfl (by simp [Value.oneCell']) hb_g2 rfl) ?_)
        rintro _ w209 ⟨hN209, hg209⟩
        have hz_hg209 := hg209.size
        replace hr := hr.gr hg209 (fun _ e => by cases e; omega)
        replace hE := hE.gr hg209 (fun _ e => by cases e; omega)
        replace hb_g1 := hb_g1.gr hg209 (by intro e; cases e; omega)
        replace hb_g3 := hb_g3.gr hg209 (by intro e; cases e; omega)
        replace ho17 := Own.gr ho17 hg209 (by first | exact .inl rfl | (right; intro e; first | (have := hq_ho17 _ e; omega) | (have := Own.lt ho17 e; omega) | exact own_blk_ne ho17 hb_g2 (by decide) e))
        replace hb_g5 := hb_g5.gr hg209 (by intro e; cases e; omega)
        replace hr33 := hr33.gr hg209 (fun _ e => by cases e; omega)
        replace hb_g2 := hN209
        exact ⟨hb_g2, rt_store hg209 hb0 (by omega)⟩
      · intro wd hxE
        have hz_hxE := hxE.size
        replace hr := hxE.rd hr (by omega)
        replace hE := hxE.e0 hE (by omega)
        replace hb_g3 := hxE.bk hb_g3 (by decide)
        replace ho17 := hxE.own ho17 (by decide)
        replace hb_g5 := hxE.bk hb_g5 (by decide)
        replace hr33 := hxE.rd hr33 (by omega)
        rintro _ rfl
        show OpG _ _ _ _ _ _
        have hb0 := hb_g3
        refine og_plain rfl (OpRun.mono (or_storeBlk (vs := [(.int .u8 (↑(fread l (↑m : Int)).1.1.toNat : Int)), (.slice A17 (fread l (↑m : Int)).1.2.length c17)]) sz72 rfl rfl (by simp [Value.oneCell']) hb_g3 rfl) ?_)
        rintro _ w209 ⟨hN209, hg209⟩
        have hz_hg209 := hg209.size
        replace hr := hr.gr hg209 (fun _ e => by cases e; omega)
        replace hE := hE.gr hg209 (fun _ e => by cases e; omega)
        replace ho17 := Own.gr ho17 hg209 (by first | exact .inl rfl | (right; intro e; first | (have := hq_ho17 _ e; omega) | (have := Own.lt ho17 e; omega) | exact own_blk_ne ho17 hb_g3 (by decide) e))
        replace hb_g5 := hb_g5.gr hg209 (by intro e; cases e; omega)
        replace hr33 := hr33.gr hg209 (fun _ e => by cases e; omega)
        replace hb_g3 := hN209
        exact ⟨hb_g3, rt_store hg209 hb0 (by omega)⟩
      · intro wf12 hf12
        have hz_hf12 := hf12.size
        replace hr := hf12.rd hr (by omega)
        replace hE := hf12.e0 hE (by omega)
        replace ho17 := hf12.own ho17 (by decide)
        replace hr33 := hf12.rd hr33 (by omega)
        rintro _ rfl
        rintro _ rfl
        rintro _ rfl
        rintro _ hb_g2
        rintro _ hb_g3
        refine wa_tail (by kernel_rfl) ?_
        show WL _ _ _ [_] _ _ _
        refine wl_val (ov_assign rfl) rfl rfl rfl ?_
        refine q_nil ?_
        refine k_then ?_
        refine q_ret ?_
        refine e_retL (rs := [.cell 2 57, .cell 3 72, .tmp 4]) (vs := [.agg #[(.int .i64 (↑m : Int)), (.slice A33 (l.drop 1).length c33), (.bool false)], .agg #[(.int .u8 (↑(fread l (↑m : Int)).1.1.toNat : Int)), (.slice A17 (fread l (↑m : Int)).1.2.length c17)], (.int .i64 (↑(fread l (↑m : Int)).2.2 : Int))]) rfl ⟨⟨_, _, [(.int .i64 (↑m : Int)), (.slice A33 (l.drop 1).length c33), (.bool false)], rfl, ag57_3, hb_g2, rfl⟩, ⟨_, _, [(.int .u8 (↑(fread l (↑m : Int)).1.1.toNat : Int)), (.slice A17 (fread l (↑m : Int)).1.2.length c17)], rfl, ag72_2, hb_g3, rfl⟩, rfl, trivial⟩ ?_
        rw [dnext_6 (by omega)]
        exact ⟨A33, c33, A17, c17, rfl, hr33, Own.mono ho17 (by omega), hE⟩
    · refine wc_seq ?_
      refine wc_regionL ?_
      refine wl_val (ov_eql rfl rfl) rfl rfl rfl ?_
      refine wl_val (ov_assign rfl) rfl rfl rfl ?_
      refine q_nil ?_
      refine k_then ?_
      refine wc_cond_d rfl (fun hc4 => ?_) (fun hc4 => ?_)
      · refine wc_seq ?_
        refine wc_regionL ?_
        refine wl_val (ov_field0 (off := 1) fo57_1 rfl) rfl rfl rfl ?_
        refine wl_step0 (or_storeAt (cs' := [(.int .i64 (↑m : Int)), (.slice none 0 0), (.bool false)]) sz26 rfl rfl rfl hb_g1 rfl rfl) rfl rfl ?_
        rintro _ w207 ⟨hN207, hg207⟩
        have hz_hg207 := hg207.size
        replace hr := hr.gr hg207 (fun _ e => by cases e; omega)
        replace hE := hE.gr hg207 (fun _ e => by cases e; omega)
        replace hb_g2 := hb_g2.gr hg207 (by intro e; cases e; omega)
        replace hb_g3 := hb_g3.gr hg207 (by intro e; cases e; omega)
        replace ho17 := Own.gr ho17 hg207 (by first | exact .inl rfl | (right; intro e; first | (have := hq_ho17 _ e; omega) | (have := Own.lt ho17 e; omega) | exact own_blk_ne ho17 hb_g1 (by decide) e))
        replace hb_g5 := hb_g5.gr hg207 (by intro e; cases e; omega)
        replace hb_g1 := hN207
        refine q_nil ?_
        refine k_then ?_
        refine wc_regionL ?_
        refine wl_val (ov_field0 (off := 2) fo57_2 rfl) rfl rfl rfl ?_
        refine wl_step0 (or_storeAt (cs' := [(.int .i64 (↑m : Int)), (.slice none 0 0), (.bool true)]) sz4 rfl rfl rfl hb_g1 rfl rfl) rfl rfl ?_
        rintro _ w208 ⟨hN208, hg208⟩
        have hz_hg208 := hg208.size
        replace hr := hr.gr hg208 (fun _ e => by cases e; omega)
        replace hE := hE.gr hg208 (fun _ e => by cases e; omega)
        replace hb_g2 := hb_g2.gr hg208 (by intro e; cases e; omega)
        replace hb_g3 := hb_g3.gr hg208 (by intro e; cases e; omega)
        replace ho17 := Own.gr ho17 hg208 (by first | exact .inl rfl | (right; intro e; first | (have := hq_ho17 _ e; omega) | (have := Own.lt ho17 e; omega) | exact own_blk_ne ho17 hb_g1 (by decide) e))
        replace hb_g5 := hb_g5.gr hg208 (by intro e; cases e; omega)
        replace hb_g1 := hN208
        refine q_nil ?_
        refine k_block ?_
        refine k_then ?_
        refine wc_seq ?_
        refine wc_drawA mixed ?_
        intro w209 hx12
        replace hr := hr.ext hx12
        replace hE := hE.tr hx12
        replace hb_g1 := hb_g1.ext hx12
        replace hb_g2 := hb_g2.ext hx12
        replace hb_g3 := hb_g3.ext hx12
        replace ho17 := Own.ext ho17 hx12
        replace hb_g5 := hb_g5.ext hx12
        have hz_hx12 := hx12.size
        refine wa_main (RT w.heap.size) rt1 rt2 rt3 0 5 [(39, eqv (.agg #[(.int .i64 (↑m : Int)), (.slice none 0 0), (.bool true)])), (40, eqv (.agg #[(.int .u8 (↑(fread l (↑m : Int)).1.1.toNat : Int)), (.slice A17 (fread l (↑m : Int)).1.2.length c17)])), (41, eqv (.int .i64 (↑(fread l (↑m : Int)).2.2 : Int))), (45, (fun _ w => Blk w g2 57 [(.int .i64 (↑m : Int)), (.slice none 0 0), (.bool true)])), (46, (fun _ w => Blk w g3 72 [(.int .u8 (↑(fread l (↑m : Int)).1.1.toNat : Int)), (.slice A17 (fread l (↑m : Int)).1.2.length c17)]))] [[], [], [], [0], [1]] [[57, 72], [57, 72], [57, 72], [72], [57]] [[], [57], [57, 72], [], [57]] [none, none, none, some 57, some 72] [true, true, true, true, true] [57, 72] _ [] [] (fun _ _ h => h) trivial (by kernel_rfl) rfl ⟨stbA (fun _ => stb_eqv _) _, stbA (fun _ => stb_eqv _) _, stbA (fun _ => stb_eqv _) _, ⟨fun _ w w' hb he => hb.ext he, fun e he v w w' hb k => RT.bk k hb (by simp at he; first | (subst he; decide) | (rcases he with rfl | rfl <;> decide) | (rcases he with rfl | rfl | rfl <;> decide))⟩, ⟨fun _ w w' hb he => hb.ext he, fun e he v w w' hb k => RT.bk k hb (by simp at he; first | (subst he; decide) | (rcases he with rfl | rfl <;> decide) | (rcases he with rfl | rfl | rfl <;> decide))⟩, trivial⟩ ⟨?_, ?_, ?_, ?_, ?_, trivial⟩ ?_
        · intro wd hxE
          replace hxE : Ext _ _ := rt_nil hxE
          replace hr := hr.ext hxE
          replace hE := hE.tr hxE
          replace hb_g1 := hb_g1.ext hxE
          replace hb_g2 := hb_g2.ext hxE
          replace hb_g3 := hb_g3.ext hxE
          replace ho17 := Own.ext ho17 hxE
          replace hb_g5 := hb_g5.ext hxE
          have hz_hxE := hxE.size
          show OpG _ _ _ _ _ _
          exact og_plain rfl (ox_val (ov_loadBlk (cs := [(.int .i64 (↑m : Int)), (.slice none 0 0), (.bool true)]) ag57_3 rfl hb_g1))
        · intro wd hxE
          have hz_hxE := hxE.size
          replace hr := hxE.rd hr (by omega)
          replace hE := hxE.e0 hE (by omega)
          replace hb_g3 := hxE.bk hb_g3 (by decide)
          replace ho17 := hxE.own ho17 (by decide)
          replace hb_g5 := hxE.bk hb_g5 (by decide)
          show OpG _ _ _ _ _ _
          exact og_plain rfl (ox_val (ov_loadBlk (cs := [(.int .u8 (↑(fread l (↑m : Int)).1.1.toNat : Int)), (.slice A17 (fread l (↑m : Int)).1.2.length c17)]) ag72_2 rfl hb_g5))
        · intro wd hxE
          have hz_hxE := hxE.size
          replace hr := hxE.rd hr (by omega)
          replace hE := hxE.e0 hE (by omega)
          replace ho17 := hxE.own ho17 (by decide)
          show OpG _ _ _ _ _ _
          exact og_plain rfl (ox_val (ov_move rfl))
        · intro wd hxE
          replace hxE : Ext _ _ := rt_nil hxE
          replace hr := hr.ext hxE
          replace hE := hE.tr hxE
          replace hb_g1 := hb_g1.ext hxE
          replace hb_g2 := hb_g2.ext hxE
          replace hb_g3 := hb_g3.ext hxE
          replace ho17 := Own.ext ho17 hxE
          replace hb_g5 := hb_g5.ext hxE
          have hz_hxE := hxE.size
          rintro _ rfl
          show OpG _ _ _ _ _ _
          have hb0 := hb_g2
          refine og_plain rfl (OpRun.mono (or_storeBlk (vs := [(.int .i64 (↑m : Int)), (.slice none 0 0), (.bool true)]) sz57 rfl rfl (by simp [Value.oneCell']) hb_g2 rfl) ?_)
          rintro _ w210 ⟨hN210, hg210⟩
          have hz_hg210 := hg210.size
          replace hr := hr.gr hg210 (fun _ e => by cases e; omega)
          replace hE := hE.gr hg210 (fun _ e => by cases e; omega)
          replace hb_g1 := hb_g1.gr hg210 (by intro e; cases e; omega)
          replace hb_g3 := hb_g3.gr hg210 (by intro e; cases e; omega)
          replace ho17 := Own.gr ho17 hg210 (by first | exact .inl rfl | (right; intro e; first | (have := hq_ho17 _ e; omega) | (have := Own.lt ho17 e; omega) | exact own_blk_ne ho17 hb_g2 (by decide) e))
          replace hb_g5 := hb_g5.gr hg210 (by intro e; cases e; omega)
          replace hb_g2 := hN210
          exact ⟨hb_g2, rt_store hg210 hb0 (by omega)⟩
        · intro wd hxE
          have hz_hxE := hxE.size
          replace hr := hxE.rd hr (by omega)
          replace hE := hxE.e0 hE (by omega)
          replace hb_g3 := hxE.bk hb_g3 (by decide)
          replace ho17 := hxE.own ho17 (by decide)
          replace hb_g5 := hxE.bk hb_g5 (by decide)
          rintro _ rfl
          show OpG _ _ _ _ _ _
          have hb0 := hb_g3
          refine og_plain rfl (OpRun.mono (or_storeBlk (vs := [(.int .u8 (↑(fread l (↑m : Int)).1.1.toNat : Int)), (.slice A17 (fread l (↑m : Int)).1.2.length c17)]) sz72 rfl rfl (by simp [Value.oneCell']) hb_g3 rfl) ?_)
          rintro _ w210 ⟨hN210, hg210⟩
          have hz_hg210 := hg210.size
          replace hr := hr.gr hg210 (fun _ e => by cases e; omega)
          replace hE := hE.gr hg210 (fun _ e => by cases e; omega)
          replace ho17 := Own.gr ho17 hg210 (by first | exact .inl rfl | (right; intro e; first | (have := hq_ho17 _ e; omega) | (have := Own.lt ho17 e; omega) | exact own_blk_ne ho17 hb_g3 (by decide) e))
          replace hb_g5 := hb_g5.gr hg210 (by intro e; cases e; omega)
          replace hb_g3 := hN210
          exact ⟨hb_g3, rt_store hg210 hb0 (by omega)⟩
        · intro wf12 hf12
          have hz_hf12 := hf12.size
          replace hr := hf12.rd hr (by omega)
          replace hE := hf12.e0 hE (by omega)
          replace ho17 := hf12.own ho17 (by decide)
          rintro _ rfl
          rintro _ rfl
          rintro _ rfl
          rintro _ hb_g2
          rintro _ hb_g3
          refine wa_tail (by kernel_rfl) ?_
          show WL _ _ _ [_] _ _ _
          refine wl_val (ov_assign rfl) rfl rfl rfl ?_
          refine q_nil ?_
          refine k_then ?_
          refine q_ret ?_
          refine e_retL (rs := [.cell 2 57, .cell 3 72, .tmp 4]) (vs := [.agg #[(.int .i64 (↑m : Int)), (.slice none 0 0), (.bool true)], .agg #[(.int .u8 (↑(fread l (↑m : Int)).1.1.toNat : Int)), (.slice A17 (fread l (↑m : Int)).1.2.length c17)], (.int .i64 (↑(fread l (↑m : Int)).2.2 : Int))]) rfl ⟨⟨_, _, [(.int .i64 (↑m : Int)), (.slice none 0 0), (.bool true)], rfl, ag57_3, hb_g2, rfl⟩, ⟨_, _, [(.int .u8 (↑(fread l (↑m : Int)).1.1.toNat : Int)), (.slice A17 (fread l (↑m : Int)).1.2.length c17)], rfl, ag72_2, hb_g3, rfl⟩, rfl, trivial⟩ ?_
          rw [dnext_5 (by omega), List.drop_length]
          exact ⟨none, 0, A17, c17, rfl, RdB.nil _ _ _, Own.mono ho17 (by omega), hE⟩
      · refine q_skip ?_
        refine k_block ?_
        refine k_then ?_
        refine wc_seq ?_
        refine wc_drawA mixed ?_
        intro w207 hx12
        replace hr := hr.ext hx12
        replace hE := hE.tr hx12
        replace hb_g1 := hb_g1.ext hx12
        replace hb_g2 := hb_g2.ext hx12
        replace hb_g3 := hb_g3.ext hx12
        replace ho17 := Own.ext ho17 hx12
        replace hb_g5 := hb_g5.ext hx12
        have hz_hx12 := hx12.size
        refine wa_main (RT w.heap.size) rt1 rt2 rt3 0 5 [(39, eqv (.agg #[(.int .i64 (↑m : Int)), (.slice A l.length c), (.bool false)])), (40, eqv (.agg #[(.int .u8 (↑(fread l (↑m : Int)).1.1.toNat : Int)), (.slice A17 (fread l (↑m : Int)).1.2.length c17)])), (41, eqv (.int .i64 (↑(fread l (↑m : Int)).2.2 : Int))), (45, (fun _ w => Blk w g2 57 [(.int .i64 (↑m : Int)), (.slice A l.length c), (.bool false)])), (46, (fun _ w => Blk w g3 72 [(.int .u8 (↑(fread l (↑m : Int)).1.1.toNat : Int)), (.slice A17 (fread l (↑m : Int)).1.2.length c17)]))] [[], [], [], [0], [1]] [[57, 72], [57, 72], [57, 72], [72], [57]] [[], [57], [57, 72], [], [57]] [none, none, none, some 57, some 72] [true, true, true, true, true] [57, 72] _ [] [] (fun _ _ h => h) trivial (by kernel_rfl) rfl ⟨stbA (fun _ => stb_eqv _) _, stbA (fun _ => stb_eqv _) _, stbA (fun _ => stb_eqv _) _, ⟨fun _ w w' hb he => hb.ext he, fun e he v w w' hb k => RT.bk k hb (by simp at he; first | (subst he; decide) | (rcases he with rfl | rfl <;> decide) | (rcases he with rfl | rfl | rfl <;> decide))⟩, ⟨fun _ w w' hb he => hb.ext he, fun e he v w w' hb k => RT.bk k hb (by simp at he; first | (subst he; decide) | (rcases he with rfl | rfl <;> decide) | (rcases he with rfl | rfl | rfl <;> decide))⟩, trivial⟩ ⟨?_, ?_, ?_, ?_, ?_, trivial⟩ ?_
        · intro wd hxE
          replace hxE : Ext _ _ := rt_nil hxE
          replace hr := hr.ext hxE
          replace hE := hE.tr hxE
          replace hb_g1 := hb_g1.ext hxE
          replace hb_g2 := hb_g2.ext hxE
          replace hb_g3 := hb_g3.ext hxE
          replace ho17 := Own.ext ho17 hxE
          replace hb_g5 := hb_g5.ext hxE
          have hz_hxE := hxE.size
          show OpG _ _ _ _ _ _
          exact og_plain rfl (ox_val (ov_loadBlk (cs := [(.int .i64 (↑m : Int)), (.slice A l.length c), (.bool false)]) ag57_3 rfl hb_g1))
        · intro wd hxE
          have hz_hxE := hxE.size
          replace hr := hxE.rd hr (by omega)
          replace hE := hxE.e0 hE (by omega)
          replace hb_g3 := hxE.bk hb_g3 (by decide)
          replace ho17 := hxE.own ho17 (by decide)
          replace hb_g5 := hxE.bk hb_g5 (by decide)
          show OpG _ _ _ _ _ _
          exact og_plain rfl (ox_val (ov_loadBlk (cs := [(.int .u8 (↑(fread l (↑m : Int)).1.1.toNat : Int)), (.slice A17 (fread l (↑m : Int)).1.2.length c17)]) ag72_2 rfl hb_g5))
        · intro wd hxE
          have hz_hxE := hxE.size
          replace hr := hxE.rd hr (by omega)
          replace hE := hxE.e0 hE (by omega)
          replace ho17 := hxE.own ho17 (by decide)
          show OpG _ _ _ _ _ _
          exact og_plain rfl (ox_val (ov_move rfl))
        · intro wd hxE
          replace hxE : Ext _ _ := rt_nil hxE
          replace hr := hr.ext hxE
          replace hE := hE.tr hxE
          replace hb_g1 := hb_g1.ext hxE
          replace hb_g2 := hb_g2.ext hxE
          replace hb_g3 := hb_g3.ext hxE
          replace ho17 := Own.ext ho17 hxE
          replace hb_g5 := hb_g5.ext hxE
          have hz_hxE := hxE.size
          rintro _ rfl
          show OpG _ _ _ _ _ _
          have hb0 := hb_g2
          refine og_plain rfl (OpRun.mono (or_storeBlk (vs := [(.int .i64 (↑m : Int)), (.slice A l.length c), (.bool false)]) sz57 rfl rfl (by simp [Value.oneCell']) hb_g2 rfl) ?_)
          rintro _ w208 ⟨hN208, hg208⟩
          have hz_hg208 := hg208.size
          replace hr := hr.gr hg208 (fun _ e => by cases e; omega)
          replace hE := hE.gr hg208 (fun _ e => by cases e; omega)
          replace hb_g1 := hb_g1.gr hg208 (by intro e; cases e; omega)
          replace hb_g3 := hb_g3.gr hg208 (by intro e; cases e; omega)
          replace ho17 := Own.gr ho17 hg208 (by first | exact .inl rfl | (right; intro e; first | (have := hq_ho17 _ e; omega) | (have := Own.lt ho17 e; omega) | exact own_blk_ne ho17 hb_g2 (by decide) e))
          replace hb_g5 := hb_g5.gr hg208 (by intro e; cases e; omega)
          replace hb_g2 := hN208
          exact ⟨hb_g2, rt_store hg208 hb0 (by omega)⟩
        · intro wd hxE
          have hz_hxE := hxE.size
          replace hr := hxE.rd hr (by omega)
          replace hE := hxE.e0 hE (by omega)
          replace hb_g3 := hxE.bk hb_g3 (by decide)
          replace ho17 := hxE.own ho17 (by decide)
          replace hb_g5 := hxE.bk hb_g5 (by decide)
          rintro _ rfl
          show OpG _ _ _ _ _ _
          have hb0 := hb_g3
          refine og_plain rfl (OpRun.mono (or_storeBlk (vs := [(.int .u8 (↑(fread l (↑m : Int)).1.1.toNat : Int)), (.slice A17 (fread l (↑m : Int)).1.2.length c17)]) sz72 rfl rfl (by simp [Value.oneCell']) hb_g3 rfl) ?_)
          rintro _ w208 ⟨hN208, hg208⟩
          have hz_hg208 := hg208.size
          replace hr := hr.gr hg208 (fun _ e => by cases e; omega)
          replace hE := hE.gr hg208 (fun _ e => by cases e; omega)
          replace ho17 := Own.gr ho17 hg208 (by first | exact .inl rfl | (right; intro e; first | (have := hq_ho17 _ e; omega) | (have := Own.lt ho17 e; omega) | exact own_blk_ne ho17 hb_g3 (by decide) e))
          replace hb_g5 := hb_g5.gr hg208 (by intro e; cases e; omega)
          replace hb_g3 := hN208
          exact ⟨hb_g3, rt_store hg208 hb0 (by omega)⟩
        · intro wf12 hf12
          have hz_hf12 := hf12.size
          replace hr := hf12.rd hr (by omega)
          replace hE := hf12.e0 hE (by omega)
          replace ho17 := hf12.own ho17 (by decide)
          rintro _ rfl
          rintro _ rfl
          rintro _ rfl
          rintro _ hb_g2
          rintro _ hb_g3
          refine wa_tail (by kernel_rfl) ?_
          show WL _ _ _ [_] _ _ _
          refine wl_val (ov_assign rfl) rfl rfl rfl ?_
          refine q_nil ?_
          refine k_then ?_
          refine q_ret ?_
          refine e_retL (rs := [.cell 2 57, .cell 3 72, .tmp 4]) (vs := [.agg #[(.int .i64 (↑m : Int)), (.slice A l.length c), (.bool false)], .agg #[(.int .u8 (↑(fread l (↑m : Int)).1.1.toNat : Int)), (.slice A17 (fread l (↑m : Int)).1.2.length c17)], (.int .i64 (↑(fread l (↑m : Int)).2.2 : Int))]) rfl ⟨⟨_, _, [(.int .i64 (↑m : Int)), (.slice A l.length c), (.bool false)], rfl, ag57_3, hb_g2, rfl⟩, ⟨_, _, [(.int .u8 (↑(fread l (↑m : Int)).1.1.toNat : Int)), (.slice A17 (fread l (↑m : Int)).1.2.length c17)], rfl, ag72_2, hb_g3, rfl⟩, rfl, trivial⟩ ?_
          have h0 : l.drop (fread l (m : Int)).2.1 = l := by rw [show (fread l (m : Int)).2.1 = 0 by omega]; rfl
          rw [dnext_o (by omega) (by omega), h0]
          exact ⟨A, c, A17, c17, rfl, hr, Own.mono ho17 (by omega), hE⟩

theorem rnext06_any (w : World) (lo hi m : Nat) (A : Option Addr) (c : Nat) (l : List UInt8) (cl : Bool) (hr : RdB w lo hi A c l) (hhi : hi ≤ w.heap.size) (hl40 : l.length ≤ 1099511627776) (hm : m ≤ 2097152) : Fn Try.prog 45 #[.agg #[.int .i64 (m : Int), .slice A l.length c, .bool cl]] w (fun v w' => ∃ A' c' B c2, v = .tuple #[.agg #[.int .i64 (m : Int), .slice A' (dnext m cl l).2.1.length c', .bool (dnext m cl l).1], .agg #[.int .u8 ((dnext m cl l).2.2.1.1.toNat : Int), .slice B (dnext m cl l).2.2.1.2.length c2], .int .i64 ((dnext m cl l).2.2.2 : Int)] ∧ RdB w' lo hi A' c' (dnext m cl l).2.1 ∧ OwnB w' w.heap.size 5 B c2 (dnext m cl l).2.2.1.2 ∧ Ext w w') := by
  cases cl with
  | true => exact rnext06_t w lo hi m A c l hr hhi hl40 hm
  | false => exact rnext06_f w lo hi m A c l hr hhi hl40 hm

theorem rneed06_t (w : World) (lo hi m : Nat) (A : Option Addr) (c : Nat) (l : List UInt8) (hr : RdB w lo hi A c l) (hhi : hi ≤ w.heap.size) (hl40 : l.length ≤ 1099511627776) (hm : m ≤ 2097152) :
    Fn Try.prog 48 #[(.agg #[(.int .i64 (↑m : Int)), (.slice A l.length c), (.bool true)])] w (fun v w' => v = .int .i64 (dneed m true l) ∧ Ext w w')  := by
  have hE := ext_refl w
  refine fn_enter (args := [(.agg #[(.int .i64 (↑m : Int)), (.slice A l.length c), (.bool true)])]) Try.func48 rfl rfl rfl ?_
  show WC _ _ _ _ [(0, (.agg #[(.int .i64 (↑m : Int)), (.slice A l.length c), (.bool true)]))] _
  refine wc_seq ?_
  refine wc_regionL ?_
  refine wl_step (or_box (cs := [(.int .i64 (↑m : Int)), (.slice A l.length c), (.bool true)]) rfl rfl) rfl rfl rfl ?_
  rintro v w1 ⟨g1, rfl, hb_g1, he1, hl1, hu1⟩
  replace hr := hr.ext he1
  replace hE := hE.tr he1
  have hz_he1 := he1.size
  refine wl_val (ov_assign rfl) rfl rfl rfl ?_
  refine q_nil ?_
  refine k_then ?_
  refine wc_seq ?_
  refine wc_seq ?_
  refine wc_regionL ?_
  refine wl_val (ov_field0 (off := 2) fo57_2 rfl) rfl rfl rfl ?_
  refine wl_val (ov_loadAt oc4 rfl hb_g1 rfl) rfl rfl rfl ?_
  refine q_nil ?_
  refine k_then ?_
  refine wc_cond_t rfl ?_
  refine wc_seq ?_
  refine wc_regionL ?_
  refine wl_val (ov_assign rfl) rfl rfl rfl ?_
  refine q_nil ?_
  refine k_then ?_
  refine q_ret ?_
  refine k_thenR ?_
  refine e_ret rfl rfl ?_
  exact ⟨rfl, hE⟩

theorem rneed06_f (w : World) (lo hi m : Nat) (A : Option Addr) (c : Nat) (l : List UInt8) (hr : RdB w lo hi A c l) (hhi : hi ≤ w.heap.size) (hl40 : l.length ≤ 1099511627776) (hm : m ≤ 2097152) :
    Fn Try.prog 48 #[(.agg #[(.int .i64 (↑m : Int)), (.slice A l.length c), (.bool false)])] w (fun v w' => v = .int .i64 (dneed m false l) ∧ Ext w w')  := by
  have hfc := fread_cases l hm
  have hfp := fread_props l (m : Int)
  have hvs := vget_size l
  have hE := ext_refl w
  refine fn_enter (args := [(.agg #[(.int .i64 (↑m : Int)), (.slice A l.length c), (.bool false)])]) Try.func48 rfl rfl rfl ?_
  show WC _ _ _ _ [(0, (.agg #[(.int .i64 (↑m : Int)), (.slice A l.length c), (.bool false)]))] _
  refine wc_seq ?_
  refine wc_regionL ?_
  refine wl_step (or_box (cs := [(.int .i64 (↑m : Int)), (.slice A l.length c), (.bool false)]) rfl rfl) rfl rfl rfl ?_
  rintro v w1 ⟨g1, rfl, hb_g1, he1, hl1, hu1⟩
  replace hr := hr.ext he1
  replace hE := hE.tr he1
  have hz_he1 := he1.size
  refine wl_val (ov_assign rfl) rfl rfl rfl ?_
  refine q_nil ?_
  refine k_then ?_
  refine wc_seq ?_
  refine wc_seq ?_
  refine wc_regionL ?_
  refine wl_val (ov_field0 (off := 2) fo57_2 rfl) rfl rfl rfl ?_
  refine wl_val (ov_loadAt oc4 rfl hb_g1 rfl) rfl rfl rfl ?_
  refine q_nil ?_
  refine k_then ?_
  refine wc_cond_f rfl ?_
  refine q_skip ?_
  refine k_then ?_
  refine wc_seq ?_
  refine wc_regionL ?_
  refine wl_val (ov_field0 (off := 1) fo57_1 rfl) rfl rfl rfl ?_
  refine wl_val (ov_loadAt oc26 rfl hb_g1 rfl) rfl rfl rfl ?_
  refine wl_val (ov_field0 (off := 0) fo57_0 rfl) rfl rfl rfl ?_
  refine wl_val (ov_loadAt oc3 rfl hb_g1 rfl) rfl rfl rfl ?_
  refine wl_step (or_call0 cl64 rfl rfl (rfread_any _ _ _ _ _ l (↑m : Int) (by omega) (by omega) hr (by omega))) rfl rfl rfl ?_
  rintro v w2 ⟨A16, c16, rfl, ho16, he16⟩
  replace hr := hr.ext he16
  replace hE := hE.tr he16
  replace hb_g1 := hb_g1.ext he16
  have hz_he16 := he16.size
  have hq_ho16 := fun g e => Own.lt ho16 (g := g) e
  refine wl_val (ov_move rfl) rfl rfl rfl ?_
  refine wl_val (ov_extract rfl rfl) rfl rfl rfl ?_
  refine wl_val (ov_extract rfl rfl) rfl rfl rfl ?_
  refine wl_val (ov_extract rfl rfl) rfl rfl rfl ?_
  refine wl_step (or_alloc (cs := [(.int .u8 0), (.slice none 0 0)]) ze72 rfl) rfl rfl rfl ?_
  rintro v w3 ⟨g3, rfl, hb_g3, he3, hl3, hu3⟩
  replace hr := hr.ext he3
  replace hE := hE.tr he3
  replace hb_g1 := hb_g1.ext he3
  replace ho16 := Own.ext ho16 he3
  have hz_he3 := he3.size
  refine wl_step0 (or_storeBlk (vs := [(.int .u8 (↑(fread l (↑m : Int)).1.1.toNat : Int)), (.slice A16 (fread l (↑m : Int)).1.2.length c16)]) sz72 rfl rfl (by simp [Value.oneCell']) hb_g3 rfl) rfl rfl ?_
  rintro _ w4 ⟨hN4, hg4⟩
  have hz_hg4 := hg4.size
  replace hr := hr.gr hg4 (fun _ e => by cases e; omega)
  replace hE := hE.gr hg4 (fun _ e => by cases e; omega)
  replace hb_g1 := hb_g1.gr hg4 (by intro e; cases e; omega)
  replace ho16 := Own.gr ho16 hg4 (by first | exact .inl rfl | (right; intro e; first | (have := hq_ho16 _ e; omega) | (have := Own.lt ho16 e; omega) | exact own_blk_ne ho16 hb_g3 (by decide) e))
  replace hb_g3 := hN4
  refine wl_val (ov_assign rfl) rfl rfl rfl ?_
  refine wl_val (ov_assign rfl) rfl rfl rfl ?_
  refine q_nil ?_
  refine k_then ?_
  refine wc_seq ?_
  refine wc_seq ?_
  refine wc_regionL ?_
  refine wl_val (ov_move rfl) rfl rfl rfl ?_
  refine wl_val (ov_neq rfl rfl) rfl rfl rfl ?_
  refine q_nil ?_
  refine k_then ?_
  refine wc_cond_d rfl (fun hc2 => ?_) (fun hc2 => ?_)
  · refine wc_seq ?_
    refine wc_regionL ?_
    refine wl_val (ov_assign rfl) rfl rfl rfl ?_
    refine q_nil ?_
    refine k_then ?_
    refine q_ret ?_
    refine k_thenR ?_
    refine e_ret rfl rfl ?_
    exact ⟨by rw [dneed, if_neg (by decide), if_pos (by omega)], hE⟩
  · refine q_skip ?_
    refine k_then ?_
    refine wc_seq ?_
    refine wc_regionL ?_
    refine wl_val (ov_field0 (off := 1) fo57_1 rfl) rfl rfl rfl ?_
    refine wl_val (ov_loadAt oc26 rfl hb_g1 rfl) rfl rfl rfl ?_
    refine wl_val (or_call0 cl66 rfl rfl (rget_any _ _ _ _ _ l hr)) rfl rfl rfl ?_
    refine wl_val (ov_move rfl) rfl rfl rfl ?_
    refine wl_val (ov_extract rfl rfl) rfl rfl rfl ?_
    refine wl_val (ov_extract rfl rfl) rfl rfl rfl ?_
    refine wl_val (ov_extract rfl rfl) rfl rfl rfl ?_
    refine wl_val (ov_assign rfl) rfl rfl rfl ?_
    refine wl_val (ov_assign rfl) rfl rfl rfl ?_
    refine wl_val (ov_assign rfl) rfl rfl rfl ?_
    refine q_nil ?_
    refine k_then ?_
    refine wc_seq ?_
    refine wc_seq ?_
    refine wc_regionL ?_
    refine wl_val (ov_move rfl) rfl rfl rfl ?_
    refine wl_val (ov_neq rfl rfl) rfl rfl rfl ?_
    refine q_nil ?_
    refine k_then ?_
    refine wc_cond_d rfl (fun hc3 => ?_) (fun hc3 => ?_)
    · refine wc_seq ?_
      refine wc_regionL ?_
      refine wl_val (ov_assign rfl) rfl rfl rfl ?_
      refine q_nil ?_
      refine k_then ?_
      refine q_ret ?_
      refine k_thenR ?_
      refine e_ret rfl rfl ?_
      exact ⟨by rw [dneed, if_neg (by decide), if_neg (by omega), if_pos (by omega)], hE⟩
    · refine q_skip ?_
      refine k_then ?_
      refine wc_seq ?_
      refine wc_regionL ?_
      refine wl_val (ov_move rfl) rfl rfl rfl ?_
      refine wl_val (ov_move rfl) rfl rfl rfl ?_
      refine wl_val (ov_conv Try.underlying27 Try.underlying3 rfl (wi64 (by omega) (by omega))) rfl rfl rfl ?_
      refine wl_val (ov_add rfl rfl (wi64 (by omega) (by omega))) rfl rfl rfl ?_
      refine wl_val (ov_field0 (off := 1) fo57_1 rfl) rfl rfl rfl ?_
      refine wl_val (ov_loadAt oc26 rfl hb_g1 rfl) rfl rfl rfl ?_
      refine wl_val (ov_len Try.underlying26 rfl) rfl rfl rfl ?_
      refine wl_val (ov_sub rfl rfl (wi64 (by omega) (by omega))) rfl rfl rfl ?_
      refine wl_val (ov_assign rfl) rfl rfl rfl ?_
      refine q_nil ?_
      refine k_then ?_
      refine q_ret ?_
      refine e_ret rfl rfl ?_
      exact ⟨by rw [dneed, if_neg (by decide), if_neg (by omega), if_neg (by omega)]; congr 1; omega, hE⟩

theorem rneed06_any (w : World) (lo hi m : Nat) (A : Option Addr) (c : Nat) (l : List UInt8) (cl : Bool) (hr : RdB w lo hi A c l) (hhi : hi ≤ w.heap.size) (hl40 : l.length ≤ 1099511627776) (hm : m ≤ 2097152) : Fn Try.prog 48 #[.agg #[.int .i64 (m : Int), .slice A l.length c, .bool cl]] w (fun v w' => v = .int .i64 (dneed m cl l) ∧ Ext w w') := by
  cases cl with
  | true => exact rneed06_t w lo hi m A c l hr hhi hl40 hm
  | false => exact rneed06_f w lo hi m A c l hr hhi hl40 hm

theorem rall06_ok (w : World) (lo2 hi2 : Nat) (A : Option Addr) (c : Nat) (q : List UInt8) (hr : RdB w lo2 hi2 A c q) (m : Nat) (hm : m ≤ 2097152) (hlq : q.length ≤ 1099511627776) :
    Fn Try.prog 33 #[(.slice A q.length c), (.int .i64 (↑m : Int))] w (fun v w' => ∃ A c B d ys, v = .tuple #[.slice A (List.length ys) c, .slice B ys.length d] ∧ Own w' w.heap.size 72 2 A ys.length c (ys.flatMap gotc) ∧ Own w' w.heap.size 3 1 B ys.length d (ys.map gote) ∧ FL w' w.heap.size ys ∧ ys.map gotv = dall m false q ∧ Ext w w')  := by
  replace hr := hr.top
  have hE := ext_refl w
  refine fn_enter (args := [(.slice A q.length c), (.int .i64 (↑m : Int))]) Try.func33 rfl rfl rfl ?_
  show WC _ _ _ _ [(0, (.slice A q.length c)), (1, (.int .i64 (↑m : Int)))] _
  refine wc_seq ?_
  refine wc_regionL ?_
  refine wl_val (ov_assign rfl) rfl rfl rfl ?_
  refine wl_val (ov_assign rfl) rfl rfl rfl ?_
  refine q_nil ?_
  refine k_then ?_
  refine wc_seq ?_
  refine wc_regionL ?_
  refine wl_val (ov_move rfl) rfl rfl rfl ?_
  refine wl_val (ov_move rfl) rfl rfl rfl ?_
  refine wl_val (ov_build (cs := [(.int .i64 (↑m : Int)), (.slice A q.length c), (.bool false)]) ze57 pl57 rfl rfl) rfl rfl rfl ?_
  refine wl_step (or_alloc (cs := [(.int .i64 0), (.slice none 0 0), (.bool false)]) ze57 rfl) rfl rfl rfl ?_
  rintro v w1 ⟨g6, rfl, hb_g6, he6, hl6, hu6⟩
  replace hr := hr.ext he6
  replace hE := hE.tr he6
  have hz_he6 := he6.size
  refine wl_step0 (or_storeBlk (vs := [(.int .i64 (↑m : Int)), (.slice A q.length c), (.bool false)]) sz57 rfl rfl (by simp [Value.oneCell']) hb_g6 rfl) rfl rfl ?_
  rintro _ w2 ⟨hN2, hg2⟩
  have hz_hg2 := hg2.size
  replace hr := hr.gr hg2 (fun _ e => by cases e; omega)
  replace hE := hE.gr hg2 (fun _ e => by cases e; omega)
  replace hb_g6 := hN2
  refine q_nil ?_
  refine k_then ?_
  refine wc_seq ?_
  refine wc_regionL ?_
  refine wl_val (ov_assign rfl) rfl rfl rfl ?_
  refine q_nil ?_
  refine k_then ?_
  refine wc_seq ?_
  refine wc_regionL ?_
  refine wl_val (ov_assign rfl) rfl rfl rfl ?_
  refine q_nil ?_
  refine k_then ?_
  refine wc_block ?_
  refine wc_loop (σ := Bool × List UInt8 × Option Addr × Nat × Option Addr × Nat × Option Addr × Nat × List Got) (fun s => dmeas s.1 s.2.1) (fun s => [(6, .pointer (some ⟨g6, 0, none⟩)), (7, .slice s.2.2.2.2.1 s.2.2.2.2.2.2.2.2.length s.2.2.2.2.2.1), (8, .slice s.2.2.2.2.2.2.1 s.2.2.2.2.2.2.2.2.length s.2.2.2.2.2.2.2.1)]) (fun s w' => Blk w' g6 57 [.int .i64 (m : Int), .slice s.2.2.1 s.2.1.length s.2.2.2.1, .bool s.1] ∧ RdB w' lo2 w.heap.size s.2.2.1 s.2.2.2.1 s.2.1 ∧ s.2.1.length ≤ 1099511627776 ∧ Own w' w.heap.size 72 2 s.2.2.2.2.1 s.2.2.2.2.2.2.2.2.length s.2.2.2.2.2.1 (s.2.2.2.2.2.2.2.2.flatMap gotc) ∧ Own w' w.heap.size 3 1 s.2.2.2.2.2.2.1 s.2.2.2.2.2.2.2.2.length s.2.2.2.2.2.2.2.1 (s.2.2.2.2.2.2.2.2.map gote) ∧ FL w' w.heap.size s.2.2.2.2.2.2.2.2 ∧ s.2.2.2.2.2.2.2.2.map gotv ++ dall m s.1 s.2.1 = dall m false q ∧ Ext w w') ((false, q, A, c, none, 0, none, 0, [])) (⟨hb_g6, hr, hlq, Own.nil_ _ _ _ _, Own.nil_ _ _ _ _, (fun y hy => by cases hy), rfl, hE⟩) (⟨rfl, rfl, rfl, trivial⟩) ?_
  rintro ⟨cz, lz, A9, c9, A1, c1, B1, d1, ys⟩ wq ⟨hb_g6, hrz, hlz, hoA, hoB, hFL, hall, hE⟩
  show WC _ _ _ _ [(6, (.pointer (some ⟨g6, 0, none⟩))), (7, (.slice A1 ys.length c1)), (8, (.slice B1 ys.length d1))] _
  replace hlz : lz.length ≤ 1099511627776 := hlz
  replace hb_g6 : Blk wq g6 57 [.int .i64 (m : Int), .slice A9 lz.length c9, .bool cz] := hb_g6
  replace hrz : RdB wq lo2 w.heap.size A9 c9 lz := hrz
  replace hoA : Own wq w.heap.size 72 2 A1 ys.length c1 (ys.flatMap gotc) := hoA
  replace hoB : Own wq w.heap.size 3 1 B1 ys.length d1 (ys.map gote) := hoB
  replace hFL : FL wq w.heap.size ys := hFL
  replace hall : ys.map gotv ++ dall m cz lz = dall m false q := hall
  have hz_Eq := hE.size
  have hq_hoA := fun g e => Own.lt hoA (g := g) e
  have hq_hoB := fun g e => Own.lt hoB (g := g) e
  have hg6l := hb_g6.lt
  have hyl : ys.length ≤ 1099511627777 := by have h1 := congrArg List.length hall; have h2 := dall_len hm _ false q (Nat.le_refl _); simp at h1; have h3 : dmeas false q ≤ q.length + 1 := (by unfold dmeas; split <;> omega); omega
  refine wc_block ?_
  refine wc_seq ?_
  refine wc_regionL ?_
  refine wl_val (ov_loadBlk (cs := [(.int .i64 (↑m : Int)), (.slice A9 lz.length c9), (.bool cz)]) ag57_3 rfl hb_g6) rfl rfl rfl ?_
  refine wl_step (or_call0 cl45 rfl rfl (rnext06_any _ _ _ (m) _ _ lz cz hrz (by omega) (by first | omega | (simp; done)) (by omega))) rfl rfl rfl ?_
  rintro v w3 ⟨A17, c17, B17, d17, rfl, hr17, ho17, he17⟩
  replace hb_g6 := hb_g6.ext he17
  replace hrz := hrz.ext he17
  replace hoA := Own.ext hoA he17
  replace hoB := Own.ext hoB he17
  replace hFL := FL.ext hFL he17
  replace hE := hE.tr he17
  have hz_he17 := he17.size
  have hq_ho17 := fun g e => Own.lt ho17 (g := g) e
  refine wl_val (ov_move rfl) rfl rfl rfl ?_
  refine wl_val (ov_extract rfl rfl) rfl rfl rfl ?_
  refine wl_val (ov_extract rfl rfl) rfl rfl rfl ?_
  refine wl_val (ov_extract rfl rfl) rfl rfl rfl ?_
  refine wl_step (or_alloc (cs := [(.int .i64 0), (.slice none 0 0), (.bool false)]) ze57 rfl) rfl rfl rfl ?_
  rintro v w4 ⟨g9, rfl, hb_g9, he9, hl9, hu9⟩
  replace hb_g6 := hb_g6.ext he9
  replace hrz := hrz.ext he9
  replace hoA := Own.ext hoA he9
  replace hoB := Own.ext hoB he9
  replace hFL := FL.ext hFL he9
  replace hE := hE.tr he9
  replace hr17 := hr17.ext he9
  replace ho17 := Own.ext ho17 he9
  have hz_he9 := he9.size
  refine wl_step (or_alloc (cs := [(.int .u8 0), (.slice none 0 0)]) ze72 rfl) rfl rfl rfl ?_
  rintro v w5 ⟨g10, rfl, hb_g10, he10, hl10, hu10⟩
  replace hb_g6 := hb_g6.ext he10
  replace hrz := hrz.ext he10
  replace hoA := Own.ext hoA he10
  replace hoB := Own.ext hoB he10
  replace hFL := FL.ext hFL he10
  replace hE := hE.tr he10
  replace hr17 := hr17.ext he10
  replace ho17 := Own.ext ho17 he10
  replace hb_g9 := hb_g9.ext he10
  have hz_he10 := he10.size
  refine wl_step0 (or_storeBlk (vs := [(.int .i64 (↑m : Int)), (.slice A17 (dnext (m) cz lz).2.1.length c17), (.bool (dnext (m) cz lz).1)]) sz57 rfl rfl (by simp [Value.oneCell']) hb_g9 rfl) rfl rfl ?_
  rintro _ w6 ⟨hN6, hg6⟩
  have hz_hg6 := hg6.size
  replace hb_g6 := hb_g6.gr hg6 (by intro e; cases e; omega)
  replace hrz := hrz.gr hg6 (fun _ e => by cases e; omega)
  replace hoA := Own.gr hoA hg6 (by first | exact .inl rfl | (right; intro e; first | (have := hq_hoA _ e; omega) | (have := Own.lt hoA e; omega) | exact own_blk_ne hoA hb_g9 (by decide) e))
  replace hoB := Own.gr hoB hg6 (by first | exact .inl rfl | (right; intro e; first | (have := hq_hoB _ e; omega) | (have := Own.lt hoB e; omega) | exact own_blk_ne hoB hb_g9 (by decide) e))
  replace hFL := FL.gr hFL hg6 hb_g9 (by decide)
  replace hE := hE.gr hg6 (fun _ e => by cases e; omega)
  replace hr17 := hr17.gr hg6 (fun _ e => by cases e; omega)
  replace ho17 := Own.gr ho17 hg6 (by first | exact .inl rfl | (right; intro e; first | (have := hq_ho17 _ e; omega) | (have := Own.lt ho17 e; omega) | exact own_blk_ne ho17 hb_g9 (by decide) e))
  replace hb_g10 := hb_g10.gr hg6 (by intro e; cases e; omega)
  replace hb_g9 := hN6
  refine wl_step0 (or_storeBlk (vs := [(.int .u8 (↑(dnext (m) cz lz).2.2.1.1.toNat : Int)), (.slice B17 (dnext (m) cz lz).2.2.1.2.length d17)]) sz72 rfl rfl (by simp [Value.oneCell']) hb_g10 rfl) rfl rfl ?_
  rintro _ w7 ⟨hN7, hg7⟩
  have hz_hg7 := hg7.size
  replace hb_g6 := hb_g6.gr hg7 (by intro e; cases e; omega)
  replace hrz := hrz.gr hg7 (fun _ e => by cases e; omega)
  replace hoA := Own.gr hoA hg7 (by first | exact .inl rfl | (right; intro e; first | (have := hq_hoA _ e; omega) | (have := Own.lt hoA e; omega) | exact own_blk_ne hoA hb_g10 (by decide) e))
  replace hoB := Own.gr hoB hg7 (by first | exact .inl rfl | (right; intro e; first | (have := hq_hoB _ e; omega) | (have := Own.lt hoB e; omega) | exact own_blk_ne hoB hb_g10 (by decide) e))
  replace hFL := FL.gr hFL hg7 hb_g10 (by decide)
  replace hE := hE.gr hg7 (fun _ e => by cases e; omega)
  replace hr17 := hr17.gr hg7 (fun _ e => by cases e; omega)
  replace ho17 := Own.gr ho17 hg7 (by first | exact .inl rfl | (right; intro e; first | (have := hq_ho17 _ e; omega) | (have := Own.lt ho17 e; omega) | exact own_blk_ne ho17 hb_g10 (by decide) e))
  replace hb_g9 := hb_g9.gr hg7 (by intro e; cases e; omega)
  replace hb_g10 := hN7
  refine wl_val (ov_assign rfl) rfl rfl rfl ?_
  refine q_nil ?_
  refine k_then ?_
  refine wc_seq ?_
  refine wc_seq ?_
  refine wc_regionL ?_
  refine wl_val (ov_move rfl) rfl rfl rfl ?_
  refine wl_val (ov_eql rfl rfl) rfl rfl rfl ?_
  refine wl_case_d (d := 22) rfl (fun h22 => ?_) (fun h22 => ?_)
  · refine wl_val (ov_move rfl) rfl rfl rfl ?_
    refine wl_gskip rfl rfl rfl rfl rfl rfl ?_
    refine wl_gskip rfl rfl rfl rfl rfl rfl ?_
    refine wl_val (ov_pick_t rfl rfl) rfl rfl rfl ?_
    refine q_nil ?_
    refine k_then ?_
    refine wc_cond_t rfl ?_
    refine wc_seq ?_
    refine wc_regionL ?_
    refine wl_val (ov_move rfl) rfl rfl rfl ?_
    refine wl_val (ov_move rfl) rfl rfl rfl ?_
    refine wl_val (ov_assign rfl) rfl rfl rfl ?_
    refine wl_val (ov_assign rfl) rfl rfl rfl ?_
    refine q_nil ?_
    refine k_then ?_
    refine q_ret ?_
    refine k_thenR ?_
    refine k_blockR ?_
    refine k_thenR ?_
    refine k_blockR ?_
    refine e_ret2 rfl rfl rfl ?_
    exact ⟨A1, c1, B1, d1, ys, rfl, hoA, hoB, hFL, by rw [dall_end (by omega), List.append_nil] at hall; exact hall, hE⟩
  · refine wl_val (ov_move rfl) rfl rfl rfl ?_
    refine wl_gval (ov_move rfl) rfl rfl rfl rfl rfl ?_
    refine wl_gval (ov_eql rfl rfl) rfl rfl rfl rfl rfl ?_
    refine wl_case_d (d := 25) rfl (fun h25 => ?_) (fun h25 => ?_)
    · refine wl_val (ov_pick_f rfl rfl) rfl rfl rfl ?_
      refine q_nil ?_
      refine k_then ?_
      refine wc_cond_t rfl ?_
      refine wc_seq ?_
      refine wc_regionL ?_
      refine wl_val (ov_move rfl) rfl rfl rfl ?_
      refine wl_val (ov_move rfl) rfl rfl rfl ?_
      refine wl_val (ov_assign rfl) rfl rfl rfl ?_
      refine wl_val (ov_assign rfl) rfl rfl rfl ?_
      refine q_nil ?_
      refine k_then ?_
      refine q_ret ?_
      refine k_thenR ?_
      refine k_blockR ?_
      refine k_thenR ?_
      refine k_blockR ?_
      refine e_ret2 rfl rfl rfl ?_
      exact ⟨A1, c1, B1, d1, ys, rfl, hoA, hoB, hFL, by rw [dall_end (by omega), List.append_nil] at hall; exact hall, hE⟩
    · refine wl_val (ov_pick_f rfl rfl) rfl rfl rfl ?_
      refine q_nil ?_
      refine k_then ?_
      refine wc_cond_f rfl ?_
      refine q_skip ?_
      refine k_then ?_
      refine wc_seq ?_
      refine wc_regionL ?_
      refine wl_val (ov_loadBlk (cs := [(.int .i64 (↑m : Int)), (.slice A17 (dnext (m) cz lz).2.1.length c17), (.bool (dnext (m) cz lz).1)]) ag57_3 rfl hb_g9) rfl rfl rfl ?_
      refine wl_step0 (or_storeBlk (vs := [(.int .i64 (↑m : Int)), (.slice A17 (dnext (m) cz lz).2.1.length c17), (.bool (dnext (m) cz lz).1)]) sz57 rfl rfl (by simp [Value.oneCell']) hb_g6 rfl) rfl rfl ?_
      rintro _ w208 ⟨hN208, hg208⟩
      have hz_hg208 := hg208.size
      replace hrz := hrz.gr hg208 (fun _ e => by cases e; omega)
      replace hoA := Own.gr hoA hg208 (by first | exact .inl rfl | (right; intro e; first | (have := hq_hoA _ e; omega) | (have := Own.lt hoA e; omega) | exact own_blk_ne hoA hb_g6 (by decide) e))
      replace hoB := Own.gr hoB hg208 (by first | exact .inl rfl | (right; intro e; first | (have := hq_hoB _ e; omega) | (have := Own.lt hoB e; omega) | exact own_blk_ne hoB hb_g6 (by decide) e))
      replace hFL := FL.gr hFL hg208 hb_g6 (by decide)
      replace hE := hE.gr hg208 (fun _ e => by cases e; omega)
      replace hr17 := hr17.gr hg208 (fun _ e => by cases e; omega)
      replace ho17 := Own.gr ho17 hg208 (by first | exact .inl rfl | (right; intro e; first | (have := hq_ho17 _ e; omega) | (have := Own.lt ho17 e; omega) | exact own_blk_ne ho17 hb_g6 (by decide) e))
      replace hb_g9 := hb_g9.gr hg208 (by intro e; cases e; omega)
      replace hb_g10 := hb_g10.gr hg208 (by intro e; cases e; omega)
      replace hb_g6 := hN208
      refine q_nil ?_
      refine k_then ?_
      refine wc_seq ?_
      refine wc_regionL ?_
      refine wl_val (ov_move rfl) rfl rfl rfl ?_
      refine wl_val (ov_loadBlk (cs := [(.int .u8 (↑(dnext (m) cz lz).2.2.1.1.toNat : Int)), (.slice B17 (dnext (m) cz lz).2.2.1.2.length d17)]) ag72_2 rfl hb_g10) rfl rfl rfl ?_
      refine wl_step (or_buildSliceF (cs := [.int .u8 ((dnext m cz lz).2.2.1.1.toNat : Int), .slice B17 (dnext m cz lz).2.2.1.2.length d17]) sl60 rfl (by kernel_rfl) (by decide) (by decide)) rfl rfl rfl ?_
      rintro v w209 ⟨g32, rfl, hb_g32, he32, hl32, hu32⟩
      replace hb_g6 := hb_g6.ext he32
      replace hoA := Own.ext hoA he32
      replace hoB := Own.ext hoB he32
      replace hFL := FL.ext hFL he32
      replace hE := hE.tr he32
      replace hr17 := hr17.ext he32
      replace ho17 := Own.ext ho17 he32
      replace hb_g10 := hb_g10.ext he32
      have hz_he32 := he32.size
      refine wl_step (or_append sl60 rfl hoA rfl (Blk.rdF hb_g32 rfl (by decide)) (by simp [Value.oneCell']) (by omega) (by simp only [maxLen]; omega) (by omega)) rfl rfl rfl ?_
      rintro v w210 ⟨A33, c33, rfl, ho33, hg33, ha33⟩
      have hz_hg33 := hg33.size
      replace hb_g6 := hb_g6.gr hg33 (by first | (intro e; have := hq_hoA _ e; omega) | exact own_blk_ne hoA hb_g6 (by decide))
      replace hoB := Own.gr hoB hg33 (by first | exact own_apart fun g e g2 e2 => by have := hq_hoB g e; have := hq_hoA g2 e2; omega | exact own_own_ne hoB hoA (by decide))
      replace hFL := FL.own hFL hg33 hoA (by decide)
      replace hE := hE.gr hg33 (fun g e => by have := hq_hoA g e; omega)
      replace hr17 := hr17.gr hg33 (fun g e => by have := hq_hoA g e; omega)
      replace ho17 := Own.gr ho17 hg33 (by first | exact own_apart fun g e g2 e2 => by have := hq_ho17 g e; have := hq_hoA g2 e2; omega | exact own_own_ne ho17 hoA (by decide))
      replace hb_g10 := hb_g10.gr hg33 (by first | (intro e; have := hq_hoA _ e; omega) | exact own_blk_ne hoA hb_g10 (by decide))
      have hq_ho33 := fun g e => Own.lt ho33 (g := g) e
      refine wl_val (ov_assign rfl) rfl rfl rfl ?_
      refine q_nil ?_
      refine k_then ?_
      refine wc_regionL ?_
      refine wl_val (ov_move rfl) rfl rfl rfl ?_
      refine wl_val (ov_move rfl) rfl rfl rfl ?_
      refine wl_step (or_buildSlice1 (os := [.tmp 35]) sl64 rfl rfl rfl (by simp [Value.oneCell']) (by decide)) rfl rfl rfl ?_
      rintro v w211 ⟨g36, rfl, hb_g36, he36, hl36, hu36, _⟩
      replace hb_g6 := hb_g6.ext he36
      replace hoB := Own.ext hoB he36
      replace hFL := FL.ext hFL he36
      replace hE := hE.tr he36
      replace hr17 := hr17.ext he36
      replace ho17 := Own.ext ho17 he36
      replace hb_g10 := hb_g10.ext he36
      replace ho33 := Own.ext ho33 he36
      have hz_he36 := he36.size
      refine wl_step (or_append sl64 rfl hoB rfl (Blk.rd1 hb_g36) (by simp [Value.oneCell']) (by omega) (by simp only [maxLen]; omega) (by omega)) rfl rfl rfl ?_
      rintro v w212 ⟨A37, c37, rfl, ho37, hg37, ha37⟩
      have hz_hg37 := hg37.size
      replace hb_g6 := hb_g6.gr hg37 (by first | (intro e; have := hq_hoB _ e; omega) | exact own_blk_ne hoB hb_g6 (by decide))
      replace hFL := FL.own hFL hg37 hoB (by decide)
      replace hE := hE.gr hg37 (fun g e => by have := hq_hoB g e; omega)
      replace hr17 := hr17.gr hg37 (fun g e => by have := hq_hoB g e; omega)
      replace ho17 := Own.gr ho17 hg37 (by first | exact own_apart fun g e g2 e2 => by have := hq_ho17 g e; have := hq_hoB g2 e2; omega | exact own_own_ne ho17 hoB (by decide))
      replace hb_g10 := hb_g10.gr hg37 (by first | (intro e; have := hq_hoB _ e; omega) | exact own_blk_ne hoB hb_g10 (by decide))
      replace ho33 := Own.gr ho33 hg37 (by first | exact own_apart fun g e g2 e2 => by have := hq_ho33 g e; have := hq_hoB g2 e2; omega | exact own_own_ne ho33 hoB (by decide))
      have hq_ho37 := fun g e => Own.lt ho37 (g := g) e
      refine wl_val (ov_assign rfl) rfl rfl rfl ?_
      refine q_nil ?_
      refine k_block ?_
      have hln : (ys ++ [((((dnext m cz lz).2.2.1.1, B17, d17, (dnext m cz lz).2.2.1.2), (dnext m cz lz).2.2.2) : Got)]).length = ys.length + 1 := by simp
      have hfm : (ys ++ [((((dnext m cz lz).2.2.1.1, B17, d17, (dnext m cz lz).2.2.1.2), (dnext m cz lz).2.2.2) : Got)]).flatMap gotc = ys.flatMap gotc ++ [.int .u8 ((dnext m cz lz).2.2.1.1.toNat : Int), .slice B17 (dnext m cz lz).2.2.1.2.length d17] := by simp [gotc]
      have hmp : (ys ++ [((((dnext m cz lz).2.2.1.1, B17, d17, (dnext m cz lz).2.2.1.2), (dnext m cz lz).2.2.2) : Got)]).map gote = ys.map gote ++ [.int .i64 ((dnext m cz lz).2.2.2 : Int)] := by simp [gote]
      have hds := dnext_short m cz lz
      have hne : ¬ ((dnext m cz lz).2.2.2 = 4 ∨ (dnext m cz lz).2.2.2 = 14) := by omega
      refine k_loop (((dnext m cz lz).1, (dnext m cz lz).2.1, A17, c17, A33, c33, A37, c37, ys ++ [(((dnext m cz lz).2.2.1.1, B17, d17, (dnext m cz lz).2.2.1.2), (dnext m cz lz).2.2.2)])) (dnext_less hm hne) (⟨rfl, by simp only [hln]; rfl, by simp only [hln]; rfl, trivial⟩) (⟨hb_g6, hr17, by show (dnext m cz lz).2.1.length ≤ _; omega, by show Own _ _ _ 2 A33 (ys ++ [_]).length c33 ((ys ++ [_]).flatMap gotc); rw [hln, hfm]; exact ho33, by show Own _ _ _ 1 A37 (ys ++ [_]).length c37 ((ys ++ [_]).map gote); rw [hln, hmp]; exact ho37, FL.snoc hFL (Own.mono ho17 (by omega)), by show (ys ++ [_]).map gotv ++ dall m (dnext m cz lz).1 (dnext m cz lz).2.1 = _; rw [dall_cons hm hne] at hall; rw [List.map_append, List.append_assoc]; exact hall, hE⟩)

end Go.Proofs.Ytopfjpkjpmdhaaa
