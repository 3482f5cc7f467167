/-
  The walk of VarintHolds.
-/
import Derived.Test.YtfniipfdpoeapaaLa
import Derived.Test.YtfniipfdpoeapaaItems
import Derived.Test.YtfniipfdpoeapaaBel
import Derived.Test.YtfniipfdpoeapaaCodec
namespace Go.Proofs.Ytfniipfdpoeapaa
open Go.RowKit
set_option linter.unusedVariables false
theorem ag77_2 : aggTy Try.prog 77 2 = true := by kernel_rfl
theorem cl23 : callable Try.prog 23 = true := by kernel_rfl
theorem fo77_0 : fieldOff Try.prog 77 0 = some 0 := by kernel_rfl
theorem fo77_1 : fieldOff Try.prog 77 1 = some 1 := by kernel_rfl
theorem oc45 : oneCellTy Try.prog 45 = true := by kernel_rfl
theorem sl75 : SliceTy Try.prog 75 77 2 32 (.agg #[(.int .u64 0), (.slice none 0 0)]) := sliceTy_mk Try.underlying75 (by kernel_rfl) rfl (by decide)
theorem sz77 : (Try.prog.info? 77).map (·.size) = some 2 := by kernel_rfl
theorem ze77 : zeroOf Try.prog 77 = some (.agg #[(.int .u64 0), (.slice none 0 0)]) := by kernel_rfl

/-- A thing, its cells. -/
abbrev Thing := Nat × Option Addr × Nat × List UInt8
def thc (x : Thing) : List Value := [.int .u64 (x.1 : Int), .slice x.2.1 x.2.2.2.length x.2.2.1]
/-- What is written of things. -/
def wireT (xs : List Thing) : List UInt8 := xs.flatMap fun x => enc x.1 ++ (enc x.2.2.2.length ++ x.2.2.2)
theorem wire_take {xs : List Thing} {k n : Nat} {A : Option Addr} {c : Nat} {b : List UInt8} (h : xs[k]? = some (n, A, c, b)) : wireT (xs.take (k + 1)) = wireT (xs.take k) ++ enc n ++ enc b.length ++ b := by
  rw [List.take_add_one, h, wireT, List.flatMap_append]
  simp [wireT]
theorem wire_drop {xs : List Thing} {k n : Nat} {A : Option Addr} {c : Nat} {b : List UInt8} (h : xs[k]? = some (n, A, c, b)) : wireT (xs.drop k) = enc n ++ (enc b.length ++ (b ++ wireT (xs.drop (k + 1)))) := by
  obtain ⟨hk, he⟩ := List.getElem?_eq_some_iff.1 h
  rw [List.drop_eq_getElem_cons hk, he]
  simp [wireT]
theorem take_all_le {xs : List Thing} {k m n : Nat} {A : Option Addr} {c : Nat} {b : List UInt8} (h : xs[k]? = some (n, A, c, b)) (hb : b.length ≤ m) (ha : ∀ x ∈ xs.take k, x.2.2.2.length ≤ m) : ∀ x ∈ xs.take (k + 1), x.2.2.2.length ≤ m := by
  intro x hx
  rw [List.take_add_one, h, List.mem_append] at hx
  rcases hx with hx | hx
  · exact ha x hx
  · simp at hx; subst hx; exact hb

set_option maxHeartbeats 1000000 in
theorem varintHolds_walk (w : World) (lo hi lox hix : Nat) (A : Option Addr) (c : Nat) (l : List UInt8) (C : Option Addr) (cx : Nat) (xs : List Thing) (hr : RdB w lo hi A c l) (hrx : RdR w lox hix 2 thc C cx xs) (hQ : ∀ x ∈ xs, x.1 < 18446744073709551616 ∧ RdB w 0 w.heap.size x.2.1 x.2.2.1 x.2.2.2) :
    Fn Try.prog 13 #[(.slice C xs.length cx), (.slice A l.length c)] w (fun v w' => v = .bool true ∧ Ext w w') := by
  replace hr := hr.top
  replace hrx := hrx.top
  have hE := ext_refl w
  refine fn_enter (args := [(.slice C xs.length cx), (.slice A l.length c)]) Try.func13 rfl rfl rfl ?_
  show WC _ _ _ _ [(0, (.slice C xs.length cx)), (1, (.slice A l.length c))] _
  refine wc_seq ?_
  refine wc_regionL ?_
  refine wl_val (ov_assign rfl) rfl rfl rfl ?_
  refine q_nil ?_
  refine k_then ?_
  refine wc_seq ?_
  refine wc_seq ?_
  refine wc_regionL ?_
  refine wl_val (ov_move rfl) rfl rfl rfl ?_
  refine wl_val (ov_len Try.underlying75 rfl) rfl rfl rfl ?_
  refine wl_val (ov_gtr rfl rfl) rfl rfl rfl ?_
  refine wl_case_d (d := 17) rfl (fun h20 => ?_) (fun h20 => ?_)
  · refine wl_val (ov_move rfl) rfl rfl rfl ?_
    refine wl_gskip rfl rfl rfl rfl rfl rfl ?_
    refine wl_gskip rfl rfl rfl rfl rfl rfl ?_
    refine wl_gskip rfl rfl rfl rfl rfl rfl ?_
    refine wl_val (ov_pick_t rfl rfl) rfl rfl rfl ?_
    refine q_nil ?_
    refine k_then ?_
    refine wc_cond_t rfl ?_
    refine wc_seq ?_
    refine wc_regionL ?_
    refine wl_step (or_call0 cl23 rfl rfl (known04_any _)) rfl rfl rfl ?_
    rintro v w1 ⟨rfl, he23⟩
    replace hr := hr.ext he23
    replace hrx := hrx.ext he23
    replace hE := hE.tr he23
    have hz_he23 := he23.size
    refine wl_val (ov_assign rfl) rfl rfl rfl ?_
    refine q_nil ?_
    refine k_then ?_
    refine q_ret ?_
    refine k_thenR ?_
    refine e_ret rfl rfl ?_
    exact ⟨rfl, hE⟩
  · refine wl_val (ov_move rfl) rfl rfl rfl ?_
    refine wl_gval (ov_move rfl) rfl rfl rfl rfl rfl ?_
    refine wl_gval (ov_len Try.underlying22 rfl) rfl rfl rfl rfl rfl ?_
    refine wl_gval (ov_gtr rfl rfl) rfl rfl rfl rfl rfl ?_
    refine wl_val (ov_pick_f rfl rfl) rfl rfl rfl ?_
    refine q_nil ?_
    refine k_then ?_
    refine wc_cond_d rfl (fun hc1 => ?_) (fun hc1 => ?_)
    · refine wc_seq ?_
      refine wc_regionL ?_
      refine wl_step (or_call0 cl23 rfl rfl (known04_any _)) rfl rfl rfl ?_
      rintro v w201 ⟨rfl, he23⟩
      replace hr := hr.ext he23
      replace hrx := hrx.ext he23
      replace hE := hE.tr he23
      have hz_he23 := he23.size
      refine wl_val (ov_assign rfl) rfl rfl rfl ?_
      refine q_nil ?_
      refine k_then ?_
      refine q_ret ?_
      refine k_thenR ?_
      refine e_ret rfl rfl ?_
      exact ⟨rfl, hE⟩
    · refine q_skip ?_
      refine k_then ?_
      refine wc_seq ?_
      refine wc_regionL ?_
      refine wl_val (ov_assign rfl) rfl rfl rfl ?_
      refine q_nil ?_
      refine k_then ?_
      refine wc_seq ?_
      refine wc_seq ?_
      refine wc_regionL ?_
      refine wl_val (ov_move rfl) rfl rfl rfl ?_
      refine wl_val (ov_len Try.underlying75 rfl) rfl rfl rfl ?_
      refine wl_val (ov_move rfl) rfl rfl rfl ?_
      refine q_nil ?_
      refine k_then ?_
      refine wc_block ?_
      refine wc_loop (σ := Nat × Option Addr × Nat) (fun s => xs.length - s.1) (fun s => [(0, .slice C xs.length cx), (1, .slice A l.length c), (5, .slice s.2.1 (wireT (xs.take s.1)).length s.2.2), (24, .slice C xs.length cx), (25, .int .i64 (xs.length : Int)), (26, .int .i64 (s.1 : Int))]) (fun s w' => s.1 ≤ xs.length ∧ RdB w' 0 w'.heap.size s.2.1 s.2.2 (wireT (xs.take s.1)) ∧ (wireT (xs.take s.1)).length ≤ 220 * s.1 ∧ (∀ x ∈ xs.take s.1, x.2.2.2.length ≤ 200) ∧ RdB w' lo w.heap.size A c l ∧ RdR w' lox w.heap.size 2 thc C cx xs ∧ Ext w w') ((0, none, 0)) (⟨Nat.zero_le _, RdB.nil _ _ _, by show (wireT []).length ≤ 220 * 0; simp [wireT], by simp, hr, hrx, hE⟩) (⟨rfl, rfl, rfl, rfl, rfl, rfl, trivial⟩) ?_
      rintro ⟨k, A5, c5⟩ wq ⟨hk0, hr5, hlw, h200, hr, hrx, hE⟩
      show WC _ _ _ _ [(0, (.slice C xs.length cx)), (1, (.slice A l.length c)), (5, (.slice A5 (wireT (xs.take k)).length c5)), (24, (.slice C xs.length cx)), (25, (.int .i64 (↑xs.length : Int))), (26, (.int .i64 (↑k : Int)))] _
      simp only at hk0 hlw h200
      replace hr5 : RdB wq 0 wq.heap.size A5 c5 (wireT (xs.take k)) := hr5
      have hz_E := hE.size
      refine wc_seq ?_
      refine wc_regionL ?_
      refine wl_val (ov_lss rfl rfl) rfl rfl rfl ?_
      refine q_nil ?_
      refine k_then ?_
      refine wc_seq ?_
      refine wc_cond_d rfl (fun hc2 => ?_) (fun hc2 => ?_)
      · obtain ⟨⟨n, Ax, cb, b⟩, hk⟩ : ∃ a, xs[k]? = some a := ⟨_, List.getElem?_eq_getElem (by omega)⟩
        have hxm := List.mem_of_getElem? hk
        have hn : n < 18446744073709551616 := (hQ _ hxm).1
        have hrb : RdB _ 0 w.heap.size Ax cb b := ((hQ _ hxm).2).ext hE
        have hel := enc_len n
        have hel2 := enc_len b.length
        refine q_skip ?_
        refine k_then ?_
        refine wc_seq ?_
        refine wc_block ?_
        refine wc_seq ?_
        refine wc_regionL ?_
        refine wl_step (or_rindex (m := (k)) sl75 rfl rfl hrx (fun _ _ => rfl) hk) rfl rfl rfl ?_
        rintro v _ ⟨rfl, p28, rfl, hp28, hpl28, hph28⟩
        refine wl_val (ov_loadAgg (cs := [(.int .u64 (↑n : Int)), (.slice Ax b.length cb)]) ag77_2 rfl rfl hp28) rfl rfl rfl ?_
        refine wl_step (or_alloc (cs := [(.int .u64 0), (.slice none 0 0)]) ze77 rfl) rfl rfl rfl ?_
        rintro v w201 ⟨g7, rfl, hb_g7, he7, hl7, hu7⟩
        replace hr := hr.ext he7
        replace hrx := hrx.ext he7
        replace hr5 := hr5.ext he7
        replace hE := hE.tr he7
        replace hrb := hrb.ext he7
        have hz_he7 := he7.size
        refine wl_step0 (or_storeBlk (vs := [(.int .u64 (↑n : Int)), (.slice Ax b.length cb)]) sz77 rfl rfl (by simp [Value.oneCell']) hb_g7 rfl) rfl rfl ?_
        rintro _ w202 ⟨hN202, hg202⟩
        have hz_hg202 := hg202.size
        replace hr := hr.gr hg202 (fun _ e => by cases e; omega)
        replace hrx := hrx.gr hg202 (fun _ e => by cases e; omega)
        replace hr5 := hr5.gr hg202 (fun _ e => by cases e; omega)
        replace hE := hE.gr hg202 (fun _ e => by cases e; omega)
        replace hrb := hrb.gr hg202 (fun _ e => by cases e; omega)
        replace hb_g7 := hN202
        refine q_nil ?_
        refine k_then ?_
        refine wc_seq ?_
        refine wc_seq ?_
        refine wc_regionL ?_
        refine wl_val (ov_field0 (off := 1) fo77_1 rfl) rfl rfl rfl ?_
        refine wl_val (ov_loadAt oc22 rfl hb_g7 rfl) rfl rfl rfl ?_
        refine wl_val (ov_len Try.underlying22 rfl) rfl rfl rfl ?_
        refine wl_val (ov_gtr rfl rfl) rfl rfl rfl ?_
        refine q_nil ?_
        refine k_then ?_
        refine wc_cond_d rfl (fun hc3 => ?_) (fun hc3 => ?_)
        · refine wc_seq ?_
          refine wc_regionL ?_
          refine wl_step (or_call0 cl23 rfl rfl (known04_any _)) rfl rfl rfl ?_
          rintro v w203 ⟨rfl, he34⟩
          replace hr := hr.ext he34
          replace hrx := hrx.ext he34
          replace hr5 := hr5.ext he34
          replace hE := hE.tr he34
          replace hrb := hrb.ext he34
          replace hb_g7 := hb_g7.ext he34
          have hz_he34 := he34.size
          refine wl_val (ov_assign rfl) rfl rfl rfl ?_
          refine q_nil ?_
          refine k_then ?_
          refine q_ret ?_
          refine k_thenR ?_
          refine k_blockR ?_
          refine k_thenR ?_
          refine k_thenR ?_
          refine k_blockR ?_
          refine k_thenR ?_
          refine e_ret rfl rfl ?_
          exact ⟨rfl, hE⟩
        · refine q_skip ?_
          refine k_then ?_
          refine wc_seq ?_
          refine wc_regionL ?_
          refine wl_val (ov_field0 (off := 0) fo77_0 rfl) rfl rfl rfl ?_
          refine wl_val (ov_loadAt oc45 rfl hb_g7 rfl) rfl rfl rfl ?_
          refine wl_step (or_call0 cl24 rfl rfl (put_any _ _ _ _ _ [] (n) (RdB.nil _ 0 0) (by simp) (by omega))) rfl rfl rfl ?_
          rintro v w203 ⟨A37, c37, rfl, ho37, he37⟩
          replace hr := hr.ext he37
          replace hrx := hrx.ext he37
          replace hr5 := hr5.ext he37
          replace hE := hE.tr he37
          replace hrb := hrb.ext he37
          replace hb_g7 := hb_g7.ext he37
          have hz_he37 := he37.size
          have hq_ho37 := fun g e => Own.lt ho37 (g := g) e
          refine wl_spell (d := 37) rfl (v' := .slice A37 (enc n).length c37) (by rw [List.nil_append]) ?_
          rw [List.nil_append] at ho37
          refine wl_val (ov_assign rfl) rfl rfl rfl ?_
          refine q_nil ?_
          refine k_then ?_
          refine wc_seq ?_
          refine wc_seq ?_
          refine wc_drawR mixed (Bel w203.heap.size) (bel_ext) (bel_tr) 16 [(38, eqv (.slice A37 (enc n).length c37)), (39, isOwnB w203.heap.size 5 (enc n)), (40, eqv (.slice A l.length c)), (41, isOwnB w203.heap.size 5 ((enc n) ++ l)), (42, eqv (.pointer (some ⟨g7, 0, none⟩))), (43, eqv (.int .u64 (↑n : Int))), (44, eqv (.slice A37 (enc n).length c37)), (45, eqv (.int .i64 (↑(enc n).length : Int))), (46, eqv (.bool true)), (47, eqv (.bool false)), (48, eqv (.bool false)), (49, eqv (.slice A37 (enc n).length c37)), (50, eqv (.int .i64 (↑(enc n).length : Int))), (51, eqv (.pointer (some ⟨g7, 0, none⟩))), (52, eqv (.int .u64 (↑n : Int))), (53, eqv (.int .i64 (↑(enc (n)).length : Int)))] [[], [0], [], [1, 2], [], [4], [], [6], [3, 5, 7], [8], [9], [10], [10, 11], [10], [10, 13], [10, 14]] [false, true, false, true, false, false, false, false, false, false, false, false, false, false, false, false] [false, false, false, true, false, false, false, false, false, false, false, false, false, false, false, false] [true, false, true, true, true, true, true, true, true, true, true, true, true, true, true, true] (by kernel_rfl) rfl ⟨stb_eqv _, stb_isOwnB _ _ _, stb_eqv _, stb_isOwnB _ _ _, stb_eqv _, stb_eqv _, stb_eqv _, stb_eqv _, stb_eqv _, stb_eqv _, stb_eqv _, stb_eqv _, stb_eqv _, stb_eqv _, stb_eqv _, stb_eqv _, trivial⟩ ⟨?_, ?_, ?_, ?_, ?_, ?_, ?_, ?_, ?_, ?_, ?_, ?_, ?_, ?_, ?_, ?_, trivial⟩ ?_
          · intro wd hxE
            replace hxE := bel_out hxE
            replace hr := hr.ext hxE
            replace hrx := hrx.ext hxE
            replace hr5 := hr5.ext hxE
            replace hE := hE.tr hxE
            replace hrb := hrb.ext hxE
            replace hb_g7 := hb_g7.ext hxE
            replace ho37 := Own.ext ho37 hxE
            have hz_hxE := hxE.size
            show OpG _ _ _ _ _ _
            exact og_plain rfl (ox_val (ov_move rfl))
          · intro wd hxE
            replace hxE := bel_out hxE
            replace hr := hr.ext hxE
            replace hrx := hrx.ext hxE
            replace hr5 := hr5.ext hxE
            replace hE := hE.tr hxE
            replace hrb := hrb.ext hxE
            replace hb_g7 := hb_g7.ext hxE
            replace ho37 := Own.ext ho37 hxE
            have hz_hxE := hxE.size
            rintro _ rfl
            show OpG _ _ _ _ _ _
            refine og_plain rfl (OpRun.mono (or_bappend0 bt22 rfl rfl (OwnB.rd ho37) (by omega)) ?_)
            rintro v w204 ⟨A39, c39, rfl, ho39, he39⟩
            replace hr := hr.ext he39
            replace hrx := hrx.ext he39
            replace hr5 := hr5.ext he39
            replace hE := hE.tr he39
            replace hrb := hrb.ext he39
            replace hb_g7 := hb_g7.ext he39
            replace ho37 := Own.ext ho37 he39
            have hz_he39 := he39.size
            have hq_ho39 := fun g e => Own.lt ho39 (g := g) e
            exact ⟨⟨A39, c39, rfl, Own.mono ho39 (by omega)⟩, he39⟩
          · intro wd hxE
            replace hxE := bel_out hxE
            replace hr := hr.ext hxE
            replace hrx := hrx.ext hxE
            replace hr5 := hr5.ext hxE
            replace hE := hE.tr hxE
            replace hrb := hrb.ext hxE
            replace hb_g7 := hb_g7.ext hxE
            replace ho37 := Own.ext ho37 hxE
            have hz_hxE := hxE.size
            show OpG _ _ _ _ _ _
            exact og_plain rfl (ox_val (ov_move rfl))
          · intro wd hxE
            replace hxE := bel_out hxE
            replace hr := hr.ext hxE
            replace hrx := hrx.ext hxE
            replace hr5 := hr5.ext hxE
            replace hE := hE.tr hxE
            replace hrb := hrb.ext hxE
            replace hb_g7 := hb_g7.ext hxE
            replace ho37 := Own.ext ho37 hxE
            have hz_hxE := hxE.size
            rintro _ ⟨A39, c39, rfl, ho39⟩
            rintro _ rfl
            show OpG _ _ _ _ _ _
            refine og_plain rfl (OpRun.mono (or_bappend bt22 rfl ho39 rfl hr (by omega) (by omega)) ?_)
            rintro v w204 ⟨A41, c41, rfl, ho41, hg41, ha41⟩
            have hq41 := fun g e => Own.lt ho39 (g := g) e
            have hz_hg41 := hg41.size
            replace hr := hr.gr hg41 (fun g e => by have := hq41 g e; omega)
            replace hrx := hrx.gr hg41 (fun g e => by have := hq41 g e; omega)
            replace hr5 := hr5.gr hg41 (fun g e => by have := hq41 g e; omega)
            replace hE := hE.gr hg41 (fun g e => by have := hq41 g e; omega)
            replace hrb := hrb.gr hg41 (fun g e => by have := hq41 g e; omega)
            replace hb_g7 := hb_g7.gr hg41 (fun e => by have := hq41 _ e; omega)
            have hq_ho41 := fun g e => Own.lt ho41 (g := g) e
            exact ⟨⟨A41, c41, rfl, Own.mono ho41 (by omega)⟩, bel_gr hg41 (fun g e => (hq41 g e).1)⟩
          · intro wd hxE
            replace hxE := bel_out hxE
            replace hr := hr.ext hxE
            replace hrx := hrx.ext hxE
            replace hr5 := hr5.ext hxE
            replace hE := hE.tr hxE
            replace hrb := hrb.ext hxE
            replace hb_g7 := hb_g7.ext hxE
            replace ho37 := Own.ext ho37 hxE
            have hz_hxE := hxE.size
            show OpG _ _ _ _ _ _
            exact og_plain rfl (ox_val (ov_field0 (off := 0) fo77_0 rfl))
          · intro wd hxE
            replace hxE := bel_out hxE
            replace hr := hr.ext hxE
            replace hrx := hrx.ext hxE
            replace hr5 := hr5.ext hxE
            replace hE := hE.tr hxE
            replace hrb := hrb.ext hxE
            replace hb_g7 := hb_g7.ext hxE
            replace ho37 := Own.ext ho37 hxE
            have hz_hxE := hxE.size
            rintro _ rfl
            show OpG _ _ _ _ _ _
            exact og_plain rfl (ox_val (ov_loadAt oc45 rfl hb_g7 rfl))
          · intro wd hxE
            replace hxE := bel_out hxE
            replace hr := hr.ext hxE
            replace hrx := hrx.ext hxE
            replace hr5 := hr5.ext hxE
            replace hE := hE.tr hxE
            replace hrb := hrb.ext hxE
            replace hb_g7 := hb_g7.ext hxE
            replace ho37 := Own.ext ho37 hxE
            have hz_hxE := hxE.size
            show OpG _ _ _ _ _ _
            exact og_plain rfl (ox_val (ov_move rfl))
          · intro wd hxE
            replace hxE := bel_out hxE
            replace hr := hr.ext hxE
            replace hrx := hrx.ext hxE
            replace hr5 := hr5.ext hxE
            replace hE := hE.tr hxE
            replace hrb := hrb.ext hxE
            replace hb_g7 := hb_g7.ext hxE
            replace ho37 := Own.ext ho37 hxE
            have hz_hxE := hxE.size
            rintro _ rfl
            show OpG _ _ _ _ _ _
            exact og_plain rfl (ox_val (ov_len Try.underlying22 rfl))
          · intro wd hxE
            replace hxE := bel_out hxE
            replace hr := hr.ext hxE
            replace hrx := hrx.ext hxE
            replace hr5 := hr5.ext hxE
            replace hE := hE.tr hxE
            replace hrb := hrb.ext hxE
            replace hb_g7 := hb_g7.ext hxE
            replace ho37 := Own.ext ho37 hxE
            have hz_hxE := hxE.size
            rintro _ ⟨A41, c41, rfl, ho41⟩
            rintro _ rfl
            rintro _ rfl
            show OpG _ _ _ _ _ _
            exact og_plain rfl (ox_val (or_call0 cl30 rfl rfl (lget_any _ _ _ _ _ ((enc n) ++ l) (↑n : Int) (↑(enc n).length : Int) 0 (OwnB.rd ho41) (by rw [vget_enc hn]) (by rw [vget_enc hn]) (by rw [vget_enc hn]; rfl))))
          · intro wd hxE
            replace hxE := bel_out hxE
            replace hr := hr.ext hxE
            replace hrx := hrx.ext hxE
            replace hr5 := hr5.ext hxE
            replace hE := hE.tr hxE
            replace hrb := hrb.ext hxE
            replace hb_g7 := hb_g7.ext hxE
            replace ho37 := Own.ext ho37 hxE
            have hz_hxE := hxE.size
            rintro _ rfl
            show OpG _ _ _ _ _ _
            exact og_plain rfl (ox_val (ov_not (b := true) rfl))
          · intro wd hxE
            replace hxE := bel_out hxE
            replace hr := hr.ext hxE
            replace hrx := hrx.ext hxE
            replace hr5 := hr5.ext hxE
            replace hE := hE.tr hxE
            replace hrb := hrb.ext hxE
            replace hb_g7 := hb_g7.ext hxE
            replace ho37 := Own.ext ho37 hxE
            have hz_hxE := hxE.size
            rintro _ rfl
            show OpG _ _ _ _ _ _
            exact og_plain rfl (ox_val (ov_move rfl))
          · intro wd hxE
            replace hxE := bel_out hxE
            replace hr := hr.ext hxE
            replace hrx := hrx.ext hxE
            replace hr5 := hr5.ext hxE
            replace hE := hE.tr hxE
            replace hrb := hrb.ext hxE
            replace hb_g7 := hb_g7.ext hxE
            replace ho37 := Own.ext ho37 hxE
            have hz_hxE := hxE.size
            rintro _ rfl
            show OpG _ _ _ _ _ _
            exact og_on rfl rfl rfl (ox_val (ov_move rfl))
          · intro wd hxE
            replace hxE := bel_out hxE
            replace hr := hr.ext hxE
            replace hrx := hrx.ext hxE
            replace hr5 := hr5.ext hxE
            replace hE := hE.tr hxE
            replace hrb := hrb.ext hxE
            replace hb_g7 := hb_g7.ext hxE
            replace ho37 := Own.ext ho37 hxE
            have hz_hxE := hxE.size
            rintro _ rfl
            rintro _ rfl
            show OpG _ _ _ _ _ _
            exact og_on rfl rfl rfl (ox_val (ov_len Try.underlying22 rfl))
          · intro wd hxE
            replace hxE := bel_out hxE
            replace hr := hr.ext hxE
            replace hrx := hrx.ext hxE
            replace hr5 := hr5.ext hxE
            replace hE := hE.tr hxE
            replace hrb := hrb.ext hxE
            replace hb_g7 := hb_g7.ext hxE
            replace ho37 := Own.ext ho37 hxE
            have hz_hxE := hxE.size
            rintro _ rfl
            show OpG _ _ _ _ _ _
            exact og_on rfl rfl rfl (ox_val (ov_field0 (off := 0) fo77_0 rfl))
          · intro wd hxE
            replace hxE := bel_out hxE
            replace hr := hr.ext hxE
            replace hrx := hrx.ext hxE
            replace hr5 := hr5.ext hxE
            replace hE := hE.tr hxE
            replace hrb := hrb.ext hxE
            replace hb_g7 := hb_g7.ext hxE
            replace ho37 := Own.ext ho37 hxE
            have hz_hxE := hxE.size
            rintro _ rfl
            rintro _ rfl
            show OpG _ _ _ _ _ _
            exact og_on rfl rfl rfl (ox_val (ov_loadAt oc45 rfl hb_g7 rfl))
          · intro wd hxE
            replace hxE := bel_out hxE
            replace hr := hr.ext hxE
            replace hrx := hrx.ext hxE
            replace hr5 := hr5.ext hxE
            replace hE := hE.tr hxE
            replace hrb := hrb.ext hxE
            replace hb_g7 := hb_g7.ext hxE
            replace ho37 := Own.ext ho37 hxE
            have hz_hxE := hxE.size
            rintro _ rfl
            rintro _ rfl
            show OpG _ _ _ _ _ _
            exact og_on rfl rfl rfl (ox_val (or_call0 cl26 rfl rfl (size_any _ (n) (by omega))))
          · intro wf10 hf10
            replace hf10 := bel_out hf10
            replace hr := hr.ext hf10
            replace hrx := hrx.ext hf10
            replace hr5 := hr5.ext hf10
            replace hE := hE.tr hf10
            replace hrb := hrb.ext hf10
            replace hb_g7 := hb_g7.ext hf10
            replace ho37 := Own.ext ho37 hf10
            have hz_hf10 := hf10.size
            rintro _ rfl
            intro v39
            rintro _ rfl
            rintro _ ⟨A41, c41, rfl, ho41⟩
            rintro _ rfl
            rintro _ rfl
            rintro _ rfl
            rintro _ rfl
            rintro _ rfl
            rintro _ rfl
            rintro _ rfl
            rintro _ rfl
            rintro _ rfl
            rintro _ rfl
            rintro _ rfl
            rintro _ rfl
            show WL _ _ _ [_, _, _, _, _, _, _] _ _ _
            refine wl_gval (ov_neq rfl rfl) rfl rfl rfl rfl rfl ?_
            refine wl_spell (d := 54) rfl (bf (by simp)) ?_
            refine wl_val (ov_pick_f rfl rfl) rfl rfl rfl ?_
            refine wl_val (ov_move rfl) rfl rfl rfl ?_
            refine wl_gval (ov_move rfl) rfl rfl rfl rfl rfl ?_
            refine wl_gval (ov_len Try.underlying22 rfl) rfl rfl rfl rfl rfl ?_
            refine wl_gval (ov_gtr rfl rfl) rfl rfl rfl rfl rfl ?_
            refine wl_spell (d := 59) rfl (bf (by omega)) ?_
            refine wl_val (ov_pick_f rfl rfl) rfl rfl rfl ?_
            refine q_nil ?_
            refine k_then ?_
            refine wc_cond_f rfl ?_
            refine q_skip ?_
            refine k_then ?_
            refine wc_draw mixed 6 [(61, eqv (.slice A5 (wireT (xs.take k)).length c5)), (62, eqv (.pointer (some ⟨g7, 0, none⟩))), (63, eqv (.int .u64 (↑n : Int))), (64, isOwnB wf10.heap.size 5 ((wireT (xs.take k)) ++ enc (n))), (65, eqv (.pointer (some ⟨g7, 1, none⟩))), (66, eqv (.slice Ax b.length cb))] [[], [], [1], [0, 2], [], [4]] (by kernel_rfl) rfl ⟨stb_eqv _, stb_eqv _, stb_eqv _, stb_isOwnB _ _ _, stb_eqv _, stb_eqv _, trivial⟩ ⟨?_, ?_, ?_, ?_, ?_, ?_, trivial⟩ ?_
            · intro wd hxE
              replace hr := hr.ext hxE
              replace hrx := hrx.ext hxE
              replace hr5 := hr5.ext hxE
              replace hE := hE.tr hxE
              replace hrb := hrb.ext hxE
              replace hb_g7 := hb_g7.ext hxE
              replace ho37 := Own.ext ho37 hxE
              have hz_hxE := hxE.size
              show OpG _ _ _ _ _ _
              exact og_plain rfl (ox_val (ov_move rfl))
            · intro wd hxE
              replace hr := hr.ext hxE
              replace hrx := hrx.ext hxE
              replace hr5 := hr5.ext hxE
              replace hE := hE.tr hxE
              replace hrb := hrb.ext hxE
              replace hb_g7 := hb_g7.ext hxE
              replace ho37 := Own.ext ho37 hxE
              have hz_hxE := hxE.size
              show OpG _ _ _ _ _ _
              exact og_plain rfl (ox_val (ov_field0 (off := 0) fo77_0 rfl))
            · intro wd hxE
              replace hr := hr.ext hxE
              replace hrx := hrx.ext hxE
              replace hr5 := hr5.ext hxE
              replace hE := hE.tr hxE
              replace hrb := hrb.ext hxE
              replace hb_g7 := hb_g7.ext hxE
              replace ho37 := Own.ext ho37 hxE
              have hz_hxE := hxE.size
              rintro _ rfl
              show OpG _ _ _ _ _ _
              exact og_plain rfl (ox_val (ov_loadAt oc45 rfl hb_g7 rfl))
            · intro wd hxE
              replace hr := hr.ext hxE
              replace hrx := hrx.ext hxE
              replace hr5 := hr5.ext hxE
              replace hE := hE.tr hxE
              replace hrb := hrb.ext hxE
              replace hb_g7 := hb_g7.ext hxE
              replace ho37 := Own.ext ho37 hxE
              have hz_hxE := hxE.size
              rintro _ rfl
              rintro _ rfl
              show OpG _ _ _ _ _ _
              refine og_plain rfl (OpRun.mono (or_call0 cl24 rfl rfl (put_any _ _ _ _ _ (wireT (xs.take k)) (n) hr5 (by omega) (by omega))) ?_)
              rintro v w204 ⟨A64, c64, rfl, ho64, he64⟩
              replace hr := hr.ext he64
              replace hrx := hrx.ext he64
              replace hr5 := hr5.ext he64
              replace hE := hE.tr he64
              replace hrb := hrb.ext he64
              replace hb_g7 := hb_g7.ext he64
              replace ho37 := Own.ext ho37 he64
              have hz_he64 := he64.size
              have hq_ho64 := fun g e => Own.lt ho64 (g := g) e
              exact ⟨⟨A64, c64, rfl, Own.mono ho64 (by omega)⟩, he64⟩
            · intro wd hxE
              replace hr := hr.ext hxE
              replace hrx := hrx.ext hxE
              replace hr5 := hr5.ext hxE
              replace hE := hE.tr hxE
              replace hrb := hrb.ext hxE
              replace hb_g7 := hb_g7.ext hxE
              replace ho37 := Own.ext ho37 hxE
              have hz_hxE := hxE.size
              show OpG _ _ _ _ _ _
              exact og_plain rfl (ox_val (ov_field0 (off := 1) fo77_1 rfl))
            · intro wd hxE
              replace hr := hr.ext hxE
              replace hrx := hrx.ext hxE
              replace hr5 := hr5.ext hxE
              replace hE := hE.tr hxE
              replace hrb := hrb.ext hxE
              replace hb_g7 := hb_g7.ext hxE
              replace ho37 := Own.ext ho37 hxE
              have hz_hxE := hxE.size
              rintro _ rfl
              show OpG _ _ _ _ _ _
              exact og_plain rfl (ox_val (ov_loadAt oc22 rfl hb_g7 rfl))
            · intro wf12 hf12
              replace hr := hr.ext hf12
              replace hrx := hrx.ext hf12
              replace hr5 := hr5.ext hf12
              replace hE := hE.tr hf12
              replace hrb := hrb.ext hf12
              replace hb_g7 := hb_g7.ext hf12
              replace ho37 := Own.ext ho37 hf12
              have hz_hf12 := hf12.size
              rintro _ rfl
              rintro _ rfl
              rintro _ rfl
              rintro _ ⟨A64, c64, rfl, ho64⟩
              rintro _ rfl
              rintro _ rfl
              have hq_ho64 := fun g e => Own.lt ho64 (g := g) e
              show WL _ _ _ [_, _] _ _ _
              refine wl_step (or_call0 cl25 rfl rfl (putbytes_any _ _ _ _ _ _ _ ((wireT (xs.take k)) ++ enc (n)) _ _ b (OwnB.rd ho64) hrb (by simp; omega))) rfl rfl rfl ?_
              rintro v w204 ⟨A67, c67, rfl, ho67, he67⟩
              replace hr := hr.ext he67
              replace hrx := hrx.ext he67
              replace hr5 := hr5.ext he67
              replace hE := hE.tr he67
              replace hrb := hrb.ext he67
              replace hb_g7 := hb_g7.ext he67
              replace ho37 := Own.ext ho37 he67
              replace ho64 := Own.ext ho64 he67
              have hz_he67 := he67.size
              have hq_ho67 := fun g e => Own.lt ho67 (g := g) e
              refine wl_val (ov_assign rfl) rfl rfl rfl ?_
              refine wl_spell (d := 5) rfl (v' := (.slice A67 (wireT (xs.take (k + 1))).length c67)) (by rw [wire_take hk]) ?_
              refine q_nil ?_
              refine k_block ?_
              refine k_then ?_
              refine wc_regionL ?_
              refine wl_val (ov_add rfl rfl (wi64 (by omega) (by omega))) rfl rfl rfl ?_
              refine wl_val (ov_move rfl) rfl rfl rfl ?_
              refine q_nil ?_
              refine k_loop ((k + 1, A67, c67)) (by show xs.length - (k + 1) < xs.length - k; omega) (⟨rfl, rfl, rfl, rfl, rfl, rfl, trivial⟩) (⟨by show k + 1 ≤ _; omega, by show RdB _ _ _ A67 c67 (wireT (xs.take (k + 1))); rw [wire_take hk]; exact (OwnB.rd ho67).mono (Nat.zero_le _) (Nat.le_refl _), by show (wireT (xs.take (k + 1))).length ≤ 220 * (k + 1); rw [wire_take hk]; simp; omega, take_all_le hk (by omega) h200, hr, hrx, hE⟩)
      · have hkx : xs.take k = xs := List.take_of_length_le (by omega)
        rw [hkx] at hr5 hlw h200
        refine wc_spell (d := 5) rfl (v' := .slice A5 (wireT xs).length c5) (by rw [hkx]) ?_
        have hvl := vget_lt l
        have hvs := vget_size l
        refine q_exit ?_
        refine k_thenX ?_
        refine k_thenX ?_
        refine k_blockE ?_
        refine k_then ?_
        refine wc_seq ?_
        refine wc_seq ?_
        refine wc_regionL ?_
        refine wl_val (ov_move rfl) rfl rfl rfl ?_
        refine wl_val (or_call0 cl39 rfl rfl (get_any _ _ _ _ _ l hr)) rfl rfl rfl ?_
        refine wl_val (ov_move rfl) rfl rfl rfl ?_
        refine wl_val (ov_extract rfl rfl) rfl rfl rfl ?_
        refine wl_val (ov_extract rfl rfl) rfl rfl rfl ?_
        refine wl_val (ov_extract rfl rfl) rfl rfl rfl ?_
        refine wl_val (ov_assign rfl) rfl rfl rfl ?_
        refine wl_val (ov_assign rfl) rfl rfl rfl ?_
        refine wl_val (ov_assign rfl) rfl rfl rfl ?_
        refine q_nil ?_
        refine k_then ?_
        refine wc_seq ?_
        refine wc_regionL ?_
        refine wl_val (ov_move rfl) rfl rfl rfl ?_
        refine wl_val (ov_eql rfl rfl) rfl rfl rfl ?_
        refine wl_case_d (d := 76) rfl (fun he0 => ?_) (fun he0 => ?_)
        · refine wl_val (ov_move rfl) rfl rfl rfl ?_
          refine wl_gval (ov_move rfl) rfl rfl rfl rfl rfl ?_
          refine wl_gval (ov_move rfl) rfl rfl rfl rfl rfl ?_
          refine wl_gval (ov_len Try.underlying22 rfl) rfl rfl rfl rfl rfl ?_
          refine wl_gval (ov_gtr rfl rfl) rfl rfl rfl rfl rfl ?_
          refine wl_spell (d := 81) rfl (bf (by omega)) ?_
          refine wl_gval (ov_move rfl) rfl rfl rfl rfl rfl ?_
          refine wl_gval (ov_move rfl) rfl rfl rfl rfl rfl ?_
          refine wl_gval (ov_move rfl) rfl rfl rfl rfl rfl ?_
          refine wl_gval (ov_move rfl) rfl rfl rfl rfl rfl ?_
          have hcap86 := RdB.cap hr
          refine wl_gstep (or_bslice bt22 rfl hr (bounds_h rfl (by omega) (by omega)) (by omega) (by omega) (by omega) (by omega)) rfl rfl rfl rfl rfl ?_
          rintro v _ ⟨rfl, A86, c86, rfl, hr86, hl86⟩
          have hs86 : (l.drop 0).take ((Int.toNat (↑(vget l).2.1 : Int)) - 0) = (l.take (vget l).2.1) := by simp
          rw [hs86] at hr86 hl86; rw [hs86]; clear hs86
          refine wl_gstep (or_call0 cl40 rfl rfl (lput_any _ _ _ _ _ [] ((vget l).1) _ _ (l.take (vget l).2.1) _ _ (RdB.nil _ 0 0) hr86 (by simp) (by omega) (by rw [List.nil_append]; exact vget_inv (by omega)))) rfl rfl rfl rfl rfl ?_
          rintro v w201 ⟨rfl, he87⟩
          replace hr := hr.ext he87
          replace hrx := hrx.ext he87
          replace hr5 := hr5.ext he87
          replace hE := hE.tr he87
          replace hr86 := hr86.ext he87
          have hz_he87 := he87.size
          refine wl_gval (ov_not (b := true) rfl) rfl rfl rfl rfl rfl ?_
          refine wl_gval (ov_pick_f rfl rfl) rfl rfl rfl rfl rfl ?_
          refine wl_val (ov_pick_t rfl rfl) rfl rfl rfl ?_
          refine q_nil ?_
          refine k_then ?_
          refine wc_cond_f rfl ?_
          refine q_skip ?_
          refine k_then ?_
          refine wc_seq ?_
          refine wc_regionL ?_
          refine wl_val (ov_move rfl) rfl rfl rfl ?_
          refine wl_step (or_call0 cl34 rfl rfl (rnew_any _ _ _ _ _ (wireT xs) hr5 (by omega))) rfl rfl rfl ?_
          rintro v w202 ⟨g, A1, c1, h2, rfl, hb_g, hr1, hle, he92, hg1, hg2⟩
          replace hr := hr.ext he92
          replace hrx := hrx.ext he92
          replace hr5 := hr5.ext he92
          replace hE := hE.tr he92
          replace hr86 := hr86.ext he92
          have hz_he92 := he92.size
          have hzg := hb_g.lt
          refine wl_val (ov_assign rfl) rfl rfl rfl ?_
          refine q_nil ?_
          refine k_then ?_
          refine wc_seq ?_
          refine wc_seq ?_
          refine wc_regionL ?_
          refine wl_val (ov_move rfl) rfl rfl rfl ?_
          refine wl_val (ov_len Try.underlying75 rfl) rfl rfl rfl ?_
          refine wl_val (ov_move rfl) rfl rfl rfl ?_
          refine q_nil ?_
          refine k_then ?_
          refine wc_block ?_
          have hz_El := hE.size
          refine wc_loop (σ := Nat) (fun s => xs.length - s) (fun s => [(12, .pointer (some ⟨g, 0, none⟩)), (93, .slice C xs.length cx), (94, .int .i64 (xs.length : Int)), (95, .int .i64 (s : Int))]) (fun s w' => s ≤ xs.length ∧ (wireT (xs.drop s)).length ≤ 4400 ∧ (∃ A9 c9, Blk w' g 72 [.bool true, .slice A9 (wireT (xs.drop s)).length c9] ∧ RdB w' w.heap.size h2 A9 c9 (wireT (xs.drop s))) ∧ RdR w' lox w.heap.size 2 thc C cx xs ∧ Ext w w') (0) (⟨Nat.zero_le _, by show (wireT xs).length ≤ 4400; omega, ⟨_, _, hb_g, hr1.mono (by omega) (Nat.le_refl _)⟩, hrx, hE⟩) (⟨rfl, rfl, rfl, rfl, trivial⟩) ?_
          rintro k wr ⟨hk0, hlw, ⟨A9, c9, hb_g, hr1⟩, hrx, hE⟩
          show WC _ _ _ _ [(12, (.pointer (some ⟨g, 0, none⟩))), (93, (.slice C xs.length cx)), (94, (.int .i64 (↑xs.length : Int))), (95, (.int .i64 (↑k : Int)))] _
          have hz_E := hE.size
          have hzg := hb_g.lt
          refine wc_seq ?_
          refine wc_regionL ?_
          refine wl_val (ov_lss rfl rfl) rfl rfl rfl ?_
          refine q_nil ?_
          refine k_then ?_
          refine wc_seq ?_
          refine wc_cond_d rfl (fun hc6 => ?_) (fun hc6 => ?_)
          · obtain ⟨⟨n, Ax, cb, b⟩, hk⟩ : ∃ a, xs[k]? = some a := ⟨_, List.getElem?_eq_getElem (by omega)⟩
            have hxm := List.mem_of_getElem? hk
            have hn : n < 18446744073709551616 := (hQ _ hxm).1
            have hrb : RdB _ 0 w.heap.size Ax cb b := ((hQ _ hxm).2).ext hE
            have hel := enc_len n
            have hel2 := enc_len b.length
            have hb200 : b.length ≤ 200 := h200 _ hxm
            rw [wire_drop hk] at hb_g hr1 hlw
            simp only [List.length_append] at hlw
            refine q_skip ?_
            refine k_then ?_
            refine wc_seq ?_
            refine wc_block ?_
            refine wc_seq ?_
            refine wc_regionL ?_
            refine wl_step (or_rindex (m := (k)) sl75 rfl rfl hrx (fun _ _ => rfl) hk) rfl rfl rfl ?_
            rintro v _ ⟨rfl, p97, rfl, hp97, hpl97, hph97⟩
            refine wl_val (ov_loadAgg (cs := [(.int .u64 (↑n : Int)), (.slice Ax b.length cb)]) ag77_2 rfl rfl hp97) rfl rfl rfl ?_
            refine wl_step (or_alloc (cs := [(.int .u64 0), (.slice none 0 0)]) ze77 rfl) rfl rfl rfl ?_
            rintro v w203 ⟨g14, rfl, hb_g14, he14, hl14, hu14⟩
            replace hrx := hrx.ext he14
            replace hb_g := hb_g.ext he14
            replace hr1 := hr1.ext he14
            replace hE := hE.tr he14
            replace hrb := hrb.ext he14
            have hz_he14 := he14.size
            refine wl_step0 (or_storeBlk (vs := [(.int .u64 (↑n : Int)), (.slice Ax b.length cb)]) sz77 rfl rfl (by simp [Value.oneCell']) hb_g14 rfl) rfl rfl ?_
            rintro _ w204 ⟨hN204, hg204⟩
            have hz_hg204 := hg204.size
            replace hrx := hrx.gr hg204 (fun _ e => by cases e; omega)
            replace hb_g := hb_g.gr hg204 (by intro e; cases e; omega)
            replace hr1 := hr1.gr hg204 (fun _ e => by cases e; omega)
            replace hE := hE.gr hg204 (fun _ e => by cases e; omega)
            replace hrb := hrb.gr hg204 (fun _ e => by cases e; omega)
            replace hb_g14 := hN204
            refine q_nil ?_
            refine k_then ?_
            refine wc_seq ?_
            refine wc_regionL ?_
            refine wl_val (ov_move rfl) rfl rfl rfl ?_
            refine wl_val (ov_field0 (off := 0) fo77_0 rfl) rfl rfl rfl ?_
            refine wl_val (ov_loadAt oc45 rfl hb_g14 rfl) rfl rfl rfl ?_
            refine wl_step (or_call0 cl35 rfl rfl (lnum_ok _ g _ _ _ _ (enc n ++ (enc b.length ++ (b ++ wireT (xs.drop (k + 1))))) hb_g hr1 (.inr hle) (by simp; omega) _ _ (by rw [vget_enc hn]) (by rw [vget_enc hn]; rfl))) rfl rfl rfl ?_
            rintro v w205 ⟨rfl, hg102, A3, c3, hb3, hr3⟩
            have hd : (enc n ++ (enc b.length ++ (b ++ wireT (xs.drop (k + 1))))).drop (vget (enc n ++ (enc b.length ++ (b ++ wireT (xs.drop (k + 1)))))).2.1 = enc b.length ++ (b ++ wireT (xs.drop (k + 1))) := by rw [vget_enc hn]; exact List.drop_left
            rw [hd] at hb3 hr3
            have hz_hg102 := hg102.size
            replace hrx := hrx.gr hg102 (fun _ e => by cases e; omega)
            replace hE := hE.gr hg102 (fun _ e => by cases e; omega)
            replace hrb := hrb.gr hg102 (fun _ e => by cases e; omega)
            replace hb_g14 := hb_g14.gr hg102 (by intro e; cases e; omega)
            replace hb_g := hb3
            replace hr1 := hr3
            refine wl_val (ov_not (b := true) rfl) rfl rfl rfl ?_
            refine wl_val (ov_move rfl) rfl rfl rfl ?_
            refine wl_gval (ov_move rfl) rfl rfl rfl rfl rfl ?_
            refine wl_gval (ov_field0 (off := 1) fo77_1 rfl) rfl rfl rfl rfl rfl ?_
            refine wl_gval (ov_loadAt oc22 rfl hb_g14 rfl) rfl rfl rfl rfl rfl ?_
            refine wl_gval (ov_bstr bt22 Try.underlying9 rfl hrb) rfl rfl rfl rfl rfl ?_
            refine wl_gstep (or_call0 cl37 rfl rfl (lbytes_ok _ g _ _ _ _ (enc b.length ++ (b ++ wireT (xs.drop (k + 1)))) hb_g hr1 (.inr hle) (by simp; omega) 200 (by omega) b 0 (by rw [vpart_enc (by omega) (by omega)]) (by rw [vpart_enc (by omega) (by omega)]; rfl))) rfl rfl rfl rfl rfl ?_
            rintro v w206 ⟨rfl, hg109, A3, c3, hb3, hr3⟩
            have hd2 : (enc b.length ++ (b ++ wireT (xs.drop (k + 1)))).drop (vpart (enc b.length ++ (b ++ wireT (xs.drop (k + 1)))) 200).2.1 = wireT (xs.drop (k + 1)) := by rw [vpart_enc (by omega) (by omega)]; exact drop_enc2 _ _
            rw [hd2] at hb3 hr3
            have hz_hg109 := hg109.size
            replace hrx := hrx.gr hg109 (fun _ e => by cases e; omega)
            replace hE := hE.gr hg109 (fun _ e => by cases e; omega)
            replace hrb := hrb.gr hg109 (fun _ e => by cases e; omega)
            replace hb_g14 := hb_g14.gr hg109 (by intro e; cases e; omega)
            replace hb_g := hb3
            replace hr1 := hr3
            refine wl_gval (ov_not (b := true) rfl) rfl rfl rfl rfl rfl ?_
            refine wl_val (ov_pick_f rfl rfl) rfl rfl rfl ?_
            refine q_nil ?_
            refine k_then ?_
            refine wc_cond_f rfl ?_
            refine q_skip ?_
            refine k_block ?_
            refine k_then ?_
            refine wc_regionL ?_
            refine wl_val (ov_add rfl rfl (wi64 (by omega) (by omega))) rfl rfl rfl ?_
            refine wl_val (ov_move rfl) rfl rfl rfl ?_
            refine q_nil ?_
            refine k_loop (k + 1) (by show xs.length - (k + 1) < xs.length - k; omega) (⟨rfl, rfl, rfl, rfl, trivial⟩) (⟨by omega, by omega, ⟨_, _, hb_g, hr1⟩, hrx, hE⟩)
          · refine q_exit ?_
            refine k_thenX ?_
            refine k_thenX ?_
            refine k_blockE ?_
            refine k_then ?_
            refine wc_seq ?_
            refine wc_regionL ?_
            refine wl_val (ov_move rfl) rfl rfl rfl ?_
            refine wl_val (or_call0 cl38 rfl rfl (left_ok _ g _ _ _ _ (wireT (xs.drop k)) hb_g hr1 (.inr hle) (by omega))) rfl rfl rfl ?_
            refine wl_val (ov_eql rfl rfl) rfl rfl rfl ?_
            refine wl_spell (d := 115) rfl (bt (by rw [List.drop_eq_nil_of_le (by omega)]; rfl)) ?_
            refine wl_val (ov_move rfl) rfl rfl rfl ?_
            refine wl_gstep (or_call0 cl23 rfl rfl (known04_any _)) rfl rfl rfl rfl rfl ?_
            rintro v w203 ⟨rfl, he117⟩
            replace hrx := hrx.ext he117
            replace hb_g := hb_g.ext he117
            replace hr1 := hr1.ext he117
            replace hE := hE.tr he117
            have hz_he117 := he117.size
            refine wl_val (ov_pick_t rfl rfl) rfl rfl rfl ?_
            refine wl_val (ov_assign rfl) rfl rfl rfl ?_
            refine q_nil ?_
            refine k_then ?_
            refine q_ret ?_
            refine e_ret rfl rfl ?_
            exact ⟨rfl, hE⟩
        · refine wl_val (ov_move rfl) rfl rfl rfl ?_
          refine wl_gskip rfl rfl rfl rfl rfl rfl ?_
          refine wl_gskip rfl rfl rfl rfl rfl rfl ?_
          refine wl_gskip rfl rfl rfl rfl rfl rfl ?_
          refine wl_gskip rfl rfl rfl rfl rfl rfl ?_
          refine wl_gskip rfl rfl rfl rfl rfl rfl ?_
          refine wl_gskipU rfl rfl rfl rfl rfl ?_
          refine wl_gskipU rfl rfl rfl rfl rfl ?_
          refine wl_gskipU rfl rfl rfl rfl rfl ?_
          refine wl_gskipU rfl rfl rfl rfl rfl ?_
          refine wl_gskipU rfl rfl rfl rfl rfl ?_
          refine wl_gskipU rfl rfl rfl rfl rfl ?_
          refine wl_gskip rfl rfl rfl rfl rfl rfl ?_
          refine wl_val (ov_pick_f rfl rfl) rfl rfl rfl ?_
          refine q_nil ?_
          refine k_then ?_
          refine wc_cond_f rfl ?_
          refine q_skip ?_
          refine k_then ?_
          refine wc_seq ?_
          refine wc_regionL ?_
          refine wl_val (ov_move rfl) rfl rfl rfl ?_
          refine wl_step (or_call0 cl34 rfl rfl (rnew_any _ _ _ _ _ (wireT xs) hr5 (by omega))) rfl rfl rfl ?_
          rintro v w201 ⟨g, A1, c1, h2, rfl, hb_g, hr1, hle, he92, hg1, hg2⟩
          replace hr := hr.ext he92
          replace hrx := hrx.ext he92
          replace hr5 := hr5.ext he92
          replace hE := hE.tr he92
          have hz_he92 := he92.size
          have hzg := hb_g.lt
          refine wl_val (ov_assign rfl) rfl rfl rfl ?_
          refine q_nil ?_
          refine k_then ?_
          refine wc_seq ?_
          refine wc_seq ?_
          refine wc_regionL ?_
          refine wl_val (ov_move rfl) rfl rfl rfl ?_
          refine wl_val (ov_len Try.underlying75 rfl) rfl rfl rfl ?_
          refine wl_val (ov_move rfl) rfl rfl rfl ?_
          refine q_nil ?_
          refine k_then ?_
          refine wc_block ?_
          have hz_El := hE.size
          refine wc_loop (σ := Nat) (fun s => xs.length - s) (fun s => [(12, .pointer (some ⟨g, 0, none⟩)), (93, .slice C xs.length cx), (94, .int .i64 (xs.length : Int)), (95, .int .i64 (s : Int))]) (fun s w' => s ≤ xs.length ∧ (wireT (xs.drop s)).length ≤ 4400 ∧ (∃ A9 c9, Blk w' g 72 [.bool true, .slice A9 (wireT (xs.drop s)).length c9] ∧ RdB w' w.heap.size h2 A9 c9 (wireT (xs.drop s))) ∧ RdR w' lox w.heap.size 2 thc C cx xs ∧ Ext w w') (0) (⟨Nat.zero_le _, by show (wireT xs).length ≤ 4400; omega, ⟨_, _, hb_g, hr1.mono (by omega) (Nat.le_refl _)⟩, hrx, hE⟩) (⟨rfl, rfl, rfl, rfl, trivial⟩) ?_
          rintro k wr ⟨hk0, hlw, ⟨A9, c9, hb_g, hr1⟩, hrx, hE⟩
          show WC _ _ _ _ [(12, (.pointer (some ⟨g, 0, none⟩))), (93, (.slice C xs.length cx)), (94, (.int .i64 (↑xs.length : Int))), (95, (.int .i64 (↑k : Int)))] _
          have hz_E := hE.size
          have hzg := hb_g.lt
          refine wc_seq ?_
          refine wc_regionL ?_
          refine wl_val (ov_lss rfl rfl) rfl rfl rfl ?_
          refine q_nil ?_
          refine k_then ?_
          refine wc_seq ?_
          refine wc_cond_d rfl (fun hc6 => ?_) (fun hc6 => ?_)
          · obtain ⟨⟨n, Ax, cb, b⟩, hk⟩ : ∃ a, xs[k]? = some a := ⟨_, List.getElem?_eq_getElem (by omega)⟩
            have hxm := List.mem_of_getElem? hk
            have hn : n < 18446744073709551616 := (hQ _ hxm).1
            have hrb : RdB _ 0 w.heap.size Ax cb b := ((hQ _ hxm).2).ext hE
            have hel := enc_len n
            have hel2 := enc_len b.length
            have hb200 : b.length ≤ 200 := h200 _ hxm
            rw [wire_drop hk] at hb_g hr1 hlw
            simp only [List.length_append] at hlw
            refine q_skip ?_
            refine k_then ?_
            refine wc_seq ?_
            refine wc_block ?_
            refine wc_seq ?_
            refine wc_regionL ?_
            refine wl_step (or_rindex (m := (k)) sl75 rfl rfl hrx (fun _ _ => rfl) hk) rfl rfl rfl ?_
            rintro v _ ⟨rfl, p97, rfl, hp97, hpl97, hph97⟩
            refine wl_val (ov_loadAgg (cs := [(.int .u64 (↑n : Int)), (.slice Ax b.length cb)]) ag77_2 rfl rfl hp97) rfl rfl rfl ?_
            refine wl_step (or_alloc (cs := [(.int .u64 0), (.slice none 0 0)]) ze77 rfl) rfl rfl rfl ?_
            rintro v w202 ⟨g14, rfl, hb_g14, he14, hl14, hu14⟩
            replace hrx := hrx.ext he14
            replace hb_g := hb_g.ext he14
            replace hr1 := hr1.ext he14
            replace hE := hE.tr he14
            replace hrb := hrb.ext he14
            have hz_he14 := he14.size
            refine wl_step0 (or_storeBlk (vs := [(.int .u64 (↑n : Int)), (.slice Ax b.length cb)]) sz77 rfl rfl (by simp [Value.oneCell']) hb_g14 rfl) rfl rfl ?_
            rintro _ w203 ⟨hN203, hg203⟩
            have hz_hg203 := hg203.size
            replace hrx := hrx.gr hg203 (fun _ e => by cases e; omega)
            replace hb_g := hb_g.gr hg203 (by intro e; cases e; omega)
            replace hr1 := hr1.gr hg203 (fun _ e => by cases e; omega)
            replace hE := hE.gr hg203 (fun _ e => by cases e; omega)
            replace hrb := hrb.gr hg203 (fun _ e => by cases e; omega)
            replace hb_g14 := hN203
            refine q_nil ?_
            refine k_then ?_
            refine wc_seq ?_
            refine wc_regionL ?_
            refine wl_val (ov_move rfl) rfl rfl rfl ?_
            refine wl_val (ov_field0 (off := 0) fo77_0 rfl) rfl rfl rfl ?_
            refine wl_val (ov_loadAt oc45 rfl hb_g14 rfl) rfl rfl rfl ?_
            refine wl_step (or_call0 cl35 rfl rfl (lnum_ok _ g _ _ _ _ (enc n ++ (enc b.length ++ (b ++ wireT (xs.drop (k + 1))))) hb_g hr1 (.inr hle) (by simp; omega) _ _ (by rw [vget_enc hn]) (by rw [vget_enc hn]; rfl))) rfl rfl rfl ?_
            rintro v w204 ⟨rfl, hg102, A3, c3, hb3, hr3⟩
            have hd : (enc n ++ (enc b.length ++ (b ++ wireT (xs.drop (k + 1))))).drop (vget (enc n ++ (enc b.length ++ (b ++ wireT (xs.drop (k + 1)))))).2.1 = enc b.length ++ (b ++ wireT (xs.drop (k + 1))) := by rw [vget_enc hn]; exact List.drop_left
            rw [hd] at hb3 hr3
            have hz_hg102 := hg102.size
            replace hrx := hrx.gr hg102 (fun _ e => by cases e; omega)
            replace hE := hE.gr hg102 (fun _ e => by cases e; omega)
            replace hrb := hrb.gr hg102 (fun _ e => by cases e; omega)
            replace hb_g14 := hb_g14.gr hg102 (by intro e; cases e; omega)
            replace hb_g := hb3
            replace hr1 := hr3
            refine wl_val (ov_not (b := true) rfl) rfl rfl rfl ?_
            refine wl_val (ov_move rfl) rfl rfl rfl ?_
            refine wl_gval (ov_move rfl) rfl rfl rfl rfl rfl ?_
            refine wl_gval (ov_field0 (off := 1) fo77_1 rfl) rfl rfl rfl rfl rfl ?_
            refine wl_gval (ov_loadAt oc22 rfl hb_g14 rfl) rfl rfl rfl rfl rfl ?_
            refine wl_gval (ov_bstr bt22 Try.underlying9 rfl hrb) rfl rfl rfl rfl rfl ?_
            refine wl_gstep (or_call0 cl37 rfl rfl (lbytes_ok _ g _ _ _ _ (enc b.length ++ (b ++ wireT (xs.drop (k + 1)))) hb_g hr1 (.inr hle) (by simp; omega) 200 (by omega) b 0 (by rw [vpart_enc (by omega) (by omega)]) (by rw [vpart_enc (by omega) (by omega)]; rfl))) rfl rfl rfl rfl rfl ?_
            rintro v w205 ⟨rfl, hg109, A3, c3, hb3, hr3⟩
            have hd2 : (enc b.length ++ (b ++ wireT (xs.drop (k + 1)))).drop (vpart (enc b.length ++ (b ++ wireT (xs.drop (k + 1)))) 200).2.1 = wireT (xs.drop (k + 1)) := by rw [vpart_enc (by omega) (by omega)]; exact drop_enc2 _ _
            rw [hd2] at hb3 hr3
            have hz_hg109 := hg109.size
            replace hrx := hrx.gr hg109 (fun _ e => by cases e; omega)
            replace hE := hE.gr hg109 (fun _ e => by cases e; omega)
            replace hrb := hrb.gr hg109 (fun _ e => by cases e; omega)
            replace hb_g14 := hb_g14.gr hg109 (by intro e; cases e; omega)
            replace hb_g := hb3
            replace hr1 := hr3
            refine wl_gval (ov_not (b := true) rfl) rfl rfl rfl rfl rfl ?_
            refine wl_val (ov_pick_f rfl rfl) rfl rfl rfl ?_
            refine q_nil ?_
            refine k_then ?_
            refine wc_cond_f rfl ?_
            refine q_skip ?_
            refine k_block ?_
            refine k_then ?_
            refine wc_regionL ?_
            refine wl_val (ov_add rfl rfl (wi64 (by omega) (by omega))) rfl rfl rfl ?_
            refine wl_val (ov_move rfl) rfl rfl rfl ?_
            refine q_nil ?_
            refine k_loop (k + 1) (by show xs.length - (k + 1) < xs.length - k; omega) (⟨rfl, rfl, rfl, rfl, trivial⟩) (⟨by omega, by omega, ⟨_, _, hb_g, hr1⟩, hrx, hE⟩)
          · refine q_exit ?_
            refine k_thenX ?_
            refine k_thenX ?_
            refine k_blockE ?_
            refine k_then ?_
            refine wc_seq ?_
            refine wc_regionL ?_
            refine wl_val (ov_move rfl) rfl rfl rfl ?_
            refine wl_val (or_call0 cl38 rfl rfl (left_ok _ g _ _ _ _ (wireT (xs.drop k)) hb_g hr1 (.inr hle) (by omega))) rfl rfl rfl ?_
            refine wl_val (ov_eql rfl rfl) rfl rfl rfl ?_
            refine wl_spell (d := 115) rfl (bt (by rw [List.drop_eq_nil_of_le (by omega)]; rfl)) ?_
            refine wl_val (ov_move rfl) rfl rfl rfl ?_
            refine wl_gstep (or_call0 cl23 rfl rfl (known04_any _)) rfl rfl rfl rfl rfl ?_
            rintro v w202 ⟨rfl, he117⟩
            replace hrx := hrx.ext he117
            replace hb_g := hb_g.ext he117
            replace hr1 := hr1.ext he117
            replace hE := hE.tr he117
            have hz_he117 := he117.size
            refine wl_val (ov_pick_t rfl rfl) rfl rfl rfl ?_
            refine wl_val (ov_assign rfl) rfl rfl rfl ?_
            refine q_nil ?_
            refine k_then ?_
            refine q_ret ?_
            refine e_ret rfl rfl ?_
            exact ⟨rfl, hE⟩

end Go.Proofs.Ytfniipfdpoeapaa
