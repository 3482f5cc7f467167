/-
  The walk of ResponseLongs.
-/
import Derived.Test.YtohnkjjjejnkpaaRspL
import Derived.Test.YtohnkjjjejnkpaaRo
namespace Go.Proofs.Ytohnkjjjejnkpaa
open Go.RowKit
set_option linter.unusedVariables false
set_option maxRecDepth 4000
theorem cl17 : callable Try.prog 17 = true := by kernel_rfl
theorem sl54 : SliceTy Try.prog 54 28 6 80 (.agg #[(.int .i64 0), (.int .i64 0), (.slice none 0 0), (.int .u64 0), (.int .i64 0), (.slice none 0 0)]) := sliceTy_mk Try.underlying54 (by kernel_rfl) rfl (by decide)

theorem miT_succ (k : Nat) : ((List.range (k + 1)).map miT).flatMap itc = ((List.range k).map miT).flatMap itc ++ [.int .i64 1, .slice none 0 0, .int .u64 (k : Int), .int .u64 0] := by
  rw [List.range_succ, List.map_append, List.flatMap_append]; rfl
theorem rep_nuc (k m : Nat) : (List.replicate (k + 1) m).flatMap nuc = (List.replicate k m).flatMap nuc ++ [.int .u64 (m : Int)] := by
  rw [List.replicate_succ', List.flatMap_append]; rfl
/-- A response with the places of its parts. -/
abbrev LT8 := Rsp × List IT × Option Addr × Nat × Option Addr × Nat
def ltc (x : LT8) : List Value := rspc x.1 x.2.2.1 x.2.2.2.1 x.2.2.2.2.1 x.2.2.2.2.2
def LQ (w : World) (B : Nat) (XS : List LT8) : Prop := ∀ x ∈ XS, vals x.2.1 = x.1.items ∧ RdI w 0 B x.2.2.1 x.2.2.2.1 x.2.1 ∧ RdN w 0 B x.2.2.2.2.1 x.2.2.2.2.2 x.1.nums
theorem LQ.gr {w w' : World} {B : Nat} {XS : List LT8} (h : LQ w B XS) {row : Option Nat} (hg : Gr w w' row) (hr : ∀ g, row = some g → B ≤ g) : LQ w' B XS := fun x hx =>
  ⟨(h x hx).1, RdI.gr (h x hx).2.1 hg fun g e => .inr (hr g e), (h x hx).2.2.gr hg fun g e => .inr (hr g e)⟩
theorem LQ.ext {w w' : World} {B : Nat} {XS : List LT8} (h : LQ w B XS) (he : Ext w w') : LQ w' B XS := h.gr he fun g e => by cases e

theorem responseLongs_a (w : World) (more parts great : Int) (h : more < -2) :
    Fn Try.prog 6 #[(.int .i64 more), (.int .i64 parts), (.int .i64 great)] w (fun v w' => v = .bool true ∧ Ext w w')  := by
  have hE := ext_refl w
  refine fn_enter (args := [(.int .i64 more), (.int .i64 parts), (.int .i64 great)]) Try.func6 rfl rfl rfl ?_
  show WC _ _ _ _ [(0, (.int .i64 more)), (1, (.int .i64 parts)), (2, (.int .i64 great))] _
  refine wc_seq (wc_regionL ?_)
  refine va rfl rfl ?_
  refine q_nil (k_then (wc_seq (wc_seq (wc_regionL ?_))))
  refine vm rfl rfl ?_
  refine wl_val (ov_lss rfl rfl) rfl rfl rfl ?_
  refine wl_spell (d := 15) rfl (bt (by omega)) ?_
  refine vm rfl rfl ?_
  iterate 2 refine wl_gskip rfl rfl rfl rfl rfl rfl ?_
  refine wl_val (ov_pick_t rfl rfl) rfl rfl rfl ?_
  refine vm rfl rfl ?_
  iterate 2 refine wl_gskip rfl rfl rfl rfl rfl rfl ?_
  refine wl_val (ov_pick_t rfl rfl) rfl rfl rfl ?_
  refine vm rfl rfl ?_
  iterate 2 refine wl_gskip rfl rfl rfl rfl rfl rfl ?_
  refine wl_val (ov_pick_t rfl rfl) rfl rfl rfl ?_
  refine vm rfl rfl ?_
  iterate 2 refine wl_gskip rfl rfl rfl rfl rfl rfl ?_
  refine wl_val (ov_pick_t rfl rfl) rfl rfl rfl ?_
  refine vm rfl rfl ?_
  iterate 2 refine wl_gskip rfl rfl rfl rfl rfl rfl ?_
  refine wl_val (ov_pick_t rfl rfl) rfl rfl rfl ?_
  refine q_nil (k_then ?_)
  refine wc_cond_t rfl ?_
  refine wc_seq (wc_regionL ?_)
  refine wl_step (or_call0 cl9 rfl rfl (known08_any _)) rfl rfl rfl ?_
  rintro v w1 ⟨rfl, he36⟩
  replace hE := hE.tr he36
  have hz_he36 := he36.size
  refine va rfl rfl ?_
  refine q_nil (k_then (q_ret (k_thenR ?_)))
  refine e_ret rfl rfl ?_
  exact ⟨rfl, hE⟩

theorem responseLongs_b (w : World) (more parts great : Int) (h0 : ¬ more < -2) (h : 2 < more) :
    Fn Try.prog 6 #[(.int .i64 more), (.int .i64 parts), (.int .i64 great)] w (fun v w' => v = .bool true ∧ Ext w w')  := by
  have hE := ext_refl w
  refine fn_enter (args := [(.int .i64 more), (.int .i64 parts), (.int .i64 great)]) Try.func6 rfl rfl rfl ?_
  show WC _ _ _ _ [(0, (.int .i64 more)), (1, (.int .i64 parts)), (2, (.int .i64 great))] _
  refine wc_seq (wc_regionL ?_)
  refine va rfl rfl ?_
  refine q_nil (k_then (wc_seq (wc_seq (wc_regionL ?_))))
  refine vm rfl rfl ?_
  refine wl_val (ov_lss rfl rfl) rfl rfl rfl ?_
  refine wl_spell (d := 15) rfl (bf (by omega)) ?_
  refine vm rfl rfl ?_
  refine wl_gval (ov_move rfl) rfl rfl rfl rfl rfl ?_
  refine wl_gval (ov_gtr rfl rfl) rfl rfl rfl rfl rfl ?_
  refine wl_spell (d := 18) rfl (bt (by omega)) ?_
  refine wl_val (ov_pick_f rfl rfl) rfl rfl rfl ?_
  refine vm rfl rfl ?_
  iterate 2 refine wl_gskip rfl rfl rfl rfl rfl rfl ?_
  refine wl_val (ov_pick_t rfl rfl) rfl rfl rfl ?_
  refine vm rfl rfl ?_
  iterate 2 refine wl_gskip rfl rfl rfl rfl rfl rfl ?_
  refine wl_val (ov_pick_t rfl rfl) rfl rfl rfl ?_
  refine vm rfl rfl ?_
  iterate 2 refine wl_gskip rfl rfl rfl rfl rfl rfl ?_
  refine wl_val (ov_pick_t rfl rfl) rfl rfl rfl ?_
  refine vm rfl rfl ?_
  iterate 2 refine wl_gskip rfl rfl rfl rfl rfl rfl ?_
  refine wl_val (ov_pick_t rfl rfl) rfl rfl rfl ?_
  refine q_nil (k_then ?_)
  refine wc_cond_t rfl ?_
  refine wc_seq (wc_regionL ?_)
  refine wl_step (or_call0 cl9 rfl rfl (known08_any _)) rfl rfl rfl ?_
  rintro v w1 ⟨rfl, he36⟩
  replace hE := hE.tr he36
  have hz_he36 := he36.size
  refine va rfl rfl ?_
  refine q_nil (k_then (q_ret (k_thenR ?_)))
  refine e_ret rfl rfl ?_
  exact ⟨rfl, hE⟩

theorem responseLongs_c (w : World) (more parts great : Int) (h0 : ¬ more < -2) (h1 : ¬ 2 < more) (h : parts < -2) :
    Fn Try.prog 6 #[(.int .i64 more), (.int .i64 parts), (.int .i64 great)] w (fun v w' => v = .bool true ∧ Ext w w')  := by
  have hE := ext_refl w
  refine fn_enter (args := [(.int .i64 more), (.int .i64 parts), (.int .i64 great)]) Try.func6 rfl rfl rfl ?_
  show WC _ _ _ _ [(0, (.int .i64 more)), (1, (.int .i64 parts)), (2, (.int .i64 great))] _
  refine wc_seq (wc_regionL ?_)
  refine va rfl rfl ?_
  refine q_nil (k_then (wc_seq (wc_seq (wc_regionL ?_))))
  refine vm rfl rfl ?_
  refine wl_val (ov_lss rfl rfl) rfl rfl rfl ?_
  refine wl_spell (d := 15) rfl (bf (by omega)) ?_
  refine vm rfl rfl ?_
  refine wl_gval (ov_move rfl) rfl rfl rfl rfl rfl ?_
  refine wl_gval (ov_gtr rfl rfl) rfl rfl rfl rfl rfl ?_
  refine wl_spell (d := 18) rfl (bf (by omega)) ?_
  refine wl_val (ov_pick_f rfl rfl) rfl rfl rfl ?_
  refine vm rfl rfl ?_
  refine wl_gval (ov_move rfl) rfl rfl rfl rfl rfl ?_
  refine wl_gval (ov_lss rfl rfl) rfl rfl rfl rfl rfl ?_
  refine wl_spell (d := 22) rfl (bt (by omega)) ?_
  refine wl_val (ov_pick_f rfl rfl) rfl rfl rfl ?_
  refine vm rfl rfl ?_
  iterate 2 refine wl_gskip rfl rfl rfl rfl rfl rfl ?_
  refine wl_val (ov_pick_t rfl rfl) rfl rfl rfl ?_
  refine vm rfl rfl ?_
  iterate 2 refine wl_gskip rfl rfl rfl rfl rfl rfl ?_
  refine wl_val (ov_pick_t rfl rfl) rfl rfl rfl ?_
  refine vm rfl rfl ?_
  iterate 2 refine wl_gskip rfl rfl rfl rfl rfl rfl ?_
  refine wl_val (ov_pick_t rfl rfl) rfl rfl rfl ?_
  refine q_nil (k_then ?_)
  refine wc_cond_t rfl ?_
  refine wc_seq (wc_regionL ?_)
  refine wl_step (or_call0 cl9 rfl rfl (known08_any _)) rfl rfl rfl ?_
  rintro v w1 ⟨rfl, he36⟩
  replace hE := hE.tr he36
  have hz_he36 := he36.size
  refine va rfl rfl ?_
  refine q_nil (k_then (q_ret (k_thenR ?_)))
  refine e_ret rfl rfl ?_
  exact ⟨rfl, hE⟩

theorem responseLongs_d (w : World) (more parts great : Int) (h0 : ¬ more < -2) (h1 : ¬ 2 < more) (h2 : ¬ parts < -2) (h : 2 < parts) :
    Fn Try.prog 6 #[(.int .i64 more), (.int .i64 parts), (.int .i64 great)] w (fun v w' => v = .bool true ∧ Ext w w')  := by
  have hE := ext_refl w
  refine fn_enter (args := [(.int .i64 more), (.int .i64 parts), (.int .i64 great)]) Try.func6 rfl rfl rfl ?_
  show WC _ _ _ _ [(0, (.int .i64 more)), (1, (.int .i64 parts)), (2, (.int .i64 great))] _
  refine wc_seq (wc_regionL ?_)
  refine va rfl rfl ?_
  refine q_nil (k_then (wc_seq (wc_seq (wc_regionL ?_))))
  refine vm rfl rfl ?_
  refine wl_val (ov_lss rfl rfl) rfl rfl rfl ?_
  refine wl_spell (d := 15) rfl (bf (by omega)) ?_
  refine vm rfl rfl ?_
  refine wl_gval (ov_move rfl) rfl rfl rfl rfl rfl ?_
  refine wl_gval (ov_gtr rfl rfl) rfl rfl rfl rfl rfl ?_
  refine wl_spell (d := 18) rfl (bf (by omega)) ?_
  refine wl_val (ov_pick_f rfl rfl) rfl rfl rfl ?_
  refine vm rfl rfl ?_
  refine wl_gval (ov_move rfl) rfl rfl rfl rfl rfl ?_
  refine wl_gval (ov_lss rfl rfl) rfl rfl rfl rfl rfl ?_
  refine wl_spell (d := 22) rfl (bf (by omega)) ?_
  refine wl_val (ov_pick_f rfl rfl) rfl rfl rfl ?_
  refine vm rfl rfl ?_
  refine wl_gval (ov_move rfl) rfl rfl rfl rfl rfl ?_
  refine wl_gval (ov_gtr rfl rfl) rfl rfl rfl rfl rfl ?_
  refine wl_spell (d := 26) rfl (bt (by omega)) ?_
  refine wl_val (ov_pick_f rfl rfl) rfl rfl rfl ?_
  refine vm rfl rfl ?_
  iterate 2 refine wl_gskip rfl rfl rfl rfl rfl rfl ?_
  refine wl_val (ov_pick_t rfl rfl) rfl rfl rfl ?_
  refine vm rfl rfl ?_
  iterate 2 refine wl_gskip rfl rfl rfl rfl rfl rfl ?_
  refine wl_val (ov_pick_t rfl rfl) rfl rfl rfl ?_
  refine q_nil (k_then ?_)
  refine wc_cond_t rfl ?_
  refine wc_seq (wc_regionL ?_)
  refine wl_step (or_call0 cl9 rfl rfl (known08_any _)) rfl rfl rfl ?_
  rintro v w1 ⟨rfl, he36⟩
  replace hE := hE.tr he36
  have hz_he36 := he36.size
  refine va rfl rfl ?_
  refine q_nil (k_then (q_ret (k_thenR ?_)))
  refine e_ret rfl rfl ?_
  exact ⟨rfl, hE⟩

theorem responseLongs_e (w : World) (more parts great : Int) (h0 : ¬ more < -2) (h1 : ¬ 2 < more) (h2 : ¬ parts < -2) (h3 : ¬ 2 < parts) (h : great < -2) :
    Fn Try.prog 6 #[(.int .i64 more), (.int .i64 parts), (.int .i64 great)] w (fun v w' => v = .bool true ∧ Ext w w')  := by
  have hE := ext_refl w
  refine fn_enter (args := [(.int .i64 more), (.int .i64 parts), (.int .i64 great)]) Try.func6 rfl rfl rfl ?_
  show WC _ _ _ _ [(0, (.int .i64 more)), (1, (.int .i64 parts)), (2, (.int .i64 great))] _
  refine wc_seq (wc_regionL ?_)
  refine va rfl rfl ?_
  refine q_nil (k_then (wc_seq (wc_seq (wc_regionL ?_))))
  refine vm rfl rfl ?_
  refine wl_val (ov_lss rfl rfl) rfl rfl rfl ?_
  refine wl_spell (d := 15) rfl (bf (by omega)) ?_
  refine vm rfl rfl ?_
  refine wl_gval (ov_move rfl) rfl rfl rfl rfl rfl ?_
  refine wl_gval (ov_gtr rfl rfl) rfl rfl rfl rfl rfl ?_
  refine wl_spell (d := 18) rfl (bf (by omega)) ?_
  refine wl_val (ov_pick_f rfl rfl) rfl rfl rfl ?_
  refine vm rfl rfl ?_
  refine wl_gval (ov_move rfl) rfl rfl rfl rfl rfl ?_
  refine wl_gval (ov_lss rfl rfl) rfl rfl rfl rfl rfl ?_
  refine wl_spell (d := 22) rfl (bf (by omega)) ?_
  refine wl_val (ov_pick_f rfl rfl) rfl rfl rfl ?_
  refine vm rfl rfl ?_
  refine wl_gval (ov_move rfl) rfl rfl rfl rfl rfl ?_
  refine wl_gval (ov_gtr rfl rfl) rfl rfl rfl rfl rfl ?_
  refine wl_spell (d := 26) rfl (bf (by omega)) ?_
  refine wl_val (ov_pick_f rfl rfl) rfl rfl rfl ?_
  refine vm rfl rfl ?_
  refine wl_gval (ov_move rfl) rfl rfl rfl rfl rfl ?_
  refine wl_gval (ov_lss rfl rfl) rfl rfl rfl rfl rfl ?_
  refine wl_spell (d := 30) rfl (bt (by omega)) ?_
  refine wl_val (ov_pick_f rfl rfl) rfl rfl rfl ?_
  refine vm rfl rfl ?_
  iterate 2 refine wl_gskip rfl rfl rfl rfl rfl rfl ?_
  refine wl_val (ov_pick_t rfl rfl) rfl rfl rfl ?_
  refine q_nil (k_then ?_)
  refine wc_cond_t rfl ?_
  refine wc_seq (wc_regionL ?_)
  refine wl_step (or_call0 cl9 rfl rfl (known08_any _)) rfl rfl rfl ?_
  rintro v w1 ⟨rfl, he36⟩
  replace hE := hE.tr he36
  have hz_he36 := he36.size
  refine va rfl rfl ?_
  refine q_nil (k_then (q_ret (k_thenR ?_)))
  refine e_ret rfl rfl ?_
  exact ⟨rfl, hE⟩

theorem responseLongs_f (w : World) (more parts great : Int) (h0 : ¬ more < -2) (h1 : ¬ 2 < more) (h2 : ¬ parts < -2) (h3 : ¬ 2 < parts) (h4 : ¬ great < -2) (h : 2 < great) :
    Fn Try.prog 6 #[(.int .i64 more), (.int .i64 parts), (.int .i64 great)] w (fun v w' => v = .bool true ∧ Ext w w')  := by
  have hE := ext_refl w
  refine fn_enter (args := [(.int .i64 more), (.int .i64 parts), (.int .i64 great)]) Try.func6 rfl rfl rfl ?_
  show WC _ _ _ _ [(0, (.int .i64 more)), (1, (.int .i64 parts)), (2, (.int .i64 great))] _
  refine wc_seq (wc_regionL ?_)
  refine va rfl rfl ?_
  refine q_nil (k_then (wc_seq (wc_seq (wc_regionL ?_))))
  refine vm rfl rfl ?_
  refine wl_val (ov_lss rfl rfl) rfl rfl rfl ?_
  refine wl_spell (d := 15) rfl (bf (by omega)) ?_
  refine vm rfl rfl ?_
  refine wl_gval (ov_move rfl) rfl rfl rfl rfl rfl ?_
  refine wl_gval (ov_gtr rfl rfl) rfl rfl rfl rfl rfl ?_
  refine wl_spell (d := 18) rfl (bf (by omega)) ?_
  refine wl_val (ov_pick_f rfl rfl) rfl rfl rfl ?_
  refine vm rfl rfl ?_
  refine wl_gval (ov_move rfl) rfl rfl rfl rfl rfl ?_
  refine wl_gval (ov_lss rfl rfl) rfl rfl rfl rfl rfl ?_
  refine wl_spell (d := 22) rfl (bf (by omega)) ?_
  refine wl_val (ov_pick_f rfl rfl) rfl rfl rfl ?_
  refine vm rfl rfl ?_
  refine wl_gval (ov_move rfl) rfl rfl rfl rfl rfl ?_
  refine wl_gval (ov_gtr rfl rfl) rfl rfl rfl rfl rfl ?_
  refine wl_spell (d := 26) rfl (bf (by omega)) ?_
  refine wl_val (ov_pick_f rfl rfl) rfl rfl rfl ?_
  refine vm rfl rfl ?_
  refine wl_gval (ov_move rfl) rfl rfl rfl rfl rfl ?_
  refine wl_gval (ov_lss rfl rfl) rfl rfl rfl rfl rfl ?_
  refine wl_spell (d := 30) rfl (bf (by omega)) ?_
  refine wl_val (ov_pick_f rfl rfl) rfl rfl rfl ?_
  refine vm rfl rfl ?_
  refine wl_gval (ov_move rfl) rfl rfl rfl rfl rfl ?_
  refine wl_gval (ov_gtr rfl rfl) rfl rfl rfl rfl rfl ?_
  refine wl_spell (d := 34) rfl (bt (by omega)) ?_
  refine wl_val (ov_pick_f rfl rfl) rfl rfl rfl ?_
  refine q_nil (k_then ?_)
  refine wc_cond_t rfl ?_
  refine wc_seq (wc_regionL ?_)
  refine wl_step (or_call0 cl9 rfl rfl (known08_any _)) rfl rfl rfl ?_
  rintro v w1 ⟨rfl, he36⟩
  replace hE := hE.tr he36
  have hz_he36 := he36.size
  refine va rfl rfl ?_
  refine q_nil (k_then (q_ret (k_thenR ?_)))
  refine e_ret rfl rfl ?_
  exact ⟨rfl, hE⟩

set_option maxHeartbeats 4000000 in
theorem responseLongs_g (w : World) (more parts great : Int) (h0 : ¬ more < -2) (h1 : ¬ 2 < more) (h2 : ¬ parts < -2) (h3 : ¬ 2 < parts) (h4 : ¬ great < -2) (h5 : ¬ 2 < great) (nv np nn : Nat) (hnv : 65536 + more = (nv : Int)) (hnp : 16 + parts = (np : Int)) (hnn : 64 + parts = (nn : Int)) :
    Fn Try.prog 6 #[(.int .i64 more), (.int .i64 parts), (.int .i64 great)] w (fun v w' => v = .bool true ∧ Ext w w')  := by
  have hE := ext_refl w
  refine fn_enter (args := [(.int .i64 more), (.int .i64 parts), (.int .i64 great)]) Try.func6 rfl rfl rfl ?_
  show WC _ _ _ _ [(0, (.int .i64 more)), (1, (.int .i64 parts)), (2, (.int .i64 great))] _
  refine wc_seq (wc_regionL ?_)
  refine va rfl rfl ?_
  refine q_nil (k_then (wc_seq (wc_seq (wc_regionL ?_))))
  refine vm rfl rfl ?_
  refine wl_val (ov_lss rfl rfl) rfl rfl rfl ?_
  refine wl_spell (d := 15) rfl (bf (by omega)) ?_
  refine vm rfl rfl ?_
  refine wl_gval (ov_move rfl) rfl rfl rfl rfl rfl ?_
  refine wl_gval (ov_gtr rfl rfl) rfl rfl rfl rfl rfl ?_
  refine wl_spell (d := 18) rfl (bf (by omega)) ?_
  refine wl_val (ov_pick_f rfl rfl) rfl rfl rfl ?_
  refine vm rfl rfl ?_
  refine wl_gval (ov_move rfl) rfl rfl rfl rfl rfl ?_
  refine wl_gval (ov_lss rfl rfl) rfl rfl rfl rfl rfl ?_
  refine wl_spell (d := 22) rfl (bf (by omega)) ?_
  refine wl_val (ov_pick_f rfl rfl) rfl rfl rfl ?_
  refine vm rfl rfl ?_
  refine wl_gval (ov_move rfl) rfl rfl rfl rfl rfl ?_
  refine wl_gval (ov_gtr rfl rfl) rfl rfl rfl rfl rfl ?_
  refine wl_spell (d := 26) rfl (bf (by omega)) ?_
  refine wl_val (ov_pick_f rfl rfl) rfl rfl rfl ?_
  refine vm rfl rfl ?_
  refine wl_gval (ov_move rfl) rfl rfl rfl rfl rfl ?_
  refine wl_gval (ov_lss rfl rfl) rfl rfl rfl rfl rfl ?_
  refine wl_spell (d := 30) rfl (bf (by omega)) ?_
  refine wl_val (ov_pick_f rfl rfl) rfl rfl rfl ?_
  refine vm rfl rfl ?_
  refine wl_gval (ov_move rfl) rfl rfl rfl rfl rfl ?_
  refine wl_gval (ov_gtr rfl rfl) rfl rfl rfl rfl rfl ?_
  refine wl_spell (d := 34) rfl (bf (by omega)) ?_
  refine wl_val (ov_pick_f rfl rfl) rfl rfl rfl ?_
  refine q_nil (k_then ?_)
  refine wc_cond_f rfl ?_
  refine q_skip (k_then (wc_seq (wc_regionL ?_)))
  refine vm rfl rfl ?_
  refine wl_val (ov_add rfl rfl (wi64 (by omega) (by omega))) rfl rfl rfl ?_
  refine wl_spell (d := 38) rfl (v' := (.int .i64 (↑nv : Int))) (by rw [hnv]) ?_
  refine wl_step (or_makeBytes (n := nv) bt32 rfl rfl (rfl) (by omega)) rfl rfl rfl ?_
  rintro v w1 ⟨A39, c39, rfl, ho39, he39⟩
  replace hE := hE.tr he39
  have hz_he39 := he39.size
  have hq_ho39 := fun g e => Own.lt ho39 (g := g) e
  refine wl_val (ov_build (cs := [(.int .i64 2), (.slice A39 (List.replicate nv 0).length c39), (.int .u64 18446744073709551615), (.int .u64 18446744073709551615)]) ze53 pl53 rfl rfl) rfl rfl rfl ?_
  refine wl_step (or_buildSliceF (cs := [.int .i64 2, .slice A39 (List.replicate nv (0 : UInt8)).length c39, .int .u64 18446744073709551615, .int .u64 18446744073709551615]) sl24 rfl (by kernel_rfl) (by decide) (by decide)) rfl rfl rfl ?_
  rintro v w2 ⟨g41, rfl, hb_g41, he41, hl41, hu41⟩
  replace hE := hE.tr he41
  replace ho39 := Own.ext ho39 he41
  have hz_he41 := he41.size
  refine wl_val (ov_build (cs := [(.int .i64 4), (.int .i64 0), (.slice (some ⟨g41, 0, none⟩) 1 1), (.int .u64 0), (.int .i64 0), (.slice none 0 0)]) ze28 pl28 rfl rfl) rfl rfl rfl ?_
  refine wl_step (or_alloc (cs := [(.int .i64 0), (.int .i64 0), (.slice none 0 0), (.int .u64 0), (.int .i64 0), (.slice none 0 0)]) ze28 rfl) rfl rfl rfl ?_
  rintro v w3 ⟨g7, rfl, hb_g7, he7, hl7, hu7⟩
  replace hE := hE.tr he7
  replace ho39 := Own.ext ho39 he7
  replace hb_g41 := hb_g41.ext he7
  have hz_he7 := he7.size
  refine wl_step0 (or_storeBlk (vs := [(.int .i64 4), (.int .i64 0), (.slice (some ⟨g41, 0, none⟩) 1 1), (.int .u64 0), (.int .i64 0), (.slice none 0 0)]) sz28 rfl rfl (by simp [Value.oneCell']) hb_g7 rfl) rfl rfl ?_
  rintro _ w4 ⟨hN4, hg4⟩
  have hz_hg4 := hg4.size
  replace hE := hE.gr hg4 (fun _ e => by cases e; omega)
  replace ho39 := Own.gr ho39 hg4 (by first | exact .inl rfl | (right; intro e; first | (have := hq_ho39 _ e; omega) | (have := Own.lt ho39 e; omega) | exact own_blk_ne ho39 hb_g7 (by decide) e))
  replace hb_g41 := hb_g41.gr hg4 (by intro e; cases e; omega)
  replace hb_g7 := hN4
  refine q_nil (k_then (wc_seq (wc_regionL ?_)))
  refine wl_val (ov_build (cs := [(.int .i64 5), (.int .i64 0), (.slice none 0 0), (.int .u64 0), (.int .i64 0), (.slice none 0 0)]) ze28 pl28 rfl rfl) rfl rfl rfl ?_
  refine wl_val (ov_build (cs := [(.int .i64 15), (.int .i64 0), (.slice none 0 0), (.int .u64 0), (.int .i64 0), (.slice none 0 0)]) ze28 pl28 rfl rfl) rfl rfl rfl ?_
  refine wl_step (or_alloc (cs := [(.int .i64 0), (.int .i64 0), (.slice none 0 0), (.int .u64 0), (.int .i64 0), (.slice none 0 0)]) ze28 rfl) rfl rfl rfl ?_
  rintro v w5 ⟨g8, rfl, hb_g8, he8, hl8, hu8⟩
  replace hE := hE.tr he8
  replace ho39 := Own.ext ho39 he8
  replace hb_g41 := hb_g41.ext he8
  replace hb_g7 := hb_g7.ext he8
  have hz_he8 := he8.size
  refine wl_step (or_alloc (cs := [(.int .i64 0), (.int .i64 0), (.slice none 0 0), (.int .u64 0), (.int .i64 0), (.slice none 0 0)]) ze28 rfl) rfl rfl rfl ?_
  rintro v w6 ⟨g9, rfl, hb_g9, he9, hl9, hu9⟩
  replace hE := hE.tr he9
  replace ho39 := Own.ext ho39 he9
  replace hb_g41 := hb_g41.ext he9
  replace hb_g7 := hb_g7.ext he9
  replace hb_g8 := hb_g8.ext he9
  have hz_he9 := he9.size
  refine wl_step0 (or_storeBlk (vs := [(.int .i64 5), (.int .i64 0), (.slice none 0 0), (.int .u64 0), (.int .i64 0), (.slice none 0 0)]) sz28 rfl rfl (by simp [Value.oneCell']) hb_g8 rfl) rfl rfl ?_
  rintro _ w7 ⟨hN7, hg7⟩
  have hz_hg7 := hg7.size
  replace hE := hE.gr hg7 (fun _ e => by cases e; omega)
  replace ho39 := Own.gr ho39 hg7 (by first | exact .inl rfl | (right; intro e; first | (have := hq_ho39 _ e; omega) | (have := Own.lt ho39 e; omega) | exact own_blk_ne ho39 hb_g8 (by decide) e))
  replace hb_g41 := hb_g41.gr hg7 (by intro e; cases e; omega)
  replace hb_g7 := hb_g7.gr hg7 (by intro e; cases e; omega)
  replace hb_g9 := hb_g9.gr hg7 (by intro e; cases e; omega)
  replace hb_g8 := hN7
  refine wl_step0 (or_storeBlk (vs := [(.int .i64 15), (.int .i64 0), (.slice none 0 0), (.int .u64 0), (.int .i64 0), (.slice none 0 0)]) sz28 rfl rfl (by simp [Value.oneCell']) hb_g9 rfl) rfl rfl ?_
  rintro _ w8 ⟨hN8, hg8⟩
  have hz_hg8 := hg8.size
  replace hE := hE.gr hg8 (fun _ e => by cases e; omega)
  replace ho39 := Own.gr ho39 hg8 (by first | exact .inl rfl | (right; intro e; first | (have := hq_ho39 _ e; omega) | (have := Own.lt ho39 e; omega) | exact own_blk_ne ho39 hb_g9 (by decide) e))
  replace hb_g41 := hb_g41.gr hg8 (by intro e; cases e; omega)
  replace hb_g7 := hb_g7.gr hg8 (by intro e; cases e; omega)
  replace hb_g8 := hb_g8.gr hg8 (by intro e; cases e; omega)
  replace hb_g9 := hN8
  refine q_nil (k_then (wc_seq (wc_seq (wc_regionL ?_))))
  refine va rfl rfl ?_
  refine q_nil (k_then (wc_block ?_))
  obtain ⟨B0, hB0⟩ : ∃ n, n = w8.heap.size := ⟨_, rfl⟩
  have hB7 : g7 < B0 ∧ g8 < B0 ∧ g9 < B0 ∧ g41 < B0 := by have a := hb_g7.lt; have b := hb_g8.lt; have c := hb_g9.lt; have d := hb_g41.lt; omega
  have hBw : w.heap.size ≤ B0 := by have := hE.size; omega
  have hBd : g7 ≠ g8 ∧ g7 ≠ g9 ∧ g8 ≠ g9 ∧ w.heap.size ≤ g7 ∧ w.heap.size ≤ g8 ∧ w.heap.size ≤ g9 := by omega
  obtain ⟨hd78, hd79, hd89, hd7, hd8, hd9⟩ := hBd
  refine wc_loop (σ := Nat × Option Addr × Nat) (fun s => np - s.1) (fun s => [(1, .int .i64 parts), (2, .int .i64 great), (7, .pointer (some ⟨g7, 0, none⟩)), (8, .pointer (some ⟨g8, 0, none⟩)), (9, .pointer (some ⟨g9, 0, none⟩)), (10, .int .i64 (s.1 : Int))]) (fun s w' => s.1 ≤ np ∧ Blk w' g7 28 [(.int .i64 4), (.int .i64 0), (.slice (some ⟨g41, 0, none⟩) 1 1), (.int .u64 0), (.int .i64 0), (.slice none 0 0)] ∧ Blk w' g8 28 [.int .i64 5, .int .i64 0, .slice s.2.1 s.1 s.2.2, .int .u64 0, .int .i64 0, .slice none 0 0] ∧ Blk w' g9 28 [(.int .i64 15), (.int .i64 0), (.slice none 0 0), (.int .u64 0), (.int .i64 0), (.slice none 0 0)] ∧ Blk w' g41 53 [.int .i64 2, .slice A39 (List.replicate nv (0 : UInt8)).length c39, .int .u64 18446744073709551615, .int .u64 18446744073709551615] ∧ OwnB w' w.heap.size 5 A39 c39 (List.replicate nv (0 : UInt8)) ∧ Own w' B0 53 4 s.2.1 s.1 s.2.2 (((List.range s.1).map miT).flatMap itc) ∧ B0 ≤ w'.heap.size ∧ Ext w w') ((0, none, 0)) (⟨Nat.zero_le _, hb_g7, hb_g8, hb_g9, hb_g41, ho39, Own.nil_ _ _ _ _, by omega, hE⟩) (⟨rfl, rfl, rfl, rfl, rfl, rfl, trivial⟩) ?_
  rintro ⟨i, X, cx⟩ wq ⟨hi0, hb_g7, hb_g8, hb_g9, hb_g41, ho39, hoX, hBx, hE⟩
  show WC _ _ _ _ [(1, (.int .i64 parts)), (2, (.int .i64 great)), (7, (.pointer (some ⟨g7, 0, none⟩))), (8, (.pointer (some ⟨g8, 0, none⟩))), (9, (.pointer (some ⟨g9, 0, none⟩))), (10, (.int .i64 (↑i : Int)))] _
  simp only at hi0
  replace hb_g8 : Blk wq g8 28 [.int .i64 5, .int .i64 0, .slice X i cx, .int .u64 0, .int .i64 0, .slice none 0 0] := hb_g8
  replace hoX : Own wq B0 53 4 X i cx (((List.range i).map miT).flatMap itc) := hoX
  have hz_E := hE.size
  have hzb7 := hb_g7.lt
  have hzb8 := hb_g8.lt
  have hzb9 := hb_g9.lt
  have hzb41 := hb_g41.lt
  have hq_ho39 := fun g e => Own.lt ho39 (g := g) e
  have hq_hoX := fun g e => Own.lt hoX (g := g) e
  refine wc_seq (wc_seq (wc_regionL ?_))
  iterate 2 refine vm rfl rfl ?_
  refine wl_val (ov_add rfl rfl (wi64 (by omega) (by omega))) rfl rfl rfl ?_
  refine wl_spell (d := 47) rfl (v' := (.int .i64 (↑np : Int))) (by rw [hnp]) ?_
  refine wl_val (ov_lss rfl rfl) rfl rfl rfl ?_
  refine q_nil (k_then ?_)
  refine wc_cond_d rfl (fun hc2 => ?_) (fun hc2 => ?_)
  · refine q_skip (k_then (wc_seq (wc_block (wc_regionL ?_))))
    refine wl_val (ov_field0 (off := 2) fo28_2 rfl) rfl rfl rfl ?_
    refine wl_val (ov_loadAt oc24 rfl hb_g8 rfl) rfl rfl rfl ?_
    refine vm rfl rfl ?_
    refine wl_val (ov_conv Try.underlying3 Try.underlying25 rfl (wu64 (by omega) (by omega))) rfl rfl rfl ?_
    refine wl_val (ov_build (cs := [(.int .i64 1), (.slice none 0 0), (.int .u64 (↑i : Int)), (.int .u64 0)]) ze53 pl53 rfl rfl) rfl rfl rfl ?_
    refine wl_step (or_buildSliceF (cs := [.int .i64 1, .slice none 0 0, .int .u64 (↑i : Int), .int .u64 0]) sl24 rfl (by kernel_rfl) (by decide) (by decide)) rfl rfl rfl ?_
    rintro v w9 ⟨g56, rfl, hb_g56, he56, hl56, hu56⟩
    replace hb_g7 := hb_g7.ext he56
    replace hb_g8 := hb_g8.ext he56
    replace hb_g9 := hb_g9.ext he56
    replace hb_g41 := hb_g41.ext he56
    replace ho39 := Own.ext ho39 he56
    replace hoX := Own.ext hoX he56
    replace hE := hE.tr he56
    have hz_he56 := he56.size
    refine wl_step (or_append sl24 rfl hoX rfl (Blk.rdF hb_g56 rfl (by decide)) (by simp [Value.oneCell']) (by omega) (by simp only [maxLen]; omega) (by omega)) rfl rfl rfl ?_
    rintro v w10 ⟨A57, c57, rfl, ho57, hg57, ha57⟩
    have hq57 := hq_hoX
    have hz_hg57 := hg57.size
    replace hb_g7 := hb_g7.gr hg57 (by first | (intro e; have := hq57 _ e; omega) | exact own_blk_ne hoX hb_g7 (by decide))
    replace hb_g8 := hb_g8.gr hg57 (by first | (intro e; have := hq57 _ e; omega) | exact own_blk_ne hoX hb_g8 (by decide))
    replace hb_g9 := hb_g9.gr hg57 (by first | (intro e; have := hq57 _ e; omega) | exact own_blk_ne hoX hb_g9 (by decide))
    replace hb_g41 := hb_g41.gr hg57 (by first | (intro e; have := hq57 _ e; omega) | exact own_blk_ne hoX hb_g41 (by decide))
    replace ho39 := Own.gr ho39 hg57 (by first | exact own_apart fun g e g2 e2 => by have := hq_ho39 g e; have := hq57 g2 e2; omega | exact own_own_ne ho39 hoX (by decide))
    replace hE := hE.gr hg57 (fun g e => by have := hq57 g e; omega)
    have hq_ho57 := fun g e => Own.lt ho57 (g := g) e
    refine wl_val (ov_field0 (off := 2) fo28_2 rfl) rfl rfl rfl ?_
    refine wl_step0 (or_storeAt (cs' := [(.int .i64 5), (.int .i64 0), (.slice A57 (i + 1) c57), (.int .u64 0), (.int .i64 0), (.slice none 0 0)]) sz24 rfl rfl rfl hb_g8 rfl rfl) rfl rfl ?_
    rintro _ w11 ⟨hN11, hg11⟩
    have hz_hg11 := hg11.size
    replace hb_g7 := hb_g7.gr hg11 (by intro e; cases e; omega)
    replace hb_g9 := hb_g9.gr hg11 (by intro e; cases e; omega)
    replace hb_g41 := hb_g41.gr hg11 (by intro e; cases e; omega)
    replace ho39 := Own.gr ho39 hg11 (by first | exact .inl rfl | (right; intro e; first | (have := hq_ho39 _ e; omega) | (have := Own.lt ho39 e; omega) | exact own_blk_ne ho39 hb_g8 (by decide) e))
    replace hE := hE.gr hg11 (fun _ e => by cases e; omega)
    replace ho57 := Own.gr ho57 hg11 (by first | exact .inl rfl | (right; intro e; first | (have := hq_ho57 _ e; omega) | (have := Own.lt ho57 e; omega) | exact own_blk_ne ho57 hb_g8 (by decide) e))
    replace hb_g8 := hN11
    refine q_nil (k_block (k_then (wc_regionL ?_)))
    refine vm rfl rfl ?_
    refine wl_val (ov_add rfl rfl (wi64 (by omega) (by omega))) rfl rfl rfl ?_
    refine va rfl rfl ?_
    refine q_nil ?_
    have hon : Own w11 B0 53 4 A57 (i + 1) c57 (((List.range (i + 1)).map miT).flatMap itc) := by rw [miT_succ]; exact ho57
    refine k_loop ((i + 1, A57, c57)) (by show np - (i + 1) < np - i; omega) (⟨rfl, rfl, rfl, rfl, rfl, rfl, trivial⟩) (⟨by show i + 1 ≤ _; omega, hb_g7, hb_g8, hb_g9, hb_g41, ho39, hon, by omega, hE⟩)
  · have hin : np = i := by omega
    subst hin
    refine q_exit (k_thenX (k_thenX (k_blockE (k_then (wc_seq (wc_seq (wc_regionL ?_)))))))
    refine va rfl rfl ?_
    refine q_nil (k_then (wc_block ?_))
    refine wc_loop (σ := Nat × Option Addr × Nat) (fun s => nn - s.1) (fun s => [(1, .int .i64 parts), (2, .int .i64 great), (7, .pointer (some ⟨g7, 0, none⟩)), (8, .pointer (some ⟨g8, 0, none⟩)), (9, .pointer (some ⟨g9, 0, none⟩)), (11, .int .i64 (s.1 : Int))]) (fun s w' => s.1 ≤ nn ∧ Blk w' g7 28 [(.int .i64 4), (.int .i64 0), (.slice (some ⟨g41, 0, none⟩) 1 1), (.int .u64 0), (.int .i64 0), (.slice none 0 0)] ∧ Blk w' g8 28 [.int .i64 5, .int .i64 0, .slice X np cx, .int .u64 0, .int .i64 0, .slice none 0 0] ∧ Blk w' g9 28 [.int .i64 15, .int .i64 0, .slice none 0 0, .int .u64 0, .int .i64 0, .slice s.2.1 s.1 s.2.2] ∧ Blk w' g41 53 [.int .i64 2, .slice A39 (List.replicate nv (0 : UInt8)).length c39, .int .u64 18446744073709551615, .int .u64 18446744073709551615] ∧ OwnB w' w.heap.size 5 A39 c39 (List.replicate nv (0 : UInt8)) ∧ Own w' B0 53 4 X np cx (((List.range np).map miT).flatMap itc) ∧ Own w' B0 25 1 s.2.1 s.1 s.2.2 ((List.replicate s.1 18446744073709551615).flatMap nuc) ∧ B0 ≤ w'.heap.size ∧ Ext w w') ((0, none, 0)) (⟨Nat.zero_le _, hb_g7, hb_g8, hb_g9, hb_g41, ho39, hoX, Own.nil_ _ _ _ _, by omega, hE⟩) (⟨rfl, rfl, rfl, rfl, rfl, rfl, trivial⟩) ?_
    rintro ⟨i, N, cn⟩ wn ⟨hi0, hb_g7, hb_g8, hb_g9, hb_g41, ho39, hoX, hoN, hBx, hE⟩
    show WC _ _ _ _ [(1, (.int .i64 parts)), (2, (.int .i64 great)), (7, (.pointer (some ⟨g7, 0, none⟩))), (8, (.pointer (some ⟨g8, 0, none⟩))), (9, (.pointer (some ⟨g9, 0, none⟩))), (11, (.int .i64 (↑i : Int)))] _
    simp only at hi0
    replace hb_g9 : Blk wn g9 28 [.int .i64 15, .int .i64 0, .slice none 0 0, .int .u64 0, .int .i64 0, .slice N i cn] := hb_g9
    replace hoN : Own wn B0 25 1 N i cn ((List.replicate i 18446744073709551615).flatMap nuc) := hoN
    have hz_E := hE.size
    have hzb7 := hb_g7.lt
    have hzb8 := hb_g8.lt
    have hzb9 := hb_g9.lt
    have hzb41 := hb_g41.lt
    have hq_ho39 := fun g e => Own.lt ho39 (g := g) e
    have hq_hoX := fun g e => Own.lt hoX (g := g) e
    have hq_hoN := fun g e => Own.lt hoN (g := g) e
    refine wc_seq (wc_seq (wc_regionL ?_))
    iterate 2 refine vm rfl rfl ?_
    refine wl_val (ov_add rfl rfl (wi64 (by omega) (by omega))) rfl rfl rfl ?_
    refine wl_spell (d := 61) rfl (v' := (.int .i64 (↑nn : Int))) (by rw [hnn]) ?_
    refine wl_val (ov_lss rfl rfl) rfl rfl rfl ?_
    refine q_nil (k_then ?_)
    refine wc_cond_d rfl (fun hc3 => ?_) (fun hc3 => ?_)
    · refine q_skip (k_then (wc_seq (wc_block (wc_regionL ?_))))
      refine wl_val (ov_field0 (off := 5) fo28_5 rfl) rfl rfl rfl ?_
      refine wl_val (ov_loadAt oc26 rfl hb_g9 rfl) rfl rfl rfl ?_
      refine wl_step (or_buildSlice1 (os := [.const (.int .u64 18446744073709551615)]) sl26 rfl rfl rfl (by simp [Value.oneCell']) (by decide)) rfl rfl rfl ?_
      rintro v w209 ⟨g67, rfl, hb_g67, he67, hl67, hu67, _⟩
      replace hb_g7 := hb_g7.ext he67
      replace hb_g8 := hb_g8.ext he67
      replace hb_g9 := hb_g9.ext he67
      replace hb_g41 := hb_g41.ext he67
      replace ho39 := Own.ext ho39 he67
      replace hoX := Own.ext hoX he67
      replace hoN := Own.ext hoN he67
      replace hE := hE.tr he67
      have hz_he67 := he67.size
      refine wl_step (or_append sl26 rfl hoN rfl (Blk.rd1 hb_g67) (by simp [Value.oneCell']) (by omega) (by simp only [maxLen]; omega) (by omega)) rfl rfl rfl ?_
      rintro v w210 ⟨A68, c68, rfl, ho68, hg68, ha68⟩
      have hq68 := hq_hoN
      have hz_hg68 := hg68.size
      replace hb_g7 := hb_g7.gr hg68 (by first | (intro e; have := hq68 _ e; omega) | exact own_blk_ne hoN hb_g7 (by decide))
      replace hb_g8 := hb_g8.gr hg68 (by first | (intro e; have := hq68 _ e; omega) | exact own_blk_ne hoN hb_g8 (by decide))
      replace hb_g9 := hb_g9.gr hg68 (by first | (intro e; have := hq68 _ e; omega) | exact own_blk_ne hoN hb_g9 (by decide))
      replace hb_g41 := hb_g41.gr hg68 (by first | (intro e; have := hq68 _ e; omega) | exact own_blk_ne hoN hb_g41 (by decide))
      replace ho39 := Own.gr ho39 hg68 (by first | exact own_apart fun g e g2 e2 => by have := hq_ho39 g e; have := hq68 g2 e2; omega | exact own_own_ne ho39 hoN (by decide))
      replace hoX := Own.gr hoX hg68 (by first | exact own_apart fun g e g2 e2 => by have := hq_hoX g e; have := hq68 g2 e2; omega | exact own_own_ne hoX hoN (by decide))
      replace hE := hE.gr hg68 (fun g e => by have := hq68 g e; omega)
      have hq_ho68 := fun g e => Own.lt ho68 (g := g) e
      refine wl_val (ov_field0 (off := 5) fo28_5 rfl) rfl rfl rfl ?_
      refine wl_step0 (or_storeAt (cs' := [(.int .i64 15), (.int .i64 0), (.slice none 0 0), (.int .u64 0), (.int .i64 0), (.slice A68 (i + 1) c68)]) sz26 rfl rfl rfl hb_g9 rfl rfl) rfl rfl ?_
      rintro _ w211 ⟨hN211, hg211⟩
      have hz_hg211 := hg211.size
      replace hb_g7 := hb_g7.gr hg211 (by intro e; cases e; omega)
      replace hb_g8 := hb_g8.gr hg211 (by intro e; cases e; omega)
      replace hb_g41 := hb_g41.gr hg211 (by intro e; cases e; omega)
      replace ho39 := Own.gr ho39 hg211 (by first | exact .inl rfl | (right; intro e; first | (have := hq_ho39 _ e; omega) | (have := Own.lt ho39 e; omega) | exact own_blk_ne ho39 hb_g9 (by decide) e))
      replace hoX := Own.gr hoX hg211 (by first | exact .inl rfl | (right; intro e; first | (have := hq_hoX _ e; omega) | (have := Own.lt hoX e; omega) | exact own_blk_ne hoX hb_g9 (by decide) e))
      replace hE := hE.gr hg211 (fun _ e => by cases e; omega)
      replace ho68 := Own.gr ho68 hg211 (by first | exact .inl rfl | (right; intro e; first | (have := hq_ho68 _ e; omega) | (have := Own.lt ho68 e; omega) | exact own_blk_ne ho68 hb_g9 (by decide) e))
      replace hb_g9 := hN211
      refine q_nil (k_block (k_then (wc_regionL ?_)))
      refine vm rfl rfl ?_
      refine wl_val (ov_add rfl rfl (wi64 (by omega) (by omega))) rfl rfl rfl ?_
      refine va rfl rfl ?_
      refine q_nil ?_
      have hon : Own w211 B0 25 1 A68 (i + 1) c68 ((List.replicate (i + 1) 18446744073709551615).flatMap nuc) := by rw [rep_nuc]; exact ho68
      refine k_loop ((i + 1, A68, c68)) (by show nn - (i + 1) < nn - i; omega) (⟨rfl, rfl, rfl, rfl, rfl, rfl, trivial⟩) (⟨by show i + 1 ≤ _; omega, hb_g7, hb_g8, hb_g9, hb_g41, ho39, hoX, hon, by omega, hE⟩)
    · have hin : nn = i := by omega
      subst hin
      refine q_exit (k_thenX (k_thenX (k_blockE (k_then (wc_seq (wc_seq ?_))))))
      refine wc_draw mixed 18 [(70, eqv (.agg #[(.int .i64 4), (.int .i64 0), (.slice (some ⟨g41, 0, none⟩) 1 1), (.int .u64 0), (.int .i64 0), (.slice none 0 0)])), (71, eqv (.agg #[(.int .i64 5), (.int .i64 0), (.slice X np cx), (.int .u64 0), (.int .i64 0), (.slice none 0 0)])), (72, eqv (.agg #[(.int .i64 15), (.int .i64 0), (.slice none 0 0), (.int .u64 0), (.int .i64 0), (.slice N nn cn)])), (73, eqv (.int .i64 great)), (74, eqv (.int .i64 (1099511627776 + great))), (75, eqv (.agg #[(.int .i64 7), (.int .i64 0), (.slice none 0 0), (.int .u64 0), (.int .i64 (1099511627776 + great)), (.slice none 0 0)])), (76, eqv (.int .i64 great)), (77, eqv (.int .i64 (1099511627776 + great))), (78, eqv (.agg #[(.int .i64 2), (.int .i64 0), (.slice none 0 0), (.int .u64 18446744073709551615), (.int .i64 (1099511627776 + great)), (.slice none 0 0)])), (79, eqv (.int .i64 great)), (80, eqv (.int .i64 (100000 + great))), (81, eqv (.agg #[(.int .i64 0), (.int .i64 (100000 + great)), (.slice none 0 0), (.int .u64 0), (.int .i64 0), (.slice none 0 0)])), (82, eqv (.int .i64 great)), (83, eqv (.int .i64 (100000 + great))), (84, eqv (.agg #[(.int .i64 15), (.int .i64 (100000 + great)), (.slice none 0 0), (.int .u64 0), (.int .i64 0), (.slice none 0 0)])), (85, (fun v wz => ∃ g, v = .slice (some ⟨g, 0, none⟩) 7 7 ∧ Blk wz g 28 [(.int .i64 4), (.int .i64 0), (.slice (some ⟨g41, 0, none⟩) 1 1), (.int .u64 0), (.int .i64 0), (.slice none 0 0), (.int .i64 5), (.int .i64 0), (.slice X np cx), (.int .u64 0), (.int .i64 0), (.slice none 0 0), (.int .i64 15), (.int .i64 0), (.slice none 0 0), (.int .u64 0), (.int .i64 0), (.slice N nn cn), (.int .i64 7), (.int .i64 0), (.slice none 0 0), (.int .u64 0), (.int .i64 (1099511627776 + great)), (.slice none 0 0), (.int .i64 2), (.int .i64 0), (.slice none 0 0), (.int .u64 18446744073709551615), (.int .i64 (1099511627776 + great)), (.slice none 0 0), (.int .i64 0), (.int .i64 (100000 + great)), (.slice none 0 0), (.int .u64 0), (.int .i64 0), (.slice none 0 0), (.int .i64 15), (.int .i64 (100000 + great)), (.slice none 0 0), (.int .u64 0), (.int .i64 0), (.slice none 0 0)])), (86, eqv (.int .i64 (↑7 : Int))), (87, eqv (.int .i64 0))] [[], [], [], [], [3], [4], [], [6], [7], [], [9], [10], [], [12], [13], [0, 1, 2, 5, 8, 11, 14], [15], []] _ [] [] (fun _ _ h => h) trivial (by kernel_rfl) rfl ⟨⟨stb_eqv _, fun _ he => by cases he⟩, ⟨stb_eqv _, fun _ he => by cases he⟩, ⟨stb_eqv _, fun _ he => by cases he⟩, ⟨stb_eqv _, fun _ he => by cases he⟩, ⟨stb_eqv _, fun _ he => by cases he⟩, ⟨stb_eqv _, fun _ he => by cases he⟩, ⟨stb_eqv _, fun _ he => by cases he⟩, ⟨stb_eqv _, fun _ he => by cases he⟩, ⟨stb_eqv _, fun _ he => by cases he⟩, ⟨stb_eqv _, fun _ he => by cases he⟩, ⟨stb_eqv _, fun _ he => by cases he⟩, ⟨stb_eqv _, fun _ he => by cases he⟩, ⟨stb_eqv _, fun _ he => by cases he⟩, ⟨stb_eqv _, fun _ he => by cases he⟩, ⟨stb_eqv _, fun _ he => by cases he⟩, ⟨(by intro v w1 w2 ⟨g, hv, hb⟩ he; exact ⟨g, hv, hb.ext he⟩), fun _ he => by cases he⟩, ⟨stb_eqv _, fun _ he => by cases he⟩, ⟨stb_eqv _, fun _ he => by cases he⟩, trivial⟩ ⟨?_, ?_, ?_, ?_, ?_, ?_, ?_, ?_, ?_, ?_, ?_, ?_, ?_, ?_, ?_, ?_, ?_, ?_, trivial⟩ ?_
      · intro wd hxE
        replace hb_g7 := hb_g7.ext hxE
        replace hb_g8 := hb_g8.ext hxE
        replace hb_g9 := hb_g9.ext hxE
        replace hb_g41 := hb_g41.ext hxE
        replace ho39 := Own.ext ho39 hxE
        replace hoX := Own.ext hoX hxE
        replace hoN := Own.ext hoN hxE
        replace hE := hE.tr hxE
        have hz_hxE := hxE.size
        show OpG _ _ _ _ _ _
        exact og_plain rfl (ox_val (ov_loadBlk (cs := [(.int .i64 4), (.int .i64 0), (.slice (some ⟨g41, 0, none⟩) 1 1), (.int .u64 0), (.int .i64 0), (.slice none 0 0)]) ag28_6 rfl hb_g7))
      · intro wd hxE
        replace hb_g7 := hb_g7.ext hxE
        replace hb_g8 := hb_g8.ext hxE
        replace hb_g9 := hb_g9.ext hxE
        replace hb_g41 := hb_g41.ext hxE
        replace ho39 := Own.ext ho39 hxE
        replace hoX := Own.ext hoX hxE
        replace hoN := Own.ext hoN hxE
        replace hE := hE.tr hxE
        have hz_hxE := hxE.size
        show OpG _ _ _ _ _ _
        exact og_plain rfl (ox_val (ov_loadBlk (cs := [(.int .i64 5), (.int .i64 0), (.slice X np cx), (.int .u64 0), (.int .i64 0), (.slice none 0 0)]) ag28_6 rfl hb_g8))
      · intro wd hxE
        replace hb_g7 := hb_g7.ext hxE
        replace hb_g8 := hb_g8.ext hxE
        replace hb_g9 := hb_g9.ext hxE
        replace hb_g41 := hb_g41.ext hxE
        replace ho39 := Own.ext ho39 hxE
        replace hoX := Own.ext hoX hxE
        replace hoN := Own.ext hoN hxE
        replace hE := hE.tr hxE
        have hz_hxE := hxE.size
        show OpG _ _ _ _ _ _
        exact og_plain rfl (ox_val (ov_loadBlk (cs := [(.int .i64 15), (.int .i64 0), (.slice none 0 0), (.int .u64 0), (.int .i64 0), (.slice N nn cn)]) ag28_6 rfl hb_g9))
      · intro wd hxE
        replace hb_g7 := hb_g7.ext hxE
        replace hb_g8 := hb_g8.ext hxE
        replace hb_g9 := hb_g9.ext hxE
        replace hb_g41 := hb_g41.ext hxE
        replace ho39 := Own.ext ho39 hxE
        replace hoX := Own.ext hoX hxE
        replace hoN := Own.ext hoN hxE
        replace hE := hE.tr hxE
        have hz_hxE := hxE.size
        show OpG _ _ _ _ _ _
        exact og_plain rfl (ox_val (ov_move rfl))
      · intro wd hxE
        replace hb_g7 := hb_g7.ext hxE
        replace hb_g8 := hb_g8.ext hxE
        replace hb_g9 := hb_g9.ext hxE
        replace hb_g41 := hb_g41.ext hxE
        replace ho39 := Own.ext ho39 hxE
        replace hoX := Own.ext hoX hxE
        replace hoN := Own.ext hoN hxE
        replace hE := hE.tr hxE
        have hz_hxE := hxE.size
        rintro _ rfl
        show OpG _ _ _ _ _ _
        exact og_plain rfl (ox_val (ov_add rfl rfl (wi64 (by omega) (by omega))))
      · intro wd hxE
        replace hb_g7 := hb_g7.ext hxE
        replace hb_g8 := hb_g8.ext hxE
        replace hb_g9 := hb_g9.ext hxE
        replace hb_g41 := hb_g41.ext hxE
        replace ho39 := Own.ext ho39 hxE
        replace hoX := Own.ext hoX hxE
        replace hoN := Own.ext hoN hxE
        replace hE := hE.tr hxE
        have hz_hxE := hxE.size
        rintro _ rfl
        show OpG _ _ _ _ _ _
        exact og_plain rfl (ox_val (ov_build (cs := [(.int .i64 7), (.int .i64 0), (.slice none 0 0), (.int .u64 0), (.int .i64 (1099511627776 + great)), (.slice none 0 0)]) ze28 pl28 rfl rfl))
      · intro wd hxE
        replace hb_g7 := hb_g7.ext hxE
        replace hb_g8 := hb_g8.ext hxE
        replace hb_g9 := hb_g9.ext hxE
        replace hb_g41 := hb_g41.ext hxE
        replace ho39 := Own.ext ho39 hxE
        replace hoX := Own.ext hoX hxE
        replace hoN := Own.ext hoN hxE
        replace hE := hE.tr hxE
        have hz_hxE := hxE.size
        show OpG _ _ _ _ _ _
        exact og_plain rfl (ox_val (ov_move rfl))
      · intro wd hxE
        replace hb_g7 := hb_g7.ext hxE
        replace hb_g8 := hb_g8.ext hxE
        replace hb_g9 := hb_g9.ext hxE
        replace hb_g41 := hb_g41.ext hxE
        replace ho39 := Own.ext ho39 hxE
        replace hoX := Own.ext hoX hxE
        replace hoN := Own.ext hoN hxE
        replace hE := hE.tr hxE
        have hz_hxE := hxE.size
        rintro _ rfl
        show OpG _ _ _ _ _ _
        exact og_plain rfl (ox_val (ov_add rfl rfl (wi64 (by omega) (by omega))))
      · intro wd hxE
        replace hb_g7 := hb_g7.ext hxE
        replace hb_g8 := hb_g8.ext hxE
        replace hb_g9 := hb_g9.ext hxE
        replace hb_g41 := hb_g41.ext hxE
        replace ho39 := Own.ext ho39 hxE
        replace hoX := Own.ext hoX hxE
        replace hoN := Own.ext hoN hxE
        replace hE := hE.tr hxE
        have hz_hxE := hxE.size
        rintro _ rfl
        show OpG _ _ _ _ _ _
        exact og_plain rfl (ox_val (ov_build (cs := [(.int .i64 2), (.int .i64 0), (.slice none 0 0), (.int .u64 18446744073709551615), (.int .i64 (1099511627776 + great)), (.slice none 0 0)]) ze28 pl28 rfl rfl))
      · intro wd hxE
        replace hb_g7 := hb_g7.ext hxE
        replace hb_g8 := hb_g8.ext hxE
        replace hb_g9 := hb_g9.ext hxE
        replace hb_g41 := hb_g41.ext hxE
        replace ho39 := Own.ext ho39 hxE
        replace hoX := Own.ext hoX hxE
        replace hoN := Own.ext hoN hxE
        replace hE := hE.tr hxE
        have hz_hxE := hxE.size
        show OpG _ _ _ _ _ _
        exact og_plain rfl (ox_val (ov_move rfl))
      · intro wd hxE
        replace hb_g7 := hb_g7.ext hxE
        replace hb_g8 := hb_g8.ext hxE
        replace hb_g9 := hb_g9.ext hxE
        replace hb_g41 := hb_g41.ext hxE
        replace ho39 := Own.ext ho39 hxE
        replace hoX := Own.ext hoX hxE
        replace hoN := Own.ext hoN hxE
        replace hE := hE.tr hxE
        have hz_hxE := hxE.size
        rintro _ rfl
        show OpG _ _ _ _ _ _
        exact og_plain rfl (ox_val (ov_add rfl rfl (wi64 (by omega) (by omega))))
      · intro wd hxE
        replace hb_g7 := hb_g7.ext hxE
        replace hb_g8 := hb_g8.ext hxE
        replace hb_g9 := hb_g9.ext hxE
        replace hb_g41 := hb_g41.ext hxE
        replace ho39 := Own.ext ho39 hxE
        replace hoX := Own.ext hoX hxE
        replace hoN := Own.ext hoN hxE
        replace hE := hE.tr hxE
        have hz_hxE := hxE.size
        rintro _ rfl
        show OpG _ _ _ _ _ _
        refine og_plain rfl (OpRun.mono (or_call0 cl23 rfl rfl (fail8_any _ _ _)) ?_)
        rintro v w209 ⟨rfl, he81⟩
        replace hb_g7 := hb_g7.ext he81
        replace hb_g8 := hb_g8.ext he81
        replace hb_g9 := hb_g9.ext he81
        replace hb_g41 := hb_g41.ext he81
        replace ho39 := Own.ext ho39 he81
        replace hoX := Own.ext hoX he81
        replace hoN := Own.ext hoN he81
        replace hE := hE.tr he81
        have hz_he81 := he81.size
        exact ⟨rfl, he81⟩
      · intro wd hxE
        replace hb_g7 := hb_g7.ext hxE
        replace hb_g8 := hb_g8.ext hxE
        replace hb_g9 := hb_g9.ext hxE
        replace hb_g41 := hb_g41.ext hxE
        replace ho39 := Own.ext ho39 hxE
        replace hoX := Own.ext hoX hxE
        replace hoN := Own.ext hoN hxE
        replace hE := hE.tr hxE
        have hz_hxE := hxE.size
        show OpG _ _ _ _ _ _
        exact og_plain rfl (ox_val (ov_move rfl))
      · intro wd hxE
        replace hb_g7 := hb_g7.ext hxE
        replace hb_g8 := hb_g8.ext hxE
        replace hb_g9 := hb_g9.ext hxE
        replace hb_g41 := hb_g41.ext hxE
        replace ho39 := Own.ext ho39 hxE
        replace hoX := Own.ext hoX hxE
        replace hoN := Own.ext hoN hxE
        replace hE := hE.tr hxE
        have hz_hxE := hxE.size
        rintro _ rfl
        show OpG _ _ _ _ _ _
        exact og_plain rfl (ox_val (ov_add rfl rfl (wi64 (by omega) (by omega))))
      · intro wd hxE
        replace hb_g7 := hb_g7.ext hxE
        replace hb_g8 := hb_g8.ext hxE
        replace hb_g9 := hb_g9.ext hxE
        replace hb_g41 := hb_g41.ext hxE
        replace ho39 := Own.ext ho39 hxE
        replace hoX := Own.ext hoX hxE
        replace hoN := Own.ext hoN hxE
        replace hE := hE.tr hxE
        have hz_hxE := hxE.size
        rintro _ rfl
        show OpG _ _ _ _ _ _
        refine og_plain rfl (OpRun.mono (or_call0 cl23 rfl rfl (fail8_any _ _ _)) ?_)
        rintro v w209 ⟨rfl, he84⟩
        replace hb_g7 := hb_g7.ext he84
        replace hb_g8 := hb_g8.ext he84
        replace hb_g9 := hb_g9.ext he84
        replace hb_g41 := hb_g41.ext he84
        replace ho39 := Own.ext ho39 he84
        replace hoX := Own.ext hoX he84
        replace hoN := Own.ext hoN he84
        replace hE := hE.tr he84
        have hz_he84 := he84.size
        exact ⟨rfl, he84⟩
      · intro wd hxE
        replace hb_g7 := hb_g7.ext hxE
        replace hb_g8 := hb_g8.ext hxE
        replace hb_g9 := hb_g9.ext hxE
        replace hb_g41 := hb_g41.ext hxE
        replace ho39 := Own.ext ho39 hxE
        replace hoX := Own.ext hoX hxE
        replace hoN := Own.ext hoN hxE
        replace hE := hE.tr hxE
        have hz_hxE := hxE.size
        rintro _ rfl
        rintro _ rfl
        rintro _ rfl
        rintro _ rfl
        rintro _ rfl
        rintro _ rfl
        rintro _ rfl
        show OpG _ _ _ _ _ _
        refine og_plain rfl (OpRun.mono (or_buildSliceF (cs := [(.int .i64 4), (.int .i64 0), (.slice (some ⟨g41, 0, none⟩) 1 1), (.int .u64 0), (.int .i64 0), (.slice none 0 0), (.int .i64 5), (.int .i64 0), (.slice X np cx), (.int .u64 0), (.int .i64 0), (.slice none 0 0), (.int .i64 15), (.int .i64 0), (.slice none 0 0), (.int .u64 0), (.int .i64 0), (.slice N nn cn), (.int .i64 7), (.int .i64 0), (.slice none 0 0), (.int .u64 0), (.int .i64 (1099511627776 + great)), (.slice none 0 0), (.int .i64 2), (.int .i64 0), (.slice none 0 0), (.int .u64 18446744073709551615), (.int .i64 (1099511627776 + great)), (.slice none 0 0), (.int .i64 0), (.int .i64 (100000 + great)), (.slice none 0 0), (.int .u64 0), (.int .i64 0), (.slice none 0 0), (.int .i64 15), (.int .i64 (100000 + great)), (.slice none 0 0), (.int .u64 0), (.int .i64 0), (.slice none 0 0)]) sl54 rfl (by kernel_rfl) (by decide) (by decide)) ?_)
        rintro v w209 ⟨g85, rfl, hb_g85, he85, hl85, hu85⟩
        replace hb_g7 := hb_g7.ext he85
        replace hb_g8 := hb_g8.ext he85
        replace hb_g9 := hb_g9.ext he85
        replace hb_g41 := hb_g41.ext he85
        replace ho39 := Own.ext ho39 he85
        replace hoX := Own.ext hoX he85
        replace hoN := Own.ext hoN he85
        replace hE := hE.tr he85
        have hz_he85 := he85.size
        exact ⟨⟨g85, rfl, hb_g85⟩, he85⟩
      · intro wd hxE
        replace hb_g7 := hb_g7.ext hxE
        replace hb_g8 := hb_g8.ext hxE
        replace hb_g9 := hb_g9.ext hxE
        replace hb_g41 := hb_g41.ext hxE
        replace ho39 := Own.ext ho39 hxE
        replace hoX := Own.ext hoX hxE
        replace hoN := Own.ext hoN hxE
        replace hE := hE.tr hxE
        have hz_hxE := hxE.size
        rintro _ ⟨g85, rfl, hb_g85⟩
        show OpG _ _ _ _ _ _
        exact og_plain rfl (ox_val (ov_len Try.underlying54 rfl))
      · intro wd hxE
        replace hb_g7 := hb_g7.ext hxE
        replace hb_g8 := hb_g8.ext hxE
        replace hb_g9 := hb_g9.ext hxE
        replace hb_g41 := hb_g41.ext hxE
        replace ho39 := Own.ext ho39 hxE
        replace hoX := Own.ext hoX hxE
        replace hoN := Own.ext hoN hxE
        replace hE := hE.tr hxE
        have hz_hxE := hxE.size
        show OpG _ _ _ _ _ _
        exact og_plain rfl (ox_val (ov_move rfl))
      · intro wf13 hf13
        replace hb_g7 := hb_g7.ext hf13
        replace hb_g8 := hb_g8.ext hf13
        replace hb_g9 := hb_g9.ext hf13
        replace hb_g41 := hb_g41.ext hf13
        replace ho39 := Own.ext ho39 hf13
        replace hoX := Own.ext hoX hf13
        replace hoN := Own.ext hoN hf13
        replace hE := hE.tr hf13
        have hz_hf13 := hf13.size
        rintro _ rfl
        rintro _ rfl
        rintro _ rfl
        rintro _ rfl
        rintro _ rfl
        rintro _ rfl
        rintro _ rfl
        rintro _ rfl
        rintro _ rfl
        rintro _ rfl
        rintro _ rfl
        rintro _ rfl
        rintro _ rfl
        rintro _ rfl
        rintro _ rfl
        rintro _ ⟨g85, rfl, hb_g85⟩
        rintro _ rfl
        rintro _ rfl
        show WL _ _ _ [] _ _ _
        obtain ⟨B85, hB85⟩ : ∃ n, n = wf13.heap.size := ⟨_, rfl⟩
        have hnl : (List.replicate nn 18446744073709551615).length = nn := List.length_replicate
        have hil : ((List.range np).map miT).length = np := by rw [List.length_map, List.length_range]
        have hQ1 : RdI wf13 0 B85 (some ⟨g41, 0, none⟩) 1 [((⟨2, (List.replicate nv (0 : UInt8)), 18446744073709551615, 18446744073709551615⟩ : Itm), A39, c39)] := by rw [hB85]; exact rdI_blk hb_g41 rfl (by decide) (vr_one ((OwnB.rd ho39).mono (Nat.zero_le _) (Nat.le_refl _)))
        have hQ2 : RdI wf13 0 B85 X cx ((List.range np).map miT) := by
          rw [hB85]
          refine ⟨?_, fun y hy => ?_⟩
          · show Rd _ _ _ _ _ ((List.range np).map miT).length _ _; rw [hil]; exact (Own.rd hoX).mono (Nat.zero_le _) (Nat.le_refl _)
          · obtain ⟨z, hz, rfl⟩ := List.mem_map.1 hy; exact RdB.nil _ _ _
        have hQ3 : RdN wf13 0 B85 N cn (List.replicate nn 18446744073709551615) := by rw [hB85]; show Rd _ _ _ _ _ (List.replicate nn 18446744073709551615).length _ _; rw [hnl]; exact (Own.rd hoN).mono (Nat.zero_le _) (Nat.le_refl _)
        have hQ : LQ wf13 B85 [(rGet nv, [((⟨2, (List.replicate nv (0 : UInt8)), 18446744073709551615, 18446744073709551615⟩ : Itm), A39, c39)], some ⟨g41, 0, Option.none⟩, 1, Option.none, 0), (rMGet np, (List.range np).map miT, X, cx, Option.none, 0), (rStats nn, [], Option.none, 0, N, cn), (rDel (1099511627776 + great), [], Option.none, 0, Option.none, 0), (rAdd (1099511627776 + great), [], Option.none, 0, Option.none, 0), (rspO 0 (100000 + great), [], Option.none, 0, Option.none, 0), (rspO 15 (100000 + great), [], Option.none, 0, Option.none, 0)] := by
          intro x hx
          simp only [List.mem_cons, List.not_mem_nil, or_false] at hx
          rcases hx with rfl | rfl | rfl | rfl | rfl | rfl | rfl
          · exact ⟨rfl, hQ1, Rd.nil _ 0 _ _ _ _ (Nat.zero_le _)⟩
          · exact ⟨vals_miT np, hQ2, Rd.nil _ 0 _ _ _ _ (Nat.zero_le _)⟩
          · exact ⟨rfl, RdI.nil _ 0 _, hQ3⟩
          · exact ⟨rfl, RdI.nil _ 0 _, Rd.nil _ 0 _ _ _ _ (Nat.zero_le _)⟩
          · exact ⟨rfl, RdI.nil _ 0 _, Rd.nil _ 0 _ _ _ _ (Nat.zero_le _)⟩
          · exact ⟨rfl, RdI.nil _ 0 _, Rd.nil _ 0 _ _ _ _ (Nat.zero_le _)⟩
          · exact ⟨rfl, RdI.nil _ 0 _, Rd.nil _ 0 _ _ _ _ (Nat.zero_le _)⟩
        have ecs : List.flatMap ltc [(rGet nv, [((⟨2, (List.replicate nv (0 : UInt8)), 18446744073709551615, 18446744073709551615⟩ : Itm), A39, c39)], some ⟨g41, 0, Option.none⟩, 1, Option.none, 0), (rMGet np, (List.range np).map miT, X, cx, Option.none, 0), (rStats nn, [], Option.none, 0, N, cn), (rDel (1099511627776 + great), [], Option.none, 0, Option.none, 0), (rAdd (1099511627776 + great), [], Option.none, 0, Option.none, 0), (rspO 0 (100000 + great), [], Option.none, 0, Option.none, 0), (rspO 15 (100000 + great), [], Option.none, 0, Option.none, 0)] = [(.int .i64 4), (.int .i64 0), (.slice (some ⟨g41, 0, none⟩) 1 1), (.int .u64 0), (.int .i64 0), (.slice none 0 0), (.int .i64 5), (.int .i64 0), (.slice X np cx), (.int .u64 0), (.int .i64 0), (.slice none 0 0), (.int .i64 15), (.int .i64 0), (.slice none 0 0), (.int .u64 0), (.int .i64 0), (.slice N nn cn), (.int .i64 7), (.int .i64 0), (.slice none 0 0), (.int .u64 0), (.int .i64 (1099511627776 + great)), (.slice none 0 0), (.int .i64 2), (.int .i64 0), (.slice none 0 0), (.int .u64 18446744073709551615), (.int .i64 (1099511627776 + great)), (.slice none 0 0), (.int .i64 0), (.int .i64 (100000 + great)), (.slice none 0 0), (.int .u64 0), (.int .i64 0), (.slice none 0 0), (.int .i64 15), (.int .i64 (100000 + great)), (.slice none 0 0), (.int .u64 0), (.int .i64 0), (.slice none 0 0)] := by
          simp only [List.flatMap_cons, List.flatMap_nil, ltc, rspc, rGet, rMGet, rStats, rDel, rAdd, rspO, List.length_replicate, List.length_map, List.length_range]; rfl
        have hrX : RdR wf13 0 B85 6 ltc (some ⟨g85, 0, none⟩) 7 [(rGet nv, [((⟨2, (List.replicate nv (0 : UInt8)), 18446744073709551615, 18446744073709551615⟩ : Itm), A39, c39)], some ⟨g41, 0, Option.none⟩, 1, Option.none, 0), (rMGet np, (List.range np).map miT, X, cx, Option.none, 0), (rStats nn, [], Option.none, 0, N, cn), (rDel (1099511627776 + great), [], Option.none, 0, Option.none, 0), (rAdd (1099511627776 + great), [], Option.none, 0, Option.none, 0), (rspO 0 (100000 + great), [], Option.none, 0, Option.none, 0), (rspO 15 (100000 + great), [], Option.none, 0, Option.none, 0)] := by
          rw [hB85]; unfold RdR; rw [ecs]; exact Blk.rdF (n := 7) hb_g85 rfl (by decide)
        have hLX : ∀ x ∈ ([(rGet nv, [((⟨2, (List.replicate nv (0 : UInt8)), 18446744073709551615, 18446744073709551615⟩ : Itm), A39, c39)], some ⟨g41, 0, Option.none⟩, 1, Option.none, 0), (rMGet np, (List.range np).map miT, X, cx, Option.none, 0), (rStats nn, [], Option.none, 0, N, cn), (rDel (1099511627776 + great), [], Option.none, 0, Option.none, 0), (rAdd (1099511627776 + great), [], Option.none, 0, Option.none, 0), (rspO 0 (100000 + great), [], Option.none, 0, Option.none, 0), (rspO 15 (100000 + great), [], Option.none, 0, Option.none, 0)] : List LT8), LongR x.1 := by
          intro x hx
          simp only [List.mem_cons, List.not_mem_nil, or_false] at hx
          rcases hx with rfl | rfl | rfl | rfl | rfl | rfl | rfl
          · exact long_get (by omega)
          · exact long_mget (by omega) (by omega)
          · exact long_stats (by omega)
          · exact long_del (by omega) (by omega)
          · exact long_add (by omega) (by omega)
          · exact long_err (by decide) (by decide) (by omega) (by omega)
          · exact long_err (by decide) (by decide) (by omega) (by omega)
        have hXl : ([(rGet nv, [((⟨2, (List.replicate nv (0 : UInt8)), 18446744073709551615, 18446744073709551615⟩ : Itm), A39, c39)], some ⟨g41, 0, Option.none⟩, 1, Option.none, 0), (rMGet np, (List.range np).map miT, X, cx, Option.none, 0), (rStats nn, [], Option.none, 0, N, cn), (rDel (1099511627776 + great), [], Option.none, 0, Option.none, 0), (rAdd (1099511627776 + great), [], Option.none, 0, Option.none, 0), (rspO 0 (100000 + great), [], Option.none, 0, Option.none, 0), (rspO 15 (100000 + great), [], Option.none, 0, Option.none, 0)] : List LT8).length = 7 := rfl
        clear ecs hQ1 hQ2 hQ3
        generalize ([(rGet nv, [((⟨2, (List.replicate nv (0 : UInt8)), 18446744073709551615, 18446744073709551615⟩ : Itm), A39, c39)], some ⟨g41, 0, Option.none⟩, 1, Option.none, 0), (rMGet np, (List.range np).map miT, X, cx, Option.none, 0), (rStats nn, [], Option.none, 0, N, cn), (rDel (1099511627776 + great), [], Option.none, 0, Option.none, 0), (rAdd (1099511627776 + great), [], Option.none, 0, Option.none, 0), (rspO 0 (100000 + great), [], Option.none, 0, Option.none, 0), (rspO 15 (100000 + great), [], Option.none, 0, Option.none, 0)] : List LT8) = XS at hQ hrX hLX hXl
        refine wl_spell (d := 85) rfl (v' := .slice (some ⟨g85, 0, none⟩) XS.length 7) (by rw [hXl]) ?_
        refine q_nil (k_then (wc_block ?_))
        refine wc_loop (σ := Nat) (fun k => 7 - k) (fun k => [(85, .slice (some ⟨g85, 0, none⟩) XS.length 7), (86, .int .i64 7), (87, .int .i64 (k : Int))]) (fun k w' => k ≤ 7 ∧ RdR w' 0 B85 6 ltc (some ⟨g85, 0, none⟩) 7 XS ∧ LQ w' B85 XS ∧ B85 ≤ w'.heap.size ∧ Ext w w') (0) (⟨by omega, hrX, hQ, by omega, hE⟩) (⟨rfl, rfl, rfl, trivial⟩) ?_
        rintro k wr ⟨hk0, hrX, hQ, hBw2, hE⟩
        show WC _ _ _ _ [(85, (.slice (some ⟨g85, 0, none⟩) XS.length 7)), (86, (.int .i64 7)), (87, (.int .i64 (↑k : Int)))] _
        have hz_E := hE.size
        refine wc_seq (wc_regionL ?_)
        refine wl_val (ov_lss rfl rfl) rfl rfl rfl ?_
        refine q_nil (k_then (wc_seq ?_))
        refine wc_cond_d rfl (fun hc4 => ?_) (fun hc4 => ?_)
        · obtain ⟨⟨r7, xs7, X7, cx7, N7, cn7⟩, hk⟩ : ∃ x, XS[k]? = some x := ⟨_, List.getElem?_eq_getElem (by omega)⟩
          have hxm := List.mem_of_getElem? hk
          obtain ⟨hv7, hx7, hn7⟩ := hQ _ hxm
          have hL := hLX _ hxm
          replace hv7 : vals xs7 = r7.items := hv7
          replace hx7 : RdI wr 0 B85 X7 cx7 xs7 := hx7
          replace hn7 : RdN wr 0 B85 N7 cn7 r7.nums := hn7
          replace hL : LongR r7 := hL
          have hwl := hL.len
          have hwz := hL.sz
          refine q_skip (k_then (wc_seq (wc_block (wc_seq (wc_regionL ?_)))))
          refine wl_step (or_rindex (m := (k)) sl54 rfl rfl hrX (fun _ _ => rfl) hk) rfl rfl rfl ?_
          rintro v _ ⟨rfl, p89, rfl, hp89, hpl89, hph89⟩
          refine wl_val (ov_loadAgg (cs := [(.int .i64 r7.op), (.int .i64 r7.err), (.slice X7 r7.items.length cx7), (.int .u64 (↑r7.ver : Int)), (.int .i64 r7.count), (.slice N7 r7.nums.length cn7)]) ag28_6 rfl rfl hp89) rfl rfl rfl ?_
          refine wl_step (or_alloc (cs := [(.int .i64 0), (.int .i64 0), (.slice none 0 0), (.int .u64 0), (.int .i64 0), (.slice none 0 0)]) ze28 rfl) rfl rfl rfl ?_
          rintro v w209 ⟨g13, rfl, hb_g13, he13, hl13, hu13⟩
          replace hrX := hrX.ext he13
          replace hQ := LQ.ext hQ he13
          replace hE := hE.tr he13
          replace hx7 := RdI.ext hx7 he13
          replace hn7 := hn7.ext he13
          have hz_he13 := he13.size
          refine wl_step0 (or_storeBlk (vs := [(.int .i64 r7.op), (.int .i64 r7.err), (.slice X7 r7.items.length cx7), (.int .u64 (↑r7.ver : Int)), (.int .i64 r7.count), (.slice N7 r7.nums.length cn7)]) sz28 rfl rfl (by simp [Value.oneCell']) hb_g13 rfl) rfl rfl ?_
          rintro _ w210 ⟨hN210, hg210⟩
          have hz_hg210 := hg210.size
          replace hrX := hrX.gr hg210 (fun _ e => by cases e; omega)
          replace hQ := LQ.gr hQ hg210 (fun _ e => by cases e; omega)
          replace hE := hE.gr hg210 (fun _ e => by cases e; omega)
          replace hx7 := RdI.gr hx7 hg210 (fun _ e => by cases e; omega)
          replace hn7 := hn7.gr hg210 (fun _ e => by cases e; omega)
          replace hb_g13 := hN210
          refine q_nil (k_then (wc_seq (wc_regionL ?_)))
          refine wl_val (ov_loadBlk (cs := [(.int .i64 r7.op), (.int .i64 r7.err), (.slice X7 r7.items.length cx7), (.int .u64 (↑r7.ver : Int)), (.int .i64 r7.count), (.slice N7 r7.nums.length cn7)]) ag28_6 rfl hb_g13) rfl rfl rfl ?_
          refine wl_step (or_call0 cl10 rfl rfl (rv8_any _ r7 xs7 hv7 _ _ X7 cx7 N7 cn7 hx7 hn7)) rfl rfl rfl ?_
          rintro v w211 ⟨rfl, he92⟩
          replace hrX := hrX.ext he92
          replace hQ := LQ.ext hQ he92
          replace hE := hE.tr he92
          replace hx7 := RdI.ext hx7 he92
          replace hn7 := hn7.ext he92
          replace hb_g13 := hb_g13.ext he92
          have hz_he92 := he92.size
          refine wl_val (ov_not rfl) rfl rfl rfl ?_
          refine wl_spell (d := 93) rfl (v' := (.bool (decide (¬ RV r7)))) (by by_cases h : RV r7 <;> simp [h]) ?_
          refine q_nil (k_then ?_)
          refine wc_cond_d rfl (fun hc5 => ?_) (fun hc5 => ?_)
          · have hwr := wr_inval hL.ok hc5
            have hrd := hL.no hc5
            refine wc_seq (wc_regionL ?_)
            refine wl_val (ov_loadBlk (cs := [(.int .i64 r7.op), (.int .i64 r7.err), (.slice X7 r7.items.length cx7), (.int .u64 (↑r7.ver : Int)), (.int .i64 r7.count), (.slice N7 r7.nums.length cn7)]) ag28_6 rfl hb_g13) rfl rfl rfl ?_
            refine wl_step (or_call0 cl21 rfl rfl (vd8_ref _ r7 xs7 hv7 _ _ X7 cx7 N7 cn7 hx7 hn7 hL.ok hL.sz)) rfl rfl rfl ?_
            rintro v w212 ⟨rfl, he95⟩
            replace hrX := hrX.ext he95
            replace hQ := LQ.ext hQ he95
            replace hE := hE.tr he95
            replace hx7 := RdI.ext hx7 he95
            replace hn7 := hn7.ext he95
            replace hb_g13 := hb_g13.ext he95
            have hz_he95 := he95.size
            refine wl_spell (d := 95) rfl (bf (hc5)) ?_
            refine vm rfl rfl ?_
            refine wl_gval (ov_loadBlk (cs := [(.int .i64 r7.op), (.int .i64 r7.err), (.slice X7 r7.items.length cx7), (.int .u64 (↑r7.ver : Int)), (.int .i64 r7.count), (.slice N7 r7.nums.length cn7)]) ag28_6 rfl hb_g13) rfl rfl rfl rfl rfl ?_
            refine wl_gval (ov_build (cs := [(.int .u8 0), (.slice none 0 0)]) ze34 pl34 rfl rfl) rfl rfl rfl rfl rfl ?_
            refine wl_gstep (or_call0 cl11 rfl rfl (lw8 _ r7 xs7 hv7 _ _ X7 cx7 N7 cn7 hx7 hn7 _ _ (0) none 0 [] (RdB.nil _ 0 0) 2 _ (by rfl) hL.ok hL.sz hwr)) rfl rfl rfl rfl rfl ?_
            rintro v w213 ⟨rfl, he99⟩
            replace hrX := hrX.ext he99
            replace hQ := LQ.ext hQ he99
            replace hE := hE.tr he99
            replace hx7 := RdI.ext hx7 he99
            replace hn7 := hn7.ext he99
            replace hb_g13 := hb_g13.ext he99
            have hz_he99 := he99.size
            refine wl_gval (ov_not (b := true) rfl) rfl rfl rfl rfl rfl ?_
            refine wl_val (ov_pick_f rfl rfl) rfl rfl rfl ?_
            refine vm rfl rfl ?_
            refine wl_gval (ov_loadBlk (cs := [(.int .i64 r7.op), (.int .i64 r7.err), (.slice X7 r7.items.length cx7), (.int .u64 (↑r7.ver : Int)), (.int .i64 r7.count), (.slice N7 r7.nums.length cn7)]) ag28_6 rfl hb_g13) rfl rfl rfl rfl rfl ?_
            refine wl_gstep (or_call0 cl17 rfl rfl (rw8_any _ r7 xs7 hv7 _ _ X7 cx7 N7 cn7 hx7 hn7 hL.ok hL.sz hL.o1 hL.o2 hL.e1 hL.e2 hL.c1 hL.ms)) rfl rfl rfl rfl rfl ?_
            rintro v w214 ⟨A104, c104, rfl, ho104, he104⟩
            replace hrX := hrX.ext he104
            replace hQ := LQ.ext hQ he104
            replace hE := hE.tr he104
            replace hx7 := RdI.ext hx7 he104
            replace hn7 := hn7.ext he104
            replace hb_g13 := hb_g13.ext he104
            have hz_he104 := he104.size
            have hq_ho104 := fun g e => Own.lt ho104 (g := g) e
            refine wl_gval (ov_build (cs := [(.int .i64 0), (.int .i64 0), (.slice none 0 0), (.int .u64 0), (.int .i64 0), (.slice none 0 0)]) ze28 pl28 rfl rfl) rfl rfl rfl rfl rfl ?_
            refine wl_gstep (or_call0 cl19 rfl rfl (lr8 _ _ _ ((codeR r7)) A104 c104 (refW r7) (OwnB.rd ho104) (hwl) (rspO 0 0) [] rfl 0 0 none 0 none 0 (RdI.nil _ 0 _) (Rd.nil _ 0 _ _ _ _ (Nat.zero_le _)) 6 _ (by rfl) hrd)) rfl rfl rfl rfl rfl ?_
            rintro v w215 ⟨rfl, he106⟩
            replace hrX := hrX.ext he106
            replace hQ := LQ.ext hQ he106
            replace hE := hE.tr he106
            replace hx7 := RdI.ext hx7 he106
            replace hn7 := hn7.ext he106
            replace hb_g13 := hb_g13.ext he106
            replace ho104 := Own.ext ho104 he106
            have hz_he106 := he106.size
            refine wl_gval (ov_not (b := true) rfl) rfl rfl rfl rfl rfl ?_
            refine wl_val (ov_pick_f rfl rfl) rfl rfl rfl ?_
            refine q_nil (k_then ?_)
            refine wc_cond_f rfl ?_
            refine q_skip (k_block (k_then (wc_regionL ?_)))
            refine wl_val (ov_add rfl rfl (wi64 (by omega) (by omega))) rfl rfl rfl ?_
            refine vm rfl rfl ?_
            refine q_nil ?_
            refine k_loop (k + 1) (by show 7 - (k + 1) < 7 - k; omega) (⟨rfl, rfl, rfl, trivial⟩) (⟨by omega, hrX, hQ, by omega, hE⟩)
          · have hrv := Decidable.not_not.1 hc5
            have hwr := hL.wr hrv
            have hrd := hL.yes hrv
            refine wc_seq ?_
            refine wc_draw mixed 14 [(109, eqv (.agg #[(.int .i64 r7.op), (.int .i64 r7.err), (.slice X7 r7.items.length cx7), (.int .u64 (↑r7.ver : Int)), (.int .i64 r7.count), (.slice N7 r7.nums.length cn7)])), (110, eqv (.bool true)), (111, eqv (.bool false)), (112, eqv (.bool false)), (113, eqv (.agg #[(.int .i64 r7.op), (.int .i64 r7.err), (.slice X7 r7.items.length cx7), (.int .u64 (↑r7.ver : Int)), (.int .i64 r7.count), (.slice N7 r7.nums.length cn7)])), (114, eqv (.agg #[(.int .i64 r7.op), (.int .i64 r7.err), (.slice X7 r7.items.length cx7), (.int .u64 (↑r7.ver : Int)), (.int .i64 r7.count), (.slice N7 r7.nums.length cn7)])), (115, (fun v w => ∃ A115 c115, v = (.agg #[(.int .u8 (↑(codeR r7).toNat : Int)), (.slice A115 (refW r7).length c115)]) ∧ OwnB w w211.heap.size 5 A115 c115 (refW r7))), (116, eqv (.bool true)), (117, eqv (.bool false)), (118, eqv (.bool false)), (119, eqv (.bool false)), (120, eqv (.agg #[(.int .i64 r7.op), (.int .i64 r7.err), (.slice X7 r7.items.length cx7), (.int .u64 (↑r7.ver : Int)), (.int .i64 r7.count), (.slice N7 r7.nums.length cn7)])), (121, (fun v w => ∃ A121 c121, v = (.agg #[(.int .u8 (↑(codeR r7).toNat : Int)), (.slice A121 (refW r7).length c121)]) ∧ OwnB w w211.heap.size 5 A121 c121 (refW r7))), (122, eqv (.agg #[(.int .i64 r7.op), (.int .i64 r7.err), (.slice X7 r7.items.length cx7), (.int .u64 (↑r7.ver : Int)), (.int .i64 r7.count), (.slice N7 r7.nums.length cn7)]))] [[], [0], [1], [2], [3], [3], [3, 5], [3, 4, 6], [3, 7], [3, 8], [9], [10], [10, 11], [10]] _ [] [] (fun _ _ h => h) trivial (by kernel_rfl) rfl ⟨⟨stb_eqv _, fun _ he => by cases he⟩, ⟨stb_eqv _, fun _ he => by cases he⟩, ⟨stb_eqv _, fun _ he => by cases he⟩, ⟨stb_eqv _, fun _ he => by cases he⟩, ⟨stb_eqv _, fun _ he => by cases he⟩, ⟨stb_eqv _, fun _ he => by cases he⟩, ⟨(fun v w w' ⟨A, c, hv, ho⟩ he => ⟨A, c, hv, Own.ext ho he⟩), fun _ he => by cases he⟩, ⟨stb_eqv _, fun _ he => by cases he⟩, ⟨stb_eqv _, fun _ he => by cases he⟩, ⟨stb_eqv _, fun _ he => by cases he⟩, ⟨stb_eqv _, fun _ he => by cases he⟩, ⟨stb_eqv _, fun _ he => by cases he⟩, ⟨(fun v w w' ⟨A, c, hv, ho⟩ he => ⟨A, c, hv, Own.ext ho he⟩), fun _ he => by cases he⟩, ⟨stb_eqv _, fun _ he => by cases he⟩, trivial⟩ ⟨?_, ?_, ?_, ?_, ?_, ?_, ?_, ?_, ?_, ?_, ?_, ?_, ?_, ?_, trivial⟩ ?_
            · intro wd hxE
              replace hrX := hrX.ext hxE
              replace hQ := LQ.ext hQ hxE
              replace hE := hE.tr hxE
              replace hx7 := RdI.ext hx7 hxE
              replace hn7 := hn7.ext hxE
              replace hb_g13 := hb_g13.ext hxE
              have hz_hxE := hxE.size
              show OpG _ _ _ _ _ _
              exact og_plain rfl (ox_val (ov_loadBlk (cs := [(.int .i64 r7.op), (.int .i64 r7.err), (.slice X7 r7.items.length cx7), (.int .u64 (↑r7.ver : Int)), (.int .i64 r7.count), (.slice N7 r7.nums.length cn7)]) ag28_6 rfl hb_g13))
            · intro wd hxE
              replace hrX := hrX.ext hxE
              replace hQ := LQ.ext hQ hxE
              replace hE := hE.tr hxE
              replace hx7 := RdI.ext hx7 hxE
              replace hn7 := hn7.ext hxE
              replace hb_g13 := hb_g13.ext hxE
              have hz_hxE := hxE.size
              rintro _ rfl
              show OpG _ _ _ _ _ _
              refine og_plain rfl (OpRun.mono (or_call0 cl21 rfl rfl (vd8_ref _ r7 xs7 hv7 _ _ X7 cx7 N7 cn7 hx7 hn7 hL.ok hL.sz)) ?_)
              rintro v w212 ⟨rfl, he110⟩
              replace hrX := hrX.ext he110
              replace hQ := LQ.ext hQ he110
              replace hE := hE.tr he110
              replace hx7 := RdI.ext hx7 he110
              replace hn7 := hn7.ext he110
              replace hb_g13 := hb_g13.ext he110
              have hz_he110 := he110.size
              exact ⟨bt (hrv), he110⟩
            · intro wd hxE
              replace hrX := hrX.ext hxE
              replace hQ := LQ.ext hQ hxE
              replace hE := hE.tr hxE
              replace hx7 := RdI.ext hx7 hxE
              replace hn7 := hn7.ext hxE
              replace hb_g13 := hb_g13.ext hxE
              have hz_hxE := hxE.size
              rintro _ rfl
              show OpG _ _ _ _ _ _
              exact og_plain rfl (ox_val (ov_not (b := true) rfl))
            · intro wd hxE
              replace hrX := hrX.ext hxE
              replace hQ := LQ.ext hQ hxE
              replace hE := hE.tr hxE
              replace hx7 := RdI.ext hx7 hxE
              replace hn7 := hn7.ext hxE
              replace hb_g13 := hb_g13.ext hxE
              have hz_hxE := hxE.size
              rintro _ rfl
              show OpG _ _ _ _ _ _
              exact og_plain rfl (ox_val (ov_move rfl))
            · intro wd hxE
              replace hrX := hrX.ext hxE
              replace hQ := LQ.ext hQ hxE
              replace hE := hE.tr hxE
              replace hx7 := RdI.ext hx7 hxE
              replace hn7 := hn7.ext hxE
              replace hb_g13 := hb_g13.ext hxE
              have hz_hxE := hxE.size
              rintro _ rfl
              show OpG _ _ _ _ _ _
              exact og_on rfl rfl rfl (ox_val (ov_loadBlk (cs := [(.int .i64 r7.op), (.int .i64 r7.err), (.slice X7 r7.items.length cx7), (.int .u64 (↑r7.ver : Int)), (.int .i64 r7.count), (.slice N7 r7.nums.length cn7)]) ag28_6 rfl hb_g13))
            · intro wd hxE
              replace hrX := hrX.ext hxE
              replace hQ := LQ.ext hQ hxE
              replace hE := hE.tr hxE
              replace hx7 := RdI.ext hx7 hxE
              replace hn7 := hn7.ext hxE
              replace hb_g13 := hb_g13.ext hxE
              have hz_hxE := hxE.size
              rintro _ rfl
              show OpG _ _ _ _ _ _
              exact og_on rfl rfl rfl (ox_val (ov_loadBlk (cs := [(.int .i64 r7.op), (.int .i64 r7.err), (.slice X7 r7.items.length cx7), (.int .u64 (↑r7.ver : Int)), (.int .i64 r7.count), (.slice N7 r7.nums.length cn7)]) ag28_6 rfl hb_g13))
            · intro wd hxE
              replace hrX := hrX.ext hxE
              replace hQ := LQ.ext hQ hxE
              replace hE := hE.tr hxE
              replace hx7 := RdI.ext hx7 hxE
              replace hn7 := hn7.ext hxE
              replace hb_g13 := hb_g13.ext hxE
              have hz_hxE := hxE.size
              rintro _ rfl
              rintro _ rfl
              show OpG _ _ _ _ _ _
              refine og_on rfl rfl rfl (OpRun.mono (or_call0 cl17 rfl rfl (rw8_any _ r7 xs7 hv7 _ _ X7 cx7 N7 cn7 hx7 hn7 hL.ok hL.sz hL.o1 hL.o2 hL.e1 hL.e2 hL.c1 hL.ms)) ?_)
              rintro v w212 ⟨A115, c115, rfl, ho115, he115⟩
              replace hrX := hrX.ext he115
              replace hQ := LQ.ext hQ he115
              replace hE := hE.tr he115
              replace hx7 := RdI.ext hx7 he115
              replace hn7 := hn7.ext he115
              replace hb_g13 := hb_g13.ext he115
              have hz_he115 := he115.size
              have hq_ho115 := fun g e => Own.lt ho115 (g := g) e
              exact ⟨⟨A115, c115, rfl, Own.mono ho115 (by omega)⟩, he115⟩
            · intro wd hxE
              replace hrX := hrX.ext hxE
              replace hQ := LQ.ext hQ hxE
              replace hE := hE.tr hxE
              replace hx7 := RdI.ext hx7 hxE
              replace hn7 := hn7.ext hxE
              replace hb_g13 := hb_g13.ext hxE
              have hz_hxE := hxE.size
              rintro _ rfl
              rintro _ rfl
              rintro _ ⟨A115, c115, rfl, ho115⟩
              show OpG _ _ _ _ _ _
              refine og_on rfl rfl rfl (OpRun.mono (or_call0 cl11 rfl rfl (lw8 _ r7 xs7 hv7 _ _ X7 cx7 N7 cn7 hx7 hn7 _ _ ((codeR r7)) A115 c115 (refW r7) (OwnB.rd ho115) 0 _ (by rfl) hL.ok hL.sz hwr)) ?_)
              rintro v w212 ⟨rfl, he116⟩
              replace hrX := hrX.ext he116
              replace hQ := LQ.ext hQ he116
              replace hE := hE.tr he116
              replace hx7 := RdI.ext hx7 he116
              replace hn7 := hn7.ext he116
              replace hb_g13 := hb_g13.ext he116
              replace ho115 := Own.ext ho115 he116
              have hz_he116 := he116.size
              exact ⟨rfl, he116⟩
            · intro wd hxE
              replace hrX := hrX.ext hxE
              replace hQ := LQ.ext hQ hxE
              replace hE := hE.tr hxE
              replace hx7 := RdI.ext hx7 hxE
              replace hn7 := hn7.ext hxE
              replace hb_g13 := hb_g13.ext hxE
              have hz_hxE := hxE.size
              rintro _ rfl
              rintro _ rfl
              show OpG _ _ _ _ _ _
              exact og_on rfl rfl rfl (ox_val (ov_not (b := true) rfl))
            · intro wd hxE
              replace hrX := hrX.ext hxE
              replace hQ := LQ.ext hQ hxE
              replace hE := hE.tr hxE
              replace hx7 := RdI.ext hx7 hxE
              replace hn7 := hn7.ext hxE
              replace hb_g13 := hb_g13.ext hxE
              have hz_hxE := hxE.size
              rintro _ rfl
              rintro _ rfl
              show OpG _ _ _ _ _ _
              exact og_plain rfl (ox_val (ov_pick_f rfl rfl))
            · intro wd hxE
              replace hrX := hrX.ext hxE
              replace hQ := LQ.ext hQ hxE
              replace hE := hE.tr hxE
              replace hx7 := RdI.ext hx7 hxE
              replace hn7 := hn7.ext hxE
              replace hb_g13 := hb_g13.ext hxE
              have hz_hxE := hxE.size
              rintro _ rfl
              show OpG _ _ _ _ _ _
              exact og_plain rfl (ox_val (ov_move rfl))
            · intro wd hxE
              replace hrX := hrX.ext hxE
              replace hQ := LQ.ext hQ hxE
              replace hE := hE.tr hxE
              replace hx7 := RdI.ext hx7 hxE
              replace hn7 := hn7.ext hxE
              replace hb_g13 := hb_g13.ext hxE
              have hz_hxE := hxE.size
              rintro _ rfl
              show OpG _ _ _ _ _ _
              exact og_on rfl rfl rfl (ox_val (ov_loadBlk (cs := [(.int .i64 r7.op), (.int .i64 r7.err), (.slice X7 r7.items.length cx7), (.int .u64 (↑r7.ver : Int)), (.int .i64 r7.count), (.slice N7 r7.nums.length cn7)]) ag28_6 rfl hb_g13))
            · intro wd hxE
              replace hrX := hrX.ext hxE
              replace hQ := LQ.ext hQ hxE
              replace hE := hE.tr hxE
              replace hx7 := RdI.ext hx7 hxE
              replace hn7 := hn7.ext hxE
              replace hb_g13 := hb_g13.ext hxE
              have hz_hxE := hxE.size
              rintro _ rfl
              rintro _ rfl
              show OpG _ _ _ _ _ _
              refine og_on rfl rfl rfl (OpRun.mono (or_call0 cl17 rfl rfl (rw8_any _ r7 xs7 hv7 _ _ X7 cx7 N7 cn7 hx7 hn7 hL.ok hL.sz hL.o1 hL.o2 hL.e1 hL.e2 hL.c1 hL.ms)) ?_)
              rintro v w212 ⟨A121, c121, rfl, ho121, he121⟩
              replace hrX := hrX.ext he121
              replace hQ := LQ.ext hQ he121
              replace hE := hE.tr he121
              replace hx7 := RdI.ext hx7 he121
              replace hn7 := hn7.ext he121
              replace hb_g13 := hb_g13.ext he121
              have hz_he121 := he121.size
              have hq_ho121 := fun g e => Own.lt ho121 (g := g) e
              exact ⟨⟨A121, c121, rfl, Own.mono ho121 (by omega)⟩, he121⟩
            · intro wd hxE
              replace hrX := hrX.ext hxE
              replace hQ := LQ.ext hQ hxE
              replace hE := hE.tr hxE
              replace hx7 := RdI.ext hx7 hxE
              replace hn7 := hn7.ext hxE
              replace hb_g13 := hb_g13.ext hxE
              have hz_hxE := hxE.size
              rintro _ rfl
              show OpG _ _ _ _ _ _
              exact og_on rfl rfl rfl (ox_val (ov_loadBlk (cs := [(.int .i64 r7.op), (.int .i64 r7.err), (.slice X7 r7.items.length cx7), (.int .u64 (↑r7.ver : Int)), (.int .i64 r7.count), (.slice N7 r7.nums.length cn7)]) ag28_6 rfl hb_g13))
            · intro wf19 hf19
              replace hrX := hrX.ext hf19
              replace hQ := LQ.ext hQ hf19
              replace hE := hE.tr hf19
              replace hx7 := RdI.ext hx7 hf19
              replace hn7 := hn7.ext hf19
              replace hb_g13 := hb_g13.ext hf19
              have hz_hf19 := hf19.size
              rintro _ rfl
              rintro _ rfl
              rintro _ rfl
              rintro _ rfl
              rintro _ rfl
              rintro _ rfl
              rintro _ ⟨A115, c115, rfl, ho115⟩
              rintro _ rfl
              rintro _ rfl
              rintro _ rfl
              rintro _ rfl
              rintro _ rfl
              rintro _ ⟨A121, c121, rfl, ho121⟩
              rintro _ rfl
              have hq_ho121 := fun g e => Own.lt ho121 (g := g) e
              show WL _ _ _ [_, _, _] _ _ _
              refine wl_gstep (or_call0 cl19 rfl rfl (lr8 _ _ _ ((codeR r7)) A121 c121 (refW r7) (OwnB.rd ho121) (hwl) r7 xs7 hv7 _ _ X7 cx7 N7 cn7 hx7 hn7 0 _ (by rfl) hrd)) rfl rfl rfl rfl rfl ?_
              rintro v w212 ⟨rfl, he123⟩
              replace hrX := hrX.ext he123
              replace hQ := LQ.ext hQ he123
              replace hE := hE.tr he123
              replace hx7 := RdI.ext hx7 he123
              replace hn7 := hn7.ext he123
              replace hb_g13 := hb_g13.ext he123
              replace ho121 := Own.ext ho121 he123
              have hz_he123 := he123.size
              refine wl_gval (ov_not (b := true) rfl) rfl rfl rfl rfl rfl ?_
              refine wl_val (ov_pick_f rfl rfl) rfl rfl rfl ?_
              refine q_nil (k_then ?_)
              refine wc_cond_f rfl ?_
              refine q_skip (k_block (k_then (wc_regionL ?_)))
              refine wl_val (ov_add rfl rfl (wi64 (by omega) (by omega))) rfl rfl rfl ?_
              refine vm rfl rfl ?_
              refine q_nil ?_
              refine k_loop (k + 1) (by show 7 - (k + 1) < 7 - k; omega) (⟨rfl, rfl, rfl, trivial⟩) (⟨by omega, hrX, hQ, by omega, hE⟩)
        · refine q_exit (k_thenX (k_thenX (k_blockE (k_then (wc_seq (wc_regionL ?_))))))
          refine wl_step (or_call0 cl9 rfl rfl (known08_any _)) rfl rfl rfl ?_
          rintro v w209 ⟨rfl, he127⟩
          replace hrX := hrX.ext he127
          replace hQ := LQ.ext hQ he127
          replace hE := hE.tr he127
          have hz_he127 := he127.size
          refine va rfl rfl ?_
          refine q_nil (k_then (q_ret ?_))
          refine e_ret rfl rfl ?_
          exact ⟨rfl, hE⟩

theorem responseLongs_walk (w : World) (more parts great : Int) :
    Fn Try.prog 6 #[.int .i64 more, .int .i64 parts, .int .i64 great] w (fun v w' => v = .bool true ∧ Ext w w') := by
  by_cases h0 : more < -2
  · exact responseLongs_a w more parts great h0
  by_cases h1 : 2 < more
  · exact responseLongs_b w more parts great h0 h1
  by_cases h2 : parts < -2
  · exact responseLongs_c w more parts great h0 h1 h2
  by_cases h3 : 2 < parts
  · exact responseLongs_d w more parts great h0 h1 h2 h3
  by_cases h4 : great < -2
  · exact responseLongs_e w more parts great h0 h1 h2 h3 h4
  by_cases h5 : 2 < great
  · exact responseLongs_f w more parts great h0 h1 h2 h3 h4 h5
  exact responseLongs_g w more parts great h0 h1 h2 h3 h4 h5 (65536 + more).toNat (16 + parts).toNat (64 + parts).toNat (by omega) (by omega) (by omega)

end Go.Proofs.Ytohnkjjjejnkpaa
