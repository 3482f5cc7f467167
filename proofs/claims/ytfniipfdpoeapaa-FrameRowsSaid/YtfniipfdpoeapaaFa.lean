/-
  The contracts of the checks that the laws of layer 5 are made of.
-/
import Derived.Test.YtfniipfdpoeapaaFr
namespace Go.Proofs.Ytfniipfdpoeapaa
open Go.RowKit
set_option linter.unusedVariables false
theorem cl16 : callable Try.prog 16 = true := by kernel_rfl
theorem cl17 : callable Try.prog 17 = true := by kernel_rfl
theorem cl18 : callable Try.prog 18 = true := by kernel_rfl
theorem cl19 : callable Try.prog 19 = true := by kernel_rfl
theorem cl20 : callable Try.prog 20 = true := by kernel_rfl
theorem cl41 : callable Try.prog 41 = true := by kernel_rfl

theorem freads_any (w : World) (lo hi lo2 hi2 : Nat) (A : Option Addr) (c : Nat) (l : List UInt8) (most : Int) (hm1 : -9223372036854775808 ≤ most) (hm : most ≤ 9223372036854775807) (x : UInt8) (B : Option Addr) (c2 : Nat) (p : List UInt8) (s e : Int) (hr : RdB w lo hi A c l) (hr2 : RdB w lo2 hi2 B c2 p) (hlen : l.length ≤ 140737488355328) (h1 : (fread l most).1 = (x, p)) (h2 : ((fread l most).2.1 : Int) = s) (h3 : ((fread l most).2.2 : Int) = e) :
    Fn Try.prog 16 #[(.slice A l.length c), (.int .i64 most), (.agg #[(.int .u8 (↑x.toNat : Int)), (.slice B p.length c2)]), (.int .i64 s), (.int .i64 e)] w (fun v w' => v = .bool true ∧ Ext w w') := by
  replace hr := hr.top
  replace hr2 := hr2.top
  have hE := ext_refl w
  refine fn_enter (args := [(.slice A l.length c), (.int .i64 most), (.agg #[(.int .u8 (↑x.toNat : Int)), (.slice B p.length c2)]), (.int .i64 s), (.int .i64 e)]) Try.func16 rfl rfl rfl ?_
  show WC _ _ _ _ [(0, (.slice A l.length c)), (1, (.int .i64 most)), (2, (.agg #[(.int .u8 (↑x.toNat : Int)), (.slice B p.length c2)])), (3, (.int .i64 s)), (4, (.int .i64 e))] _
  refine wc_seq ?_
  refine wc_regionL ?_
  refine wl_step (or_box (cs := [(.int .u8 (↑x.toNat : Int)), (.slice B p.length c2)]) rfl rfl) rfl rfl rfl ?_
  rintro v w1 ⟨g7, rfl, hb_g7, he7, hl7, hu7⟩
  replace hr := hr.ext he7
  replace hr2 := hr2.ext he7
  replace hE := hE.tr he7
  have hz_he7 := he7.size
  refine wl_val (ov_assign rfl) rfl rfl rfl ?_
  refine q_nil ?_
  refine k_then ?_
  refine wc_seq ?_
  refine wc_regionL ?_
  refine wl_val (ov_move rfl) rfl rfl rfl ?_
  refine wl_val (ov_move rfl) rfl rfl rfl ?_
  refine wl_step (or_call0 cl17 rfl rfl (fread_any _ _ _ _ _ l most (by omega) (by omega) hr (by omega))) rfl rfl rfl ?_
  rintro v w2 ⟨A17, c17, rfl, ho17, he17⟩
  replace hr := hr.ext he17
  replace hr2 := hr2.ext he17
  replace hE := hE.tr he17
  replace hb_g7 := hb_g7.ext he17
  have hz_he17 := he17.size
  have hq_ho17 := fun g e => Own.lt ho17 (g := g) e
  refine wl_val (ov_move rfl) rfl rfl rfl ?_
  refine wl_val (ov_extract rfl rfl) rfl rfl rfl ?_
  refine wl_val (ov_extract rfl rfl) rfl rfl rfl ?_
  refine wl_val (ov_extract rfl rfl) rfl rfl rfl ?_
  refine wl_step (or_alloc (cs := [(.int .u8 0), (.slice none 0 0)]) ze25 rfl) rfl rfl rfl ?_
  rintro v w3 ⟨g11, rfl, hb_g11, he11, hl11, hu11⟩
  replace hr := hr.ext he11
  replace hr2 := hr2.ext he11
  replace hE := hE.tr he11
  replace hb_g7 := hb_g7.ext he11
  replace ho17 := Own.ext ho17 he11
  have hz_he11 := he11.size
  refine wl_step0 (or_storeBlk (vs := [(.int .u8 (↑(fread l most).1.1.toNat : Int)), (.slice A17 (fread l most).1.2.length c17)]) sz25 rfl rfl (by simp [Value.oneCell']) hb_g11 rfl) rfl rfl ?_
  rintro _ w4 ⟨hN4, hg4⟩
  have hz_hg4 := hg4.size
  replace hr := hr.gr hg4 (fun _ e => by cases e; omega)
  replace hr2 := hr2.gr hg4 (fun _ e => by cases e; omega)
  replace hE := hE.gr hg4 (fun _ e => by cases e; omega)
  replace hb_g7 := hb_g7.gr hg4 (by intro e; cases e; omega)
  replace ho17 := Own.gr ho17 hg4 (by first | exact .inl rfl | (right; intro e; first | (have := hq_ho17 _ e; omega) | (have := Own.lt ho17 e; omega) | exact own_blk_ne ho17 hb_g11 (by decide) e))
  replace hb_g11 := hN4
  refine wl_val (ov_assign rfl) rfl rfl rfl ?_
  refine wl_val (ov_assign rfl) rfl rfl rfl ?_
  refine q_nil ?_
  refine k_then ?_
  refine wc_seq ?_
  refine wc_regionL ?_
  refine wl_val (ov_loadBlk (cs := [(.int .u8 (↑(fread l most).1.1.toNat : Int)), (.slice A17 (fread l most).1.2.length c17)]) ag25_2 rfl hb_g11) rfl rfl rfl ?_
  refine wl_val (ov_loadBlk (cs := [(.int .u8 (↑x.toNat : Int)), (.slice B p.length c2)]) ag25_2 rfl hb_g7) rfl rfl rfl ?_
  refine wl_step (or_call0 cl18 rfl rfl (rfequal_any _ _ _ _ _ ((fread l most).1.1) _ _ (fread l most).1.2 (x) _ _ p (OwnB.rd ho17) hr2)) rfl rfl rfl ?_
  rintro v w5 ⟨rfl, he23⟩
  replace hr := hr.ext he23
  replace hr2 := hr2.ext he23
  replace hE := hE.tr he23
  replace hb_g7 := hb_g7.ext he23
  replace ho17 := Own.ext ho17 he23
  replace hb_g11 := hb_g11.ext he23
  have hz_he23 := he23.size
  refine wl_spell (d := 23) rfl (bt (h1)) ?_
  refine wl_val (ov_move rfl) rfl rfl rfl ?_
  refine wl_gval (ov_move rfl) rfl rfl rfl rfl rfl ?_
  refine wl_gval (ov_move rfl) rfl rfl rfl rfl rfl ?_
  refine wl_gval (ov_eql rfl rfl) rfl rfl rfl rfl rfl ?_
  refine wl_spell (d := 27) rfl (bt (h2)) ?_
  refine wl_val (ov_pick_t rfl rfl) rfl rfl rfl ?_
  refine wl_val (ov_move rfl) rfl rfl rfl ?_
  refine wl_gval (ov_move rfl) rfl rfl rfl rfl rfl ?_
  refine wl_gval (ov_move rfl) rfl rfl rfl rfl rfl ?_
  refine wl_gval (ov_eql rfl rfl) rfl rfl rfl rfl rfl ?_
  refine wl_spell (d := 32) rfl (bt (h3)) ?_
  refine wl_val (ov_pick_t rfl rfl) rfl rfl rfl ?_
  refine wl_val (ov_assign rfl) rfl rfl rfl ?_
  refine q_nil ?_
  refine k_then ?_
  refine q_ret ?_
  refine e_ret rfl rfl ?_
  exact ⟨rfl, hE⟩

theorem fsizes_any (w : World) (n : Nat) (want e : Int) (hn : n ≤ 140737488355328) (h1 : ((fsizeN n).1 : Int) = want) (h2 : ((fsizeN n).2 : Int) = e) :
    Fn Try.prog 41 #[(.int .i64 (↑n : Int)), (.int .i64 want), (.int .i64 e)] w (fun v w' => v = .bool true ∧ Ext w w') := by
  have hE := ext_refl w
  refine fn_enter (args := [(.int .i64 (↑n : Int)), (.int .i64 want), (.int .i64 e)]) Try.func41 rfl rfl rfl ?_
  show WC _ _ _ _ [(0, (.int .i64 (↑n : Int))), (1, (.int .i64 want)), (2, (.int .i64 e))] _
  refine wc_seq ?_
  refine wc_regionL ?_
  refine wl_val (ov_assign rfl) rfl rfl rfl ?_
  refine q_nil ?_
  refine k_then ?_
  refine wc_seq ?_
  refine wc_regionL ?_
  refine wl_val (ov_move rfl) rfl rfl rfl ?_
  refine wl_step (or_makeBytes (n := n) bt22 rfl rfl (by omega) (by omega)) rfl rfl rfl ?_
  rintro v w1 ⟨A11, c11, rfl, ho11, he11⟩
  replace hE := hE.tr he11
  have hz_he11 := he11.size
  have hq_ho11 := fun g e => Own.lt ho11 (g := g) e
  refine wl_val (ov_build (cs := [(.int .u8 1), (.slice A11 (List.replicate n 0).length c11)]) ze25 pl25 rfl rfl) rfl rfl rfl ?_
  refine wl_step (or_call0 cl20 rfl rfl (fsize_any _ (1) _ _ (List.replicate n 0) (by simp; omega))) rfl rfl rfl ?_
  rintro v w2 ⟨rfl, he13⟩
  replace hE := hE.tr he13
  replace ho11 := Own.ext ho11 he13
  have hz_he13 := he13.size
  refine wl_val (ov_move rfl) rfl rfl rfl ?_
  refine wl_val (ov_extract rfl rfl) rfl rfl rfl ?_
  refine wl_val (ov_extract rfl rfl) rfl rfl rfl ?_
  refine wl_val (ov_assign rfl) rfl rfl rfl ?_
  refine wl_val (ov_assign rfl) rfl rfl rfl ?_
  refine q_nil ?_
  refine k_then ?_
  refine wc_seq ?_
  refine wc_regionL ?_
  refine wl_val (ov_move rfl) rfl rfl rfl ?_
  refine wl_val (ov_move rfl) rfl rfl rfl ?_
  refine wl_val (ov_eql rfl rfl) rfl rfl rfl ?_
  refine wl_spell (d := 18) rfl (bt (by rw [fsize_N, List.length_replicate]; exact h1)) ?_
  refine wl_val (ov_move rfl) rfl rfl rfl ?_
  refine wl_gval (ov_move rfl) rfl rfl rfl rfl rfl ?_
  refine wl_gval (ov_move rfl) rfl rfl rfl rfl rfl ?_
  refine wl_gval (ov_eql rfl rfl) rfl rfl rfl rfl rfl ?_
  refine wl_spell (d := 22) rfl (bt (by rw [fsize_N, List.length_replicate]; exact h2)) ?_
  refine wl_val (ov_pick_t rfl rfl) rfl rfl rfl ?_
  refine wl_val (ov_assign rfl) rfl rfl rfl ?_
  refine q_nil ?_
  refine k_then ?_
  refine q_ret ?_
  refine e_ret rfl rfl ?_
  exact ⟨rfl, hE⟩

set_option maxRecDepth 20000 in
set_option maxHeartbeats 2000000 in
theorem known05_any (w : World) :
    Fn Try.prog 14 #[] w (fun v w' => v = .bool true ∧ Ext w w') := by
  have hE := ext_refl w
  refine fn_enter (args := []) Try.func14 rfl rfl rfl ?_
  show WC _ _ _ _ [] _
  refine wc_seq ?_
  refine wc_regionL ?_
  refine wl_val (ov_assign rfl) rfl rfl rfl ?_
  refine q_nil ?_
  refine k_then ?_
  refine wc_seq ?_
  refine wc_regionL ?_
  refine wl_step (or_buildBytes (l := [97, 98]) bt22 (os := [.const (.int .u8 97), .const (.int .u8 98)]) rfl rfl rfl (by decide)) rfl rfl rfl ?_
  rintro v w1 ⟨A9, c9, rfl, ho9, he9⟩
  replace hE := hE.tr he9
  have hz_he9 := he9.size
  have hq_ho9 := fun g e => Own.lt ho9 (g := g) e
  refine wl_step (or_markBytes bt22 rfl ho9 (by simp)) rfl rfl rfl ?_
  rintro v w2 ⟨rfl, hr10, he10⟩
  have hz_he10 := he10.size
  replace hE := hE.gr he10 (fun g e => by have := hq_ho9 g e; omega)
  refine wl_val (ov_build (cs := [(.int .u8 9), (.slice A9 [97, 98].length c9)]) ze25 pl25 rfl rfl) rfl rfl rfl ?_
  refine wl_step (or_call0 cl19 rfl rfl (fwrite_any _ _ _ (9) _ _ [97, 98] hr10 (by simp))) rfl rfl rfl ?_
  rintro v w3 ⟨A12, c12, rfl, ho12, he12⟩
  replace hE := hE.tr he12
  replace hr10 := hr10.ext he12
  have hz_he12 := he12.size
  have hq_ho12 := fun g e => Own.lt ho12 (g := g) e
  refine wl_val (ov_move rfl) rfl rfl rfl ?_
  refine wl_val (ov_extract rfl rfl) rfl rfl rfl ?_
  refine wl_val (ov_extract rfl rfl) rfl rfl rfl ?_
  refine wl_val (ov_assign rfl) rfl rfl rfl ?_
  refine wl_val (ov_assign rfl) rfl rfl rfl ?_
  refine q_nil ?_
  refine k_then ?_
  refine wc_seq ?_
  refine wc_regionL ?_
  refine wl_step (or_buildBytes (l := [97, 98]) bt22 (os := [.const (.int .u8 97), .const (.int .u8 98)]) rfl rfl rfl (by decide)) rfl rfl rfl ?_
  rintro v w4 ⟨A16, c16, rfl, ho16, he16⟩
  replace hE := hE.tr he16
  replace hr10 := hr10.ext he16
  replace ho12 := Own.ext ho12 he16
  have hz_he16 := he16.size
  have hq_ho16 := fun g e => Own.lt ho16 (g := g) e
  refine wl_step (or_markBytes bt22 rfl ho16 (by simp)) rfl rfl rfl ?_
  rintro v w5 ⟨rfl, hr17, he17⟩
  have hz_he17 := he17.size
  replace hE := hE.gr he17 (fun g e => by have := hq_ho16 g e; omega)
  replace hr10 := hr10.gr he17 (fun g e => by have := hq_ho16 g e; omega)
  replace ho12 := Own.gr ho12 he17 (own_apart fun g e g2 e2 => by have := hq_ho12 g e; have := hq_ho16 g2 e2; omega)
  refine wl_val (ov_build (cs := [(.int .u8 9), (.slice A16 [97, 98].length c16)]) ze25 pl25 rfl rfl) rfl rfl rfl ?_
  refine wl_step (or_call0 cl20 rfl rfl (fsize_any _ (9) _ _ [97, 98] (by simp))) rfl rfl rfl ?_
  rintro v w6 ⟨rfl, he19⟩
  replace hE := hE.tr he19
  replace hr10 := hr10.ext he19
  replace ho12 := Own.ext ho12 he19
  replace hr17 := hr17.ext he19
  have hz_he19 := he19.size
  refine wl_val (ov_move rfl) rfl rfl rfl ?_
  refine wl_val (ov_extract rfl rfl) rfl rfl rfl ?_
  refine wl_val (ov_extract rfl rfl) rfl rfl rfl ?_
  refine wl_val (ov_assign rfl) rfl rfl rfl ?_
  refine wl_val (ov_assign rfl) rfl rfl rfl ?_
  refine q_nil ?_
  refine k_then ?_
  refine wc_seq ?_
  refine wc_regionL ?_
  refine wl_val (ov_build (cs := [(.int .u8 0), (.slice none 0 0)]) ze25 pl25 rfl rfl) rfl rfl rfl ?_
  refine wl_step (or_call0 cl19 rfl rfl (fwrite_any _ _ _ (0) _ _ [] (RdB.nil _ 0 0) (by simp))) rfl rfl rfl ?_
  rintro v w7 ⟨A24, c24, rfl, ho24, he24⟩
  replace hE := hE.tr he24
  replace hr10 := hr10.ext he24
  replace ho12 := Own.ext ho12 he24
  replace hr17 := hr17.ext he24
  have hz_he24 := he24.size
  have hq_ho24 := fun g e => Own.lt ho24 (g := g) e
  refine wl_val (ov_move rfl) rfl rfl rfl ?_
  refine wl_val (ov_extract rfl rfl) rfl rfl rfl ?_
  refine wl_val (ov_extract rfl rfl) rfl rfl rfl ?_
  refine wl_val (ov_assign rfl) rfl rfl rfl ?_
  refine wl_val (ov_assign rfl) rfl rfl rfl ?_
  refine q_nil ?_
  refine k_then ?_
  refine wc_seq ?_
  refine wc_seq ?_
  refine wc_regionL ?_
  refine wl_val (ov_move rfl) rfl rfl rfl ?_
  refine wl_val (ov_bstr bt22 Try.underlying9 rfl (OwnB.rd ho12)) rfl rfl rfl ?_
  refine wl_val (ov_sne rfl rfl) rfl rfl rfl ?_
  refine wl_spell (d := 29) rfl (bf (by decide)) ?_
  refine wl_val (ov_move rfl) rfl rfl rfl ?_
  refine wl_gval (ov_move rfl) rfl rfl rfl rfl rfl ?_
  refine wl_gval (ov_neq rfl rfl) rfl rfl rfl rfl rfl ?_
  refine wl_spell (d := 32) rfl (bf (by decide)) ?_
  refine wl_val (ov_pick_f rfl rfl) rfl rfl rfl ?_
  refine wl_val (ov_move rfl) rfl rfl rfl ?_
  refine wl_gval (ov_move rfl) rfl rfl rfl rfl rfl ?_
  refine wl_gval (ov_neq rfl rfl) rfl rfl rfl rfl rfl ?_
  refine wl_spell (d := 36) rfl (bf (by decide)) ?_
  refine wl_val (ov_pick_f rfl rfl) rfl rfl rfl ?_
  refine wl_val (ov_move rfl) rfl rfl rfl ?_
  refine wl_gval (ov_move rfl) rfl rfl rfl rfl rfl ?_
  refine wl_gval (ov_neq rfl rfl) rfl rfl rfl rfl rfl ?_
  refine wl_spell (d := 40) rfl (bf (by decide)) ?_
  refine wl_val (ov_pick_f rfl rfl) rfl rfl rfl ?_
  refine wl_val (ov_move rfl) rfl rfl rfl ?_
  refine wl_gval (ov_move rfl) rfl rfl rfl rfl rfl ?_
  refine wl_gval (ov_bstr bt22 Try.underlying9 rfl (OwnB.rd ho24)) rfl rfl rfl rfl rfl ?_
  refine wl_gval (ov_sne rfl rfl) rfl rfl rfl rfl rfl ?_
  refine wl_spell (d := 45) rfl (bf (by decide)) ?_
  refine wl_val (ov_pick_f rfl rfl) rfl rfl rfl ?_
  refine wl_val (ov_move rfl) rfl rfl rfl ?_
  refine wl_gval (ov_move rfl) rfl rfl rfl rfl rfl ?_
  refine wl_gval (ov_neq rfl rfl) rfl rfl rfl rfl rfl ?_
  refine wl_spell (d := 49) rfl (bf (by decide)) ?_
  refine wl_val (ov_pick_f rfl rfl) rfl rfl rfl ?_
  refine q_nil ?_
  refine k_then ?_
  refine wc_cond_f rfl ?_
  refine q_skip ?_
  refine k_then ?_
  refine wc_seq ?_
  refine wc_regionL ?_
  refine wl_val (ov_build (cs := [(.int .u8 0), (.slice none 0 0)]) ze25 pl25 rfl rfl) rfl rfl rfl ?_
  refine wl_step (or_alloc (cs := [(.int .u8 0), (.slice none 0 0)]) ze25 rfl) rfl rfl rfl ?_
  rintro v w8 ⟨g7, rfl, hb_g7, he7, hl7, hu7⟩
  replace hE := hE.tr he7
  replace hr10 := hr10.ext he7
  replace ho12 := Own.ext ho12 he7
  replace hr17 := hr17.ext he7
  replace ho24 := Own.ext ho24 he7
  have hz_he7 := he7.size
  refine wl_step0 (or_storeBlk (vs := [(.int .u8 0), (.slice none 0 0)]) sz25 rfl rfl (by simp [Value.oneCell']) hb_g7 rfl) rfl rfl ?_
  rintro _ w9 ⟨hN9, hg9⟩
  have hz_hg9 := hg9.size
  replace hE := hE.gr hg9 (fun _ e => by cases e; omega)
  replace hr10 := hr10.gr hg9 (fun _ e => by cases e; omega)
  replace ho12 := Own.gr ho12 hg9 (by first | exact .inl rfl | (right; intro e; first | (have := hq_ho12 _ e; omega) | (have := Own.lt ho12 e; omega) | exact own_blk_ne ho12 hb_g7 (by decide) e))
  replace hr17 := hr17.gr hg9 (fun _ e => by cases e; omega)
  replace ho24 := Own.gr ho24 hg9 (by first | exact .inl rfl | (right; intro e; first | (have := hq_ho24 _ e; omega) | (have := Own.lt ho24 e; omega) | exact own_blk_ne ho24 hb_g7 (by decide) e))
  replace hb_g7 := hN9
  refine q_nil ?_
  refine k_then ?_
  refine wc_seq ?_
  refine wc_seq ?_
  refine wc_regionL ?_
  refine wl_step (or_buildBytes (l := [3, 9, 97, 98, 7]) bt22 (os := [.const (.int .u8 3), .const (.int .u8 9), .const (.int .u8 97), .const (.int .u8 98), .const (.int .u8 7)]) rfl rfl rfl (by decide)) rfl rfl rfl ?_
  rintro v w10 ⟨A52, c52, rfl, ho52, he52⟩
  replace hE := hE.tr he52
  replace hr10 := hr10.ext he52
  replace ho12 := Own.ext ho12 he52
  replace hr17 := hr17.ext he52
  replace ho24 := Own.ext ho24 he52
  replace hb_g7 := hb_g7.ext he52
  have hz_he52 := he52.size
  have hq_ho52 := fun g e => Own.lt ho52 (g := g) e
  refine wl_step (or_buildBytes (l := [97, 98]) bt22 (os := [.const (.int .u8 97), .const (.int .u8 98)]) rfl rfl rfl (by decide)) rfl rfl rfl ?_
  rintro v w11 ⟨A53, c53, rfl, ho53, he53⟩
  replace hE := hE.tr he53
  replace hr10 := hr10.ext he53
  replace ho12 := Own.ext ho12 he53
  replace hr17 := hr17.ext he53
  replace ho24 := Own.ext ho24 he53
  replace hb_g7 := hb_g7.ext he53
  replace ho52 := Own.ext ho52 he53
  have hz_he53 := he53.size
  have hq_ho53 := fun g e => Own.lt ho53 (g := g) e
  refine wl_step (or_markBytes bt22 rfl ho53 (by simp)) rfl rfl rfl ?_
  rintro v w12 ⟨rfl, hr54, he54⟩
  have hz_he54 := he54.size
  replace hE := hE.gr he54 (fun g e => by have := hq_ho53 g e; omega)
  replace hr10 := hr10.gr he54 (fun g e => by have := hq_ho53 g e; omega)
  replace ho12 := Own.gr ho12 he54 (own_apart fun g e g2 e2 => by have := hq_ho12 g e; have := hq_ho53 g2 e2; omega)
  replace hr17 := hr17.gr he54 (fun g e => by have := hq_ho53 g e; omega)
  replace ho24 := Own.gr ho24 he54 (own_apart fun g e g2 e2 => by have := hq_ho24 g e; have := hq_ho53 g2 e2; omega)
  replace hb_g7 := hb_g7.gr he54 (fun e => by have := hq_ho53 _ e; omega)
  replace ho52 := Own.gr ho52 he54 (own_apart fun g e g2 e2 => by have := hq_ho52 g e; have := hq_ho53 g2 e2; omega)
  refine wl_val (ov_build (cs := [(.int .u8 9), (.slice A53 [97, 98].length c53)]) ze25 pl25 rfl rfl) rfl rfl rfl ?_
  refine wl_step (or_call0 cl16 rfl rfl (freads_any _ _ _ _ _ _ _ [3, 9, 97, 98, 7] 2 (by omega) (by omega) (9) _ _ [97, 98] 4 0 (OwnB.rd ho52) hr54 (by simp) (by decide) (by decide) (by decide))) rfl rfl rfl ?_
  rintro v w13 ⟨rfl, he56⟩
  replace hE := hE.tr he56
  replace hr10 := hr10.ext he56
  replace ho12 := Own.ext ho12 he56
  replace hr17 := hr17.ext he56
  replace ho24 := Own.ext ho24 he56
  replace hb_g7 := hb_g7.ext he56
  replace ho52 := Own.ext ho52 he56
  replace hr54 := hr54.ext he56
  have hz_he56 := he56.size
  refine wl_val (ov_not (b := true) rfl) rfl rfl rfl ?_
  refine wl_val (ov_move rfl) rfl rfl rfl ?_
  refine wl_gstep (or_buildBytes (l := [3, 9, 97]) bt22 (os := [.const (.int .u8 3), .const (.int .u8 9), .const (.int .u8 97)]) rfl rfl rfl (by decide)) rfl rfl rfl rfl rfl ?_
  rintro v w14 ⟨A59, c59, rfl, ho59, he59⟩
  replace hE := hE.tr he59
  replace hr10 := hr10.ext he59
  replace ho12 := Own.ext ho12 he59
  replace hr17 := hr17.ext he59
  replace ho24 := Own.ext ho24 he59
  replace hb_g7 := hb_g7.ext he59
  replace ho52 := Own.ext ho52 he59
  replace hr54 := hr54.ext he59
  have hz_he59 := he59.size
  have hq_ho59 := fun g e => Own.lt ho59 (g := g) e
  refine wl_gval (ov_loadBlk (cs := [(.int .u8 0), (.slice none 0 0)]) ag25_2 rfl hb_g7) rfl rfl rfl rfl rfl ?_
  refine wl_gstep (or_call0 cl16 rfl rfl (freads_any _ _ _ _ _ _ _ [3, 9, 97] 2 (by omega) (by omega) (0) _ _ [] 0 4 (OwnB.rd ho59) (RdB.nil _ 0 0) (by simp) (by decide) (by decide) (by decide))) rfl rfl rfl rfl rfl ?_
  rintro v w15 ⟨rfl, he61⟩
  replace hE := hE.tr he61
  replace hr10 := hr10.ext he61
  replace ho12 := Own.ext ho12 he61
  replace hr17 := hr17.ext he61
  replace ho24 := Own.ext ho24 he61
  replace hb_g7 := hb_g7.ext he61
  replace ho52 := Own.ext ho52 he61
  replace hr54 := hr54.ext he61
  replace ho59 := Own.ext ho59 he61
  have hz_he61 := he61.size
  refine wl_gval (ov_not (b := true) rfl) rfl rfl rfl rfl rfl ?_
  refine wl_val (ov_pick_f rfl rfl) rfl rfl rfl ?_
  refine wl_val (ov_move rfl) rfl rfl rfl ?_
  refine wl_gval (ov_loadBlk (cs := [(.int .u8 0), (.slice none 0 0)]) ag25_2 rfl hb_g7) rfl rfl rfl rfl rfl ?_
  refine wl_gstep (or_call0 cl16 rfl rfl (freads_any _ _ _ _ _ _ _ [] 2 (by omega) (by omega) (0) _ _ [] 0 4 (RdB.nil _ 0 0) (RdB.nil _ 0 0) (by simp) (by decide) (by decide) (by decide))) rfl rfl rfl rfl rfl ?_
  rintro v w16 ⟨rfl, he66⟩
  replace hE := hE.tr he66
  replace hr10 := hr10.ext he66
  replace ho12 := Own.ext ho12 he66
  replace hr17 := hr17.ext he66
  replace ho24 := Own.ext ho24 he66
  replace hb_g7 := hb_g7.ext he66
  replace ho52 := Own.ext ho52 he66
  replace hr54 := hr54.ext he66
  replace ho59 := Own.ext ho59 he66
  have hz_he66 := he66.size
  refine wl_gval (ov_not (b := true) rfl) rfl rfl rfl rfl rfl ?_
  refine wl_val (ov_pick_f rfl rfl) rfl rfl rfl ?_
  refine wl_val (ov_move rfl) rfl rfl rfl ?_
  refine wl_gstep (or_buildBytes (l := [1, 0]) bt22 (os := [.const (.int .u8 1), .const (.int .u8 0)]) rfl rfl rfl (by decide)) rfl rfl rfl rfl rfl ?_
  rintro v w17 ⟨A70, c70, rfl, ho70, he70⟩
  replace hE := hE.tr he70
  replace hr10 := hr10.ext he70
  replace ho12 := Own.ext ho12 he70
  replace hr17 := hr17.ext he70
  replace ho24 := Own.ext ho24 he70
  replace hb_g7 := hb_g7.ext he70
  replace ho52 := Own.ext ho52 he70
  replace hr54 := hr54.ext he70
  replace ho59 := Own.ext ho59 he70
  have hz_he70 := he70.size
  have hq_ho70 := fun g e => Own.lt ho70 (g := g) e
  refine wl_gval (ov_loadBlk (cs := [(.int .u8 0), (.slice none 0 0)]) ag25_2 rfl hb_g7) rfl rfl rfl rfl rfl ?_
  refine wl_gstep (or_call0 cl16 rfl rfl (freads_any _ _ _ _ _ _ _ [1, 0] 0 (by omega) (by omega) (0) _ _ [] 2 0 (OwnB.rd ho70) (RdB.nil _ 0 0) (by simp) (by decide) (by decide) (by decide))) rfl rfl rfl rfl rfl ?_
  rintro v w18 ⟨rfl, he72⟩
  replace hE := hE.tr he72
  replace hr10 := hr10.ext he72
  replace ho12 := Own.ext ho12 he72
  replace hr17 := hr17.ext he72
  replace ho24 := Own.ext ho24 he72
  replace hb_g7 := hb_g7.ext he72
  replace ho52 := Own.ext ho52 he72
  replace hr54 := hr54.ext he72
  replace ho59 := Own.ext ho59 he72
  replace ho70 := Own.ext ho70 he72
  have hz_he72 := he72.size
  refine wl_gval (ov_not (b := true) rfl) rfl rfl rfl rfl rfl ?_
  refine wl_val (ov_pick_f rfl rfl) rfl rfl rfl ?_
  refine q_nil ?_
  refine k_then ?_
  refine wc_cond_f rfl ?_
  refine q_skip ?_
  refine k_then ?_
  refine wc_seq ?_
  refine wc_seq ?_
  refine wc_regionL ?_
  refine wl_step (or_buildBytes (l := [3, 9, 97, 98]) bt22 (os := [.const (.int .u8 3), .const (.int .u8 9), .const (.int .u8 97), .const (.int .u8 98)]) rfl rfl rfl (by decide)) rfl rfl rfl ?_
  rintro v w19 ⟨A75, c75, rfl, ho75, he75⟩
  replace hE := hE.tr he75
  replace hr10 := hr10.ext he75
  replace ho12 := Own.ext ho12 he75
  replace hr17 := hr17.ext he75
  replace ho24 := Own.ext ho24 he75
  replace hb_g7 := hb_g7.ext he75
  replace ho52 := Own.ext ho52 he75
  replace hr54 := hr54.ext he75
  replace ho59 := Own.ext ho59 he75
  replace ho70 := Own.ext ho70 he75
  have hz_he75 := he75.size
  have hq_ho75 := fun g e => Own.lt ho75 (g := g) e
  refine wl_val (ov_loadBlk (cs := [(.int .u8 0), (.slice none 0 0)]) ag25_2 rfl hb_g7) rfl rfl rfl ?_
  refine wl_step (or_call0 cl16 rfl rfl (freads_any _ _ _ _ _ _ _ [3, 9, 97, 98] 1 (by omega) (by omega) (0) _ _ [] 0 5 (OwnB.rd ho75) (RdB.nil _ 0 0) (by simp) (by decide) (by decide) (by decide))) rfl rfl rfl ?_
  rintro v w20 ⟨rfl, he77⟩
  replace hE := hE.tr he77
  replace hr10 := hr10.ext he77
  replace ho12 := Own.ext ho12 he77
  replace hr17 := hr17.ext he77
  replace ho24 := Own.ext ho24 he77
  replace hb_g7 := hb_g7.ext he77
  replace ho52 := Own.ext ho52 he77
  replace hr54 := hr54.ext he77
  replace ho59 := Own.ext ho59 he77
  replace ho70 := Own.ext ho70 he77
  replace ho75 := Own.ext ho75 he77
  have hz_he77 := he77.size
  refine wl_val (ov_not (b := true) rfl) rfl rfl rfl ?_
  refine wl_val (ov_move rfl) rfl rfl rfl ?_
  refine wl_gstep (or_buildBytes (l := [3]) bt22 (os := [.const (.int .u8 3)]) rfl rfl rfl (by decide)) rfl rfl rfl rfl rfl ?_
  rintro v w21 ⟨A80, c80, rfl, ho80, he80⟩
  replace hE := hE.tr he80
  replace hr10 := hr10.ext he80
  replace ho12 := Own.ext ho12 he80
  replace hr17 := hr17.ext he80
  replace ho24 := Own.ext ho24 he80
  replace hb_g7 := hb_g7.ext he80
  replace ho52 := Own.ext ho52 he80
  replace hr54 := hr54.ext he80
  replace ho59 := Own.ext ho59 he80
  replace ho70 := Own.ext ho70 he80
  replace ho75 := Own.ext ho75 he80
  have hz_he80 := he80.size
  have hq_ho80 := fun g e => Own.lt ho80 (g := g) e
  refine wl_gval (ov_loadBlk (cs := [(.int .u8 0), (.slice none 0 0)]) ag25_2 rfl hb_g7) rfl rfl rfl rfl rfl ?_
  refine wl_gstep (or_call0 cl16 rfl rfl (freads_any _ _ _ _ _ _ _ [3] 1 (by omega) (by omega) (0) _ _ [] 0 5 (OwnB.rd ho80) (RdB.nil _ 0 0) (by simp) (by decide) (by decide) (by decide))) rfl rfl rfl rfl rfl ?_
  rintro v w22 ⟨rfl, he82⟩
  replace hE := hE.tr he82
  replace hr10 := hr10.ext he82
  replace ho12 := Own.ext ho12 he82
  replace hr17 := hr17.ext he82
  replace ho24 := Own.ext ho24 he82
  replace hb_g7 := hb_g7.ext he82
  replace ho52 := Own.ext ho52 he82
  replace hr54 := hr54.ext he82
  replace ho59 := Own.ext ho59 he82
  replace ho70 := Own.ext ho70 he82
  replace ho75 := Own.ext ho75 he82
  replace ho80 := Own.ext ho80 he82
  have hz_he82 := he82.size
  refine wl_gval (ov_not (b := true) rfl) rfl rfl rfl rfl rfl ?_
  refine wl_val (ov_pick_f rfl rfl) rfl rfl rfl ?_
  refine wl_val (ov_move rfl) rfl rfl rfl ?_
  refine wl_gstep (or_buildBytes (l := [0, 5]) bt22 (os := [.const (.int .u8 0), .const (.int .u8 5)]) rfl rfl rfl (by decide)) rfl rfl rfl rfl rfl ?_
  rintro v w23 ⟨A86, c86, rfl, ho86, he86⟩
  replace hE := hE.tr he86
  replace hr10 := hr10.ext he86
  replace ho12 := Own.ext ho12 he86
  replace hr17 := hr17.ext he86
  replace ho24 := Own.ext ho24 he86
  replace hb_g7 := hb_g7.ext he86
  replace ho52 := Own.ext ho52 he86
  replace hr54 := hr54.ext he86
  replace ho59 := Own.ext ho59 he86
  replace ho70 := Own.ext ho70 he86
  replace ho75 := Own.ext ho75 he86
  replace ho80 := Own.ext ho80 he86
  have hz_he86 := he86.size
  have hq_ho86 := fun g e => Own.lt ho86 (g := g) e
  refine wl_gval (ov_loadBlk (cs := [(.int .u8 0), (.slice none 0 0)]) ag25_2 rfl hb_g7) rfl rfl rfl rfl rfl ?_
  refine wl_gstep (or_call0 cl16 rfl rfl (freads_any _ _ _ _ _ _ _ [0, 5] 2 (by omega) (by omega) (0) _ _ [] 0 6 (OwnB.rd ho86) (RdB.nil _ 0 0) (by simp) (by decide) (by decide) (by decide))) rfl rfl rfl rfl rfl ?_
  rintro v w24 ⟨rfl, he88⟩
  replace hE := hE.tr he88
  replace hr10 := hr10.ext he88
  replace ho12 := Own.ext ho12 he88
  replace hr17 := hr17.ext he88
  replace ho24 := Own.ext ho24 he88
  replace hb_g7 := hb_g7.ext he88
  replace ho52 := Own.ext ho52 he88
  replace hr54 := hr54.ext he88
  replace ho59 := Own.ext ho59 he88
  replace ho70 := Own.ext ho70 he88
  replace ho75 := Own.ext ho75 he88
  replace ho80 := Own.ext ho80 he88
  replace ho86 := Own.ext ho86 he88
  have hz_he88 := he88.size
  refine wl_gval (ov_not (b := true) rfl) rfl rfl rfl rfl rfl ?_
  refine wl_val (ov_pick_f rfl rfl) rfl rfl rfl ?_
  refine wl_val (ov_move rfl) rfl rfl rfl ?_
  refine wl_gstep (or_buildBytes (l := [128, 0]) bt22 (os := [.const (.int .u8 128), .const (.int .u8 0)]) rfl rfl rfl (by decide)) rfl rfl rfl rfl rfl ?_
  rintro v w25 ⟨A92, c92, rfl, ho92, he92⟩
  replace hE := hE.tr he92
  replace hr10 := hr10.ext he92
  replace ho12 := Own.ext ho12 he92
  replace hr17 := hr17.ext he92
  replace ho24 := Own.ext ho24 he92
  replace hb_g7 := hb_g7.ext he92
  replace ho52 := Own.ext ho52 he92
  replace hr54 := hr54.ext he92
  replace ho59 := Own.ext ho59 he92
  replace ho70 := Own.ext ho70 he92
  replace ho75 := Own.ext ho75 he92
  replace ho80 := Own.ext ho80 he92
  replace ho86 := Own.ext ho86 he92
  have hz_he92 := he92.size
  have hq_ho92 := fun g e => Own.lt ho92 (g := g) e
  refine wl_gval (ov_loadBlk (cs := [(.int .u8 0), (.slice none 0 0)]) ag25_2 rfl hb_g7) rfl rfl rfl rfl rfl ?_
  refine wl_gstep (or_call0 cl16 rfl rfl (freads_any _ _ _ _ _ _ _ [128, 0] 2 (by omega) (by omega) (0) _ _ [] 0 5 (OwnB.rd ho92) (RdB.nil _ 0 0) (by simp) (by decide) (by decide) (by decide))) rfl rfl rfl rfl rfl ?_
  rintro v w26 ⟨rfl, he94⟩
  replace hE := hE.tr he94
  replace hr10 := hr10.ext he94
  replace ho12 := Own.ext ho12 he94
  replace hr17 := hr17.ext he94
  replace ho24 := Own.ext ho24 he94
  replace hb_g7 := hb_g7.ext he94
  replace ho52 := Own.ext ho52 he94
  replace hr54 := hr54.ext he94
  replace ho59 := Own.ext ho59 he94
  replace ho70 := Own.ext ho70 he94
  replace ho75 := Own.ext ho75 he94
  replace ho80 := Own.ext ho80 he94
  replace ho86 := Own.ext ho86 he94
  replace ho92 := Own.ext ho92 he94
  have hz_he94 := he94.size
  refine wl_gval (ov_not (b := true) rfl) rfl rfl rfl rfl rfl ?_
  refine wl_val (ov_pick_f rfl rfl) rfl rfl rfl ?_
  refine wl_val (ov_move rfl) rfl rfl rfl ?_
  refine wl_gstep (or_buildBytes (l := [128]) bt22 (os := [.const (.int .u8 128)]) rfl rfl rfl (by decide)) rfl rfl rfl rfl rfl ?_
  rintro v w27 ⟨A98, c98, rfl, ho98, he98⟩
  replace hE := hE.tr he98
  replace hr10 := hr10.ext he98
  replace ho12 := Own.ext ho12 he98
  replace hr17 := hr17.ext he98
  replace ho24 := Own.ext ho24 he98
  replace hb_g7 := hb_g7.ext he98
  replace ho52 := Own.ext ho52 he98
  replace hr54 := hr54.ext he98
  replace ho59 := Own.ext ho59 he98
  replace ho70 := Own.ext ho70 he98
  replace ho75 := Own.ext ho75 he98
  replace ho80 := Own.ext ho80 he98
  replace ho86 := Own.ext ho86 he98
  replace ho92 := Own.ext ho92 he98
  have hz_he98 := he98.size
  have hq_ho98 := fun g e => Own.lt ho98 (g := g) e
  refine wl_gval (ov_loadBlk (cs := [(.int .u8 0), (.slice none 0 0)]) ag25_2 rfl hb_g7) rfl rfl rfl rfl rfl ?_
  refine wl_gstep (or_call0 cl16 rfl rfl (freads_any _ _ _ _ _ _ _ [128] 2 (by omega) (by omega) (0) _ _ [] 0 4 (OwnB.rd ho98) (RdB.nil _ 0 0) (by simp) (by decide) (by decide) (by decide))) rfl rfl rfl rfl rfl ?_
  rintro v w28 ⟨rfl, he100⟩
  replace hE := hE.tr he100
  replace hr10 := hr10.ext he100
  replace ho12 := Own.ext ho12 he100
  replace hr17 := hr17.ext he100
  replace ho24 := Own.ext ho24 he100
  replace hb_g7 := hb_g7.ext he100
  replace ho52 := Own.ext ho52 he100
  replace hr54 := hr54.ext he100
  replace ho59 := Own.ext ho59 he100
  replace ho70 := Own.ext ho70 he100
  replace ho75 := Own.ext ho75 he100
  replace ho80 := Own.ext ho80 he100
  replace ho86 := Own.ext ho86 he100
  replace ho92 := Own.ext ho92 he100
  replace ho98 := Own.ext ho98 he100
  have hz_he100 := he100.size
  refine wl_gval (ov_not (b := true) rfl) rfl rfl rfl rfl rfl ?_
  refine wl_val (ov_pick_f rfl rfl) rfl rfl rfl ?_
  refine wl_val (ov_move rfl) rfl rfl rfl ?_
  refine wl_gstep (or_buildBytes (l := [3, 9, 97, 98]) bt22 (os := [.const (.int .u8 3), .const (.int .u8 9), .const (.int .u8 97), .const (.int .u8 98)]) rfl rfl rfl (by decide)) rfl rfl rfl rfl rfl ?_
  rintro v w29 ⟨A104, c104, rfl, ho104, he104⟩
  replace hE := hE.tr he104
  replace hr10 := hr10.ext he104
  replace ho12 := Own.ext ho12 he104
  replace hr17 := hr17.ext he104
  replace ho24 := Own.ext ho24 he104
  replace hb_g7 := hb_g7.ext he104
  replace ho52 := Own.ext ho52 he104
  replace hr54 := hr54.ext he104
  replace ho59 := Own.ext ho59 he104
  replace ho70 := Own.ext ho70 he104
  replace ho75 := Own.ext ho75 he104
  replace ho80 := Own.ext ho80 he104
  replace ho86 := Own.ext ho86 he104
  replace ho92 := Own.ext ho92 he104
  replace ho98 := Own.ext ho98 he104
  have hz_he104 := he104.size
  have hq_ho104 := fun g e => Own.lt ho104 (g := g) e
  refine wl_gval (ov_loadBlk (cs := [(.int .u8 0), (.slice none 0 0)]) ag25_2 rfl hb_g7) rfl rfl rfl rfl rfl ?_
  refine wl_gstep (or_call0 cl16 rfl rfl (freads_any _ _ _ _ _ _ _ [3, 9, 97, 98] (-1) (by omega) (by omega) (0) _ _ [] 0 2 (OwnB.rd ho104) (RdB.nil _ 0 0) (by simp) (by decide) (by decide) (by decide))) rfl rfl rfl rfl rfl ?_
  rintro v w30 ⟨rfl, he106⟩
  replace hE := hE.tr he106
  replace hr10 := hr10.ext he106
  replace ho12 := Own.ext ho12 he106
  replace hr17 := hr17.ext he106
  replace ho24 := Own.ext ho24 he106
  replace hb_g7 := hb_g7.ext he106
  replace ho52 := Own.ext ho52 he106
  replace hr54 := hr54.ext he106
  replace ho59 := Own.ext ho59 he106
  replace ho70 := Own.ext ho70 he106
  replace ho75 := Own.ext ho75 he106
  replace ho80 := Own.ext ho80 he106
  replace ho86 := Own.ext ho86 he106
  replace ho92 := Own.ext ho92 he106
  replace ho98 := Own.ext ho98 he106
  replace ho104 := Own.ext ho104 he106
  have hz_he106 := he106.size
  refine wl_gval (ov_not (b := true) rfl) rfl rfl rfl rfl rfl ?_
  refine wl_val (ov_pick_f rfl rfl) rfl rfl rfl ?_
  refine q_nil ?_
  refine k_then ?_
  refine wc_cond_f rfl ?_
  refine q_skip ?_
  refine k_then ?_
  refine wc_seq ?_
  refine wc_regionL ?_
  refine wl_step (or_call0 cl41 rfl rfl (fsizes_any _ 127 130 0 (by omega) (by decide) (by decide))) rfl rfl rfl ?_
  rintro v w31 ⟨rfl, he109⟩
  replace hE := hE.tr he109
  replace hr10 := hr10.ext he109
  replace ho12 := Own.ext ho12 he109
  replace hr17 := hr17.ext he109
  replace ho24 := Own.ext ho24 he109
  replace hb_g7 := hb_g7.ext he109
  replace ho52 := Own.ext ho52 he109
  replace hr54 := hr54.ext he109
  replace ho59 := Own.ext ho59 he109
  replace ho70 := Own.ext ho70 he109
  replace ho75 := Own.ext ho75 he109
  replace ho80 := Own.ext ho80 he109
  replace ho86 := Own.ext ho86 he109
  replace ho92 := Own.ext ho92 he109
  replace ho98 := Own.ext ho98 he109
  replace ho104 := Own.ext ho104 he109
  have hz_he109 := he109.size
  refine wl_val (ov_move rfl) rfl rfl rfl ?_
  refine wl_gstep (or_call0 cl41 rfl rfl (fsizes_any _ 2097152 2097157 0 (by omega) (by decide) (by decide))) rfl rfl rfl rfl rfl ?_
  rintro v w32 ⟨rfl, he111⟩
  replace hE := hE.tr he111
  replace hr10 := hr10.ext he111
  replace ho12 := Own.ext ho12 he111
  replace hr17 := hr17.ext he111
  replace ho24 := Own.ext ho24 he111
  replace hb_g7 := hb_g7.ext he111
  replace ho52 := Own.ext ho52 he111
  replace hr54 := hr54.ext he111
  replace ho59 := Own.ext ho59 he111
  replace ho70 := Own.ext ho70 he111
  replace ho75 := Own.ext ho75 he111
  replace ho80 := Own.ext ho80 he111
  replace ho86 := Own.ext ho86 he111
  replace ho92 := Own.ext ho92 he111
  replace ho98 := Own.ext ho98 he111
  replace ho104 := Own.ext ho104 he111
  have hz_he111 := he111.size
  refine wl_val (ov_pick_t rfl rfl) rfl rfl rfl ?_
  refine wl_val (ov_move rfl) rfl rfl rfl ?_
  refine wl_gstep (or_call0 cl41 rfl rfl (fsizes_any _ 2097153 0 5 (by omega) (by decide) (by decide))) rfl rfl rfl rfl rfl ?_
  rintro v w33 ⟨rfl, he114⟩
  replace hE := hE.tr he114
  replace hr10 := hr10.ext he114
  replace ho12 := Own.ext ho12 he114
  replace hr17 := hr17.ext he114
  replace ho24 := Own.ext ho24 he114
  replace hb_g7 := hb_g7.ext he114
  replace ho52 := Own.ext ho52 he114
  replace hr54 := hr54.ext he114
  replace ho59 := Own.ext ho59 he114
  replace ho70 := Own.ext ho70 he114
  replace ho75 := Own.ext ho75 he114
  replace ho80 := Own.ext ho80 he114
  replace ho86 := Own.ext ho86 he114
  replace ho92 := Own.ext ho92 he114
  replace ho98 := Own.ext ho98 he114
  replace ho104 := Own.ext ho104 he114
  have hz_he114 := he114.size
  refine wl_val (ov_pick_t rfl rfl) rfl rfl rfl ?_
  refine wl_val (ov_assign rfl) rfl rfl rfl ?_
  refine q_nil ?_
  refine k_then ?_
  refine q_ret ?_
  refine e_ret rfl rfl ?_
  exact ⟨rfl, hE⟩

end Go.Proofs.Ytfniipfdpoeapaa
