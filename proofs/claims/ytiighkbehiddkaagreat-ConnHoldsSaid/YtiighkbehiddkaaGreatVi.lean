/-
 The contracts of the varint functions: what each returns and what it leaves of memory. Conditions: the sizes of what came in, and that it reads as bytes.
-/
import Derived.Test.YtiighkbehiddkaaGreatRows
import Derived.Test.YtiighkbehiddkaaGreatPlain
import Derived.Test.YtiighkbehiddkaaGreatDraw
namespace Go.Proofs.YtiighkbehiddkaaGreat
open Go.RowKit
set_option linter.unusedVariables false
set_option maxRecDepth 4000
theorem bt32 : ByteTy Tryz.prog 32 5 := ⟨sliceTy_mk Tryz.underlying32 (by kernel_rfl) rfl (by decide), Tryz.underlying5⟩
theorem cl102 : callable Tryz.prog 102 = true := by kernel_rfl
theorem cl47 : callable Tryz.prog 47 = true := by kernel_rfl
theorem cl76 : callable Tryz.prog 76 = true := by kernel_rfl
theorem cl77 : callable Tryz.prog 77 = true := by kernel_rfl
theorem cl92 : callable Tryz.prog 92 = true := by kernel_rfl
theorem oc5 : oneCellTy Tryz.prog 5 = true := by kernel_rfl
theorem slclone_any (w : World) (lo hi : Nat) (A : Option Addr) (c : Nat) (l : List UInt8) (hr : RdB w lo hi A c l) (hlen : l.length ≤ 140737488355328) :
  Fn Tryz.prog 47 #[(.slice A l.length c)] w (FreshB w 5 l)  := by
 replace hr := hr.top
 refine fn_enter (args := [(.slice A l.length c)]) Tryz.func47 rfl rfl rfl ?_
 show WC _ _ _ _ [(0, (.slice A l.length c))] _
 refine wc_seq (wc_regionL ?_)
 refine va rfl rfl ?_
 refine q_nil (k_then (wc_seq (wc_seq (wc_regionL ?_))))
 refine vm rfl rfl ?_
 refine wl_val (ov_nilslice Tryz.underlying32 rfl) rfl rfl rfl ?_
 refine q_nil (k_then ?_)
 refine wc_cond rfl (fun hc1 => ?_) (fun hc1 => ?_)
 ·have hA : A = none := by cases A <;> simp_all
  subst hA
  have hl : l = [] := RdB.nil_eq hr
  subst hl
  refine wc_seq (wc_regionL ?_)
  refine va rfl rfl ?_
  refine q_nil (k_then (q_ret (k_thenR ?_)))
  refine e_ret rfl rfl ?_
  exact ⟨none, 0, rfl, Own.nil_ w w.heap.size _ _, ext_refl w⟩
 ·refine q_skip (k_then (wc_seq (wc_regionL ?_)))
  refine wl_step (or_buildBytes (l := []) bt32 (os := []) rfl rfl rfl (by decide)) rfl rfl rfl ?_
  rintro v w201 ⟨A5, c5, rfl, ho5, he5⟩
  replace hr := hr.ext he5
  have hz_he5 := he5.size
  refine vm rfl rfl ?_
  refine wl_step (or_bappend bt32 rfl ho5 rfl hr ((by simpa using hlen)) (by omega)) rfl rfl rfl ?_
  rintro v w202 ⟨A7, c7, rfl, ho7, hg7, ha7⟩
  have hq7 := fun g e => Own.lt ho5 (g := g) e
  have hz_hg7 := hg7.size
  rw [show [] ++ l = l from by simp] at ho7; rw [show [] ++ l = l from by simp]
  refine va rfl rfl ?_
  refine q_nil (k_then (q_ret ?_))
  refine e_ret rfl rfl ?_
  exact ⟨A7, c7, rfl, Own.mono ho7 (by omega), he5.gr hg7 (fun g e => (hq7 g e).1)⟩
theorem byclone_any (w : World) (lo hi : Nat) (A : Option Addr) (c : Nat) (l : List UInt8) (hr : RdB w lo hi A c l) (hlen : l.length ≤ 140737488355328) :
  Fn Tryz.prog 76 #[(.slice A l.length c)] w (FreshB w 5 l)  := by
 replace hr := hr.top
 refine fn_enter (args := [(.slice A l.length c)]) Tryz.func76 rfl rfl rfl ?_
 show WC _ _ _ _ [(0, (.slice A l.length c))] _
 refine wc_seq (wc_regionL ?_)
 refine va rfl rfl ?_
 refine q_nil (k_then (wc_seq (wc_seq (wc_regionL ?_))))
 refine vm rfl rfl ?_
 refine wl_val (ov_nilslice Tryz.underlying32 rfl) rfl rfl rfl ?_
 refine q_nil (k_then ?_)
 refine wc_cond rfl (fun hc1 => ?_) (fun hc1 => ?_)
 ·have hA : A = none := by cases A <;> simp_all
  subst hA
  have hl : l = [] := RdB.nil_eq hr
  subst hl
  refine wc_seq (wc_regionL ?_)
  refine va rfl rfl ?_
  refine q_nil (k_then (q_ret (k_thenR ?_)))
  refine e_ret rfl rfl ?_
  exact ⟨none, 0, rfl, Own.nil_ w w.heap.size _ _, ext_refl w⟩
 ·refine q_skip (k_then (wc_seq (wc_regionL ?_)))
  refine wl_step (or_buildBytes (l := []) bt32 (os := []) rfl rfl rfl (by decide)) rfl rfl rfl ?_
  rintro v w201 ⟨A5, c5, rfl, ho5, he5⟩
  replace hr := hr.ext he5
  have hz_he5 := he5.size
  refine vm rfl rfl ?_
  refine wl_step (or_bappend bt32 rfl ho5 rfl hr ((by simpa using hlen)) (by omega)) rfl rfl rfl ?_
  rintro v w202 ⟨A7, c7, rfl, ho7, hg7, ha7⟩
  have hq7 := fun g e => Own.lt ho5 (g := g) e
  have hz_hg7 := hg7.size
  rw [show [] ++ l = l from by simp] at ho7; rw [show [] ++ l = l from by simp]
  refine va rfl rfl ?_
  refine q_nil (k_then (q_ret ?_))
  refine e_ret rfl rfl ?_
  exact ⟨A7, c7, rfl, Own.mono ho7 (by omega), he5.gr hg7 (fun g e => (hq7 g e).1)⟩
theorem put_any (w : World) (lo hi : Nat) (A : Option Addr) (c : Nat) (l : List UInt8) (n : Nat) (hr : RdB w lo hi A c l) (hlen : l.length ≤ 140737488355000) (hn : n < 18446744073709551616) :
  Fn Tryz.prog 92 #[(.slice A l.length c), (.int .u64 (↑n : Int))] w (FreshB w 5 (l ++ enc n))  := by
 replace hr := hr.top
 refine fn_enter (args := [(.slice A l.length c), (.int .u64 (↑n : Int))]) Tryz.func92 rfl rfl rfl ?_
 show WC _ _ _ _ [(0, (.slice A l.length c)), (1, (.int .u64 (↑n : Int)))] _
 refine wc_seq (wc_regionL ?_)
 refine va rfl rfl ?_
 refine q_nil (k_then (wc_seq (wc_regionL ?_)))
 refine vm rfl rfl ?_
 refine wl_step (or_call0 cl47 rfl rfl (slclone_any _ _ _ _ _ _ hr (by omega))) rfl rfl rfl ?_
 rintro v w1 ⟨A7, c7, rfl, ho7, he7⟩
 have hz_he7 := he7.size
 refine va rfl rfl ?_
 refine q_nil (k_then (wc_seq (wc_block ?_)))
 refine wc_loop (σ := Nat × List UInt8 × Option Addr × Nat) (fun s => s.1) (fun s => [(1, .int .u64 (s.1 : Int)), (5, .slice s.2.2.1 s.2.1.length s.2.2.2)]) (fun s w' => OwnB w' w.heap.size 5 s.2.2.1 s.2.2.2 s.2.1 ∧ Ext w w' ∧ s.1 < 18446744073709551616 ∧ l ++ enc n = s.2.1 ++ enc s.1) ((n, l, A7, c7)) (⟨ho7, he7, hn, rfl⟩) (⟨rfl, rfl, trivial⟩) ?_
 rintro ⟨m, out, A1, c1⟩ w1 ⟨ho, hE, hm, heq⟩
 show WC _ _ _ _ [(1, (.int .u64 (↑m : Int))), (5, (.slice A1 out.length c1))] _
 have hz_E := hE.size
 have hlen2 := congrArg List.length heq
 simp only [List.length_append] at hlen2
 have hl1 := enc_len n
 have hl2 := enc_len m
 simp only at hm
 refine wc_seq (wc_seq (wc_regionL ?_))
 refine vm rfl rfl ?_
 refine wl_val (ov_gtr rfl rfl) rfl rfl rfl ?_
 refine q_nil (k_then ?_)
 refine wc_cond_d rfl (fun hc1 => ?_) (fun hc1 => ?_)
 ·refine q_skip (k_then (wc_seq (wc_block (wc_regionL ?_))))
  iterate 2 refine vm rfl rfl ?_
  refine wl_val (ov_conv Tryz.underlying36 Tryz.underlying5 rfl (wu8n m)) rfl rfl rfl ?_
  refine wl_val (ov_bits (.inr (.inl rfl)) rfl rfl (or128b m)) rfl rfl rfl ?_
  refine wl_step (or_buildBytes (l := [UInt8.ofNat (128 + m % 128)]) bt32 (os := [.tmp 15]) rfl rfl rfl (by decide)) rfl rfl rfl ?_
  rintro v w2 ⟨A16, c16, rfl, ho16, he16⟩
  replace ho := Own.ext ho he16
  replace hE := hE.tr he16
  have hz_he16 := he16.size
  refine wl_step (or_bappend bt32 rfl ho rfl (OwnB.rd ho16) (by simp; omega) (by omega)) rfl rfl rfl ?_
  rintro v w3 ⟨A17, c17, rfl, ho17, hg17, ha17⟩
  have hq17 := fun g e => Own.lt ho (g := g) e
  have hz_hg17 := hg17.size
  replace hE := hE.gr hg17 (fun g e => by have := hq17 g e; omega)
  refine va rfl rfl ?_
  refine q_nil (k_block (k_then (wc_regionL ?_)))
  refine vm rfl rfl ?_
  refine wl_val (ov_shr rfl rfl (by omega) (by simp [IntKind.bits]) (shr7 m)) rfl rfl rfl ?_
  refine va rfl rfl ?_
  refine q_nil ?_
  refine k_loop ((m / 128, out ++ [UInt8.ofNat (128 + m % 128)], A17, c17)) (by show m / 128 < m; omega) (⟨rfl, rfl, trivial⟩) (⟨ho17, hE, by show m / 128 < _; omega, by show _ = (out ++ [_]) ++ _; rw [heq, enc_big m (by omega) hm]; simp⟩)
 ·refine q_exit (k_thenX (k_thenX (k_blockE (k_then (wc_seq (wc_regionL ?_))))))
  iterate 2 refine vm rfl rfl ?_
  refine wl_val (ov_conv Tryz.underlying36 Tryz.underlying5 rfl (wu8o m)) rfl rfl rfl ?_
  refine wl_step (or_buildBytes (l := [UInt8.ofNat m]) bt32 (os := [.tmp 20]) rfl rfl rfl (by decide)) rfl rfl rfl ?_
  rintro v w202 ⟨A21, c21, rfl, ho21, he21⟩
  replace ho := Own.ext ho he21
  replace hE := hE.tr he21
  have hz_he21 := he21.size
  refine wl_step (or_bappend bt32 rfl ho rfl (OwnB.rd ho21) (by simp; omega) (by omega)) rfl rfl rfl ?_
  rintro v w203 ⟨A22, c22, rfl, ho22, hg22, ha22⟩
  have hq22 := fun g e => Own.lt ho (g := g) e
  have hz_hg22 := hg22.size
  replace hE := hE.gr hg22 (fun g e => by have := hq22 g e; omega)
  refine va rfl rfl ?_
  refine q_nil (k_then (q_ret ?_))
  refine e_ret rfl rfl ?_
  rw [heq, enc_small m (by omega)]
  exact ⟨A22, c22, rfl, ho22, hE⟩
theorem get_any (w : World) (lo hi : Nat) (A : Option Addr) (c : Nat) (l : List UInt8) (hr : RdB w lo hi A c l) :
  Fn Tryz.prog 102 #[(.slice A l.length c)] w (fun v w' => v = vgetT l ∧ w' = w)  := by
 have hcap := RdB.cap hr
 refine fn_enter (args := [(.slice A l.length c)]) Tryz.func102 rfl rfl rfl ?_
 show WC _ _ _ _ [(0, (.slice A l.length c))] _
 refine wc_seq (wc_regionL ?_)
 iterate 3 refine va rfl rfl ?_
 refine q_nil (k_then (wc_seq (wc_seq (wc_regionL ?_))))
 refine vm rfl rfl ?_
 refine wl_val (ov_len Tryz.underlying32 rfl) rfl rfl rfl ?_
 refine vm rfl rfl ?_
 refine q_nil (k_then (wc_block ?_))
 refine wc_loop (σ := Nat × Nat) (fun s => l.length - s.1) (fun s => [(2, .int .u64 (s.2 : Int)), (7, .slice A l.length c), (8, .int .i64 (l.length : Int)), (9, .int .i64 (s.1 : Int))]) (fun s w' => w' = w ∧ s.1 ≤ l.length ∧ s.1 ≤ 9 ∧ s.2 < 128 ^ s.1 ∧ vget l = vgetF s.1 s.2 (l.drop s.1)) ((0, 0)) (⟨rfl, Nat.zero_le _, by decide, by decide, rfl⟩) (⟨rfl, rfl, rfl, rfl, trivial⟩) ?_
 rintro ⟨k, acc⟩ _ ⟨rfl, hk, hk9, hacc, hv⟩
 show WC _ _ _ _ [(2, (.int .u64 (↑acc : Int))), (7, (.slice A l.length c)), (8, (.int .i64 (↑l.length : Int))), (9, (.int .i64 (↑k : Int)))] _
 simp only at hk hk9 hacc hv
 refine wc_seq (wc_regionL ?_)
 refine wl_val (ov_lss rfl rfl) rfl rfl rfl ?_
 refine q_nil (k_then (wc_seq ?_))
 refine wc_cond_d rfl (fun hc1 => ?_) (fun hc1 => ?_)
 ·have hkl : k < l.length := by omega
  refine q_skip (k_then (wc_seq (wc_block (wc_seq (wc_regionL ?_)))))
  refine vm rfl rfl ?_
  refine wl_step (or_bindex bt32 rfl rfl hr (by omega) (by omega)) rfl rfl rfl ?_
  rintro v _ ⟨rfl, p12, rfl, hp12, hpl12, hph12⟩
  replace hp12 : World.cell? _ p12 = some (u8v (l.getD k 0)) := hp12
  refine wl_val (ov_load oc5 rfl hp12) rfl rfl rfl ?_
  have hx := (l.getD k 0).toNat_lt
  have hx : (l.getD k 0).toNat < 256 := hx
  iterate 2 refine va rfl rfl ?_
  refine q_nil (k_then (wc_seq (wc_block (wc_seq (wc_seq (wc_regionL ?_))))))
  refine vm rfl rfl ?_
  refine ve rfl rfl rfl ?_
  refine wl_case_d (d := 16) rfl (fun h9 => ?_) (fun h9 => ?_)
  ·refine vm rfl rfl ?_
   refine wl_gval (ov_move rfl) rfl rfl rfl rfl rfl ?_
   refine wl_gval (ov_gtr rfl rfl) rfl rfl rfl rfl rfl ?_
   refine wl_case_d (d := 19) rfl (fun hb => ?_) (fun hb => ?_)
   ·refine wl_val (ov_pick_t rfl rfl) rfl rfl rfl ?_
    refine va rfl rfl ?_
    refine q_nil (k_then ?_)
    refine wc_cond_t rfl ?_
    refine q_skip (k_then ?_)
    refine wc_cond_t rfl ?_
    refine wc_seq (wc_regionL ?_)
    iterate 3 refine va rfl rfl ?_
    refine q_nil (k_then (q_ret (k_blockR (k_thenR (k_blockR (k_thenR (k_thenR (k_blockR (k_thenR ?_)))))))))
    refine e_ret3 rfl rfl rfl rfl ?_
    first
     | exact ⟨vgetT_of (n := 0) (s := 0) (e := 6) (hv.trans (get_bad l k acc hkl (by omega))), rfl⟩
     | exact ⟨vgetT_of (s := k + 1) (e := 0) (hv.trans hdone.1), rfl⟩
     | exact ⟨vgetT_of (n := 0) (s := 0) (e := 4) (hv.trans (get_end l k acc (by omega))), rfl⟩
   ·refine wl_val (ov_pick_t rfl rfl) rfl rfl rfl ?_
    refine va rfl rfl ?_
    refine q_nil (k_then ?_)
    refine wc_cond_f rfl ?_
    refine wc_regionL ?_
    refine vm rfl rfl ?_
    refine wl_val (ov_gtr rfl rfl) rfl rfl rfl ?_
    refine wl_case_d (d := 22) rfl (fun h0 => ?_) (fun h0 => ?_)
    ·refine vm rfl rfl ?_
     refine wl_gval (ov_move rfl) rfl rfl rfl rfl rfl ?_
     refine wl_gval (ov_eql rfl rfl) rfl rfl rfl rfl rfl ?_
     refine wl_case_d (d := 25) rfl (fun hz => ?_) (fun hz => ?_)
     ·refine wl_val (ov_pick_t rfl rfl) rfl rfl rfl ?_
      refine va rfl rfl ?_
      refine q_nil (k_then ?_)
      refine wc_cond_t rfl ?_
      refine wc_seq (wc_regionL ?_)
      iterate 3 refine va rfl rfl ?_
      refine q_nil (k_then (q_ret (k_blockR (k_thenR (k_blockR (k_thenR (k_thenR (k_blockR (k_thenR ?_)))))))))
      refine e_ret3 rfl rfl rfl rfl ?_
      first
       | exact ⟨vgetT_of (n := 0) (s := 0) (e := 6) (hv.trans (get_bad l k acc hkl (by omega))), rfl⟩
       | exact ⟨vgetT_of (s := k + 1) (e := 0) (hv.trans hdone.1), rfl⟩
       | exact ⟨vgetT_of (n := 0) (s := 0) (e := 4) (hv.trans (get_end l k acc (by omega))), rfl⟩
     ·refine wl_val (ov_pick_t rfl rfl) rfl rfl rfl ?_
      refine va rfl rfl ?_
      refine q_nil (k_then ?_)
      refine wc_cond_f rfl ?_
      refine wc_seq (wc_regionL ?_)
      refine vm rfl rfl ?_
      refine wl_val (ov_lss rfl rfl) rfl rfl rfl ?_
      refine va rfl rfl ?_
      refine q_nil (k_then ?_)
      refine wc_cond_d rfl (fun hc4 => ?_) (fun hc4 => ?_)
      ·have hdone := get_done l k acc hkl hk9 hacc (by omega) (by omega)
       refine wc_seq (wc_regionL ?_)
       iterate 2 refine vm rfl rfl ?_
       refine wl_val (ov_conv Tryz.underlying5 Tryz.underlying36 rfl (wu64 (by omega) (by omega))) rfl rfl rfl ?_
       refine vm rfl rfl ?_
       refine wl_val (ov_mul rfl rfl (wi64 (by omega) (by omega))) rfl rfl rfl ?_
       refine wl_val (ov_shl rfl rfl (by omega) (by show (7 * (k : Int)) ≤ 64; omega) rfl) rfl rfl rfl ?_
       refine wl_val (ov_bits (.inr (.inl rfl)) rfl rfl (or_shl acc (l.getD k 0).toNat k hk9 hacc hdone.2)) rfl rfl rfl ?_
       refine vm rfl rfl ?_
       refine wl_val (ov_add rfl rfl (wi64 (by omega) (by omega))) rfl rfl rfl ?_
       iterate 3 refine va rfl rfl ?_
       refine q_nil (k_then (q_ret (k_blockR (k_thenR (k_blockR (k_thenR (k_thenR (k_blockR (k_thenR ?_)))))))))
       refine e_ret3 rfl rfl rfl rfl ?_
       first
        | exact ⟨vgetT_of (n := 0) (s := 0) (e := 6) (hv.trans (get_bad l k acc hkl (by omega))), rfl⟩
        | exact ⟨vgetT_of (s := k + 1) (e := 0) (hv.trans hdone.1), rfl⟩
        | exact ⟨vgetT_of (n := 0) (s := 0) (e := 4) (hv.trans (get_end l k acc (by omega))), rfl⟩
      ·have hgo := get_go l k acc hkl hk9 hacc (by omega) (by omega)
       refine q_skip (k_block (k_then (wc_regionL ?_)))
       iterate 2 refine vm rfl rfl ?_
       refine wl_val (ov_bits (.inl rfl) rfl rfl (and127 _ hx)) rfl rfl rfl ?_
       refine wl_val (ov_conv Tryz.underlying5 Tryz.underlying36 rfl (wu64 (by omega) (by omega))) rfl rfl rfl ?_
       refine vm rfl rfl ?_
       refine wl_val (ov_mul rfl rfl (wi64 (by omega) (by omega))) rfl rfl rfl ?_
       refine wl_val (ov_shl rfl rfl (by omega) (by show (7 * (k : Int)) ≤ 64; omega) rfl) rfl rfl rfl ?_
       refine wl_val (ov_bits (.inr (.inl rfl)) rfl rfl (or_shl acc ((l.getD k 0).toNat % 128) k hk9 hacc hgo.2.2.2)) rfl rfl rfl ?_
       refine va rfl rfl ?_
       refine q_nil (k_block (k_then (wc_regionL ?_)))
       refine wl_val (ov_add rfl rfl (wi64 (by omega) (by omega))) rfl rfl rfl ?_
       refine vm rfl rfl ?_
       refine q_nil ?_
       refine k_loop ((k + 1, acc + ((l.getD k 0).toNat % 128) * 128 ^ k)) (by show l.length - (k + 1) < l.length - k; omega) (⟨rfl, rfl, rfl, rfl, trivial⟩) (⟨rfl, by show k + 1 ≤ _; omega, by show k + 1 ≤ 9; omega, hgo.2.2.1, hv.trans hgo.1⟩)
    ·refine vm rfl rfl ?_
     iterate 2 refine wl_gskip rfl rfl rfl rfl rfl rfl ?_
     refine wl_val (ov_pick_f rfl rfl) rfl rfl rfl ?_
     refine va rfl rfl ?_
     refine q_nil (k_then ?_)
     refine wc_cond_f rfl ?_
     refine wc_seq (wc_regionL ?_)
     refine vm rfl rfl ?_
     refine wl_val (ov_lss rfl rfl) rfl rfl rfl ?_
     refine va rfl rfl ?_
     refine q_nil (k_then ?_)
     refine wc_cond_d rfl (fun hc4 => ?_) (fun hc4 => ?_)
     ·have hdone := get_done l k acc hkl hk9 hacc (by omega) (by omega)
      refine wc_seq (wc_regionL ?_)
      iterate 2 refine vm rfl rfl ?_
      refine wl_val (ov_conv Tryz.underlying5 Tryz.underlying36 rfl (wu64 (by omega) (by omega))) rfl rfl rfl ?_
      refine vm rfl rfl ?_
      refine wl_val (ov_mul rfl rfl (wi64 (by omega) (by omega))) rfl rfl rfl ?_
      refine wl_val (ov_shl rfl rfl (by omega) (by show (7 * (k : Int)) ≤ 64; omega) rfl) rfl rfl rfl ?_
      refine wl_val (ov_bits (.inr (.inl rfl)) rfl rfl (or_shl acc (l.getD k 0).toNat k hk9 hacc hdone.2)) rfl rfl rfl ?_
      refine vm rfl rfl ?_
      refine wl_val (ov_add rfl rfl (wi64 (by omega) (by omega))) rfl rfl rfl ?_
      iterate 3 refine va rfl rfl ?_
      refine q_nil (k_then (q_ret (k_blockR (k_thenR (k_blockR (k_thenR (k_thenR (k_blockR (k_thenR ?_)))))))))
      refine e_ret3 rfl rfl rfl rfl ?_
      first
       | exact ⟨vgetT_of (n := 0) (s := 0) (e := 6) (hv.trans (get_bad l k acc hkl (by omega))), rfl⟩
       | exact ⟨vgetT_of (s := k + 1) (e := 0) (hv.trans hdone.1), rfl⟩
       | exact ⟨vgetT_of (n := 0) (s := 0) (e := 4) (hv.trans (get_end l k acc (by omega))), rfl⟩
     ·have hgo := get_go l k acc hkl hk9 hacc (by omega) (by omega)
      refine q_skip (k_block (k_then (wc_regionL ?_)))
      iterate 2 refine vm rfl rfl ?_
      refine wl_val (ov_bits (.inl rfl) rfl rfl (and127 _ hx)) rfl rfl rfl ?_
      refine wl_val (ov_conv Tryz.underlying5 Tryz.underlying36 rfl (wu64 (by omega) (by omega))) rfl rfl rfl ?_
      refine vm rfl rfl ?_
      refine wl_val (ov_mul rfl rfl (wi64 (by omega) (by omega))) rfl rfl rfl ?_
      refine wl_val (ov_shl rfl rfl (by omega) (by show (7 * (k : Int)) ≤ 64; omega) rfl) rfl rfl rfl ?_
      refine wl_val (ov_bits (.inr (.inl rfl)) rfl rfl (or_shl acc ((l.getD k 0).toNat % 128) k hk9 hacc hgo.2.2.2)) rfl rfl rfl ?_
      refine va rfl rfl ?_
      refine q_nil (k_block (k_then (wc_regionL ?_)))
      refine wl_val (ov_add rfl rfl (wi64 (by omega) (by omega))) rfl rfl rfl ?_
      refine vm rfl rfl ?_
      refine q_nil ?_
      refine k_loop ((k + 1, acc + ((l.getD k 0).toNat % 128) * 128 ^ k)) (by show l.length - (k + 1) < l.length - k; omega) (⟨rfl, rfl, rfl, rfl, trivial⟩) (⟨rfl, by show k + 1 ≤ _; omega, by show k + 1 ≤ 9; omega, hgo.2.2.1, hv.trans hgo.1⟩)
  ·refine vm rfl rfl ?_
   iterate 2 refine wl_gskip rfl rfl rfl rfl rfl rfl ?_
   refine wl_val (ov_pick_f rfl rfl) rfl rfl rfl ?_
   refine va rfl rfl ?_
   refine q_nil (k_then ?_)
   refine wc_cond_f rfl ?_
   refine wc_regionL ?_
   refine vm rfl rfl ?_
   refine wl_val (ov_gtr rfl rfl) rfl rfl rfl ?_
   refine wl_case_d (d := 22) rfl (fun h0 => ?_) (fun h0 => ?_)
   ·refine vm rfl rfl ?_
    refine wl_gval (ov_move rfl) rfl rfl rfl rfl rfl ?_
    refine wl_gval (ov_eql rfl rfl) rfl rfl rfl rfl rfl ?_
    refine wl_case_d (d := 25) rfl (fun hz => ?_) (fun hz => ?_)
    ·refine wl_val (ov_pick_t rfl rfl) rfl rfl rfl ?_
     refine va rfl rfl ?_
     refine q_nil (k_then ?_)
     refine wc_cond_t rfl ?_
     refine wc_seq (wc_regionL ?_)
     iterate 3 refine va rfl rfl ?_
     refine q_nil (k_then (q_ret (k_blockR (k_thenR (k_blockR (k_thenR (k_thenR (k_blockR (k_thenR ?_)))))))))
     refine e_ret3 rfl rfl rfl rfl ?_
     first
      | exact ⟨vgetT_of (n := 0) (s := 0) (e := 6) (hv.trans (get_bad l k acc hkl (by omega))), rfl⟩
      | exact ⟨vgetT_of (s := k + 1) (e := 0) (hv.trans hdone.1), rfl⟩
      | exact ⟨vgetT_of (n := 0) (s := 0) (e := 4) (hv.trans (get_end l k acc (by omega))), rfl⟩
    ·refine wl_val (ov_pick_t rfl rfl) rfl rfl rfl ?_
     refine va rfl rfl ?_
     refine q_nil (k_then ?_)
     refine wc_cond_f rfl ?_
     refine wc_seq (wc_regionL ?_)
     refine vm rfl rfl ?_
     refine wl_val (ov_lss rfl rfl) rfl rfl rfl ?_
     refine va rfl rfl ?_
     refine q_nil (k_then ?_)
     refine wc_cond_d rfl (fun hc4 => ?_) (fun hc4 => ?_)
     ·have hdone := get_done l k acc hkl hk9 hacc (by omega) (by omega)
      refine wc_seq (wc_regionL ?_)
      iterate 2 refine vm rfl rfl ?_
      refine wl_val (ov_conv Tryz.underlying5 Tryz.underlying36 rfl (wu64 (by omega) (by omega))) rfl rfl rfl ?_
      refine vm rfl rfl ?_
      refine wl_val (ov_mul rfl rfl (wi64 (by omega) (by omega))) rfl rfl rfl ?_
      refine wl_val (ov_shl rfl rfl (by omega) (by show (7 * (k : Int)) ≤ 64; omega) rfl) rfl rfl rfl ?_
      refine wl_val (ov_bits (.inr (.inl rfl)) rfl rfl (or_shl acc (l.getD k 0).toNat k hk9 hacc hdone.2)) rfl rfl rfl ?_
      refine vm rfl rfl ?_
      refine wl_val (ov_add rfl rfl (wi64 (by omega) (by omega))) rfl rfl rfl ?_
      iterate 3 refine va rfl rfl ?_
      refine q_nil (k_then (q_ret (k_blockR (k_thenR (k_blockR (k_thenR (k_thenR (k_blockR (k_thenR ?_)))))))))
      refine e_ret3 rfl rfl rfl rfl ?_
      first
       | exact ⟨vgetT_of (n := 0) (s := 0) (e := 6) (hv.trans (get_bad l k acc hkl (by omega))), rfl⟩
       | exact ⟨vgetT_of (s := k + 1) (e := 0) (hv.trans hdone.1), rfl⟩
       | exact ⟨vgetT_of (n := 0) (s := 0) (e := 4) (hv.trans (get_end l k acc (by omega))), rfl⟩
     ·have hgo := get_go l k acc hkl hk9 hacc (by omega) (by omega)
      refine q_skip (k_block (k_then (wc_regionL ?_)))
      iterate 2 refine vm rfl rfl ?_
      refine wl_val (ov_bits (.inl rfl) rfl rfl (and127 _ hx)) rfl rfl rfl ?_
      refine wl_val (ov_conv Tryz.underlying5 Tryz.underlying36 rfl (wu64 (by omega) (by omega))) rfl rfl rfl ?_
      refine vm rfl rfl ?_
      refine wl_val (ov_mul rfl rfl (wi64 (by omega) (by omega))) rfl rfl rfl ?_
      refine wl_val (ov_shl rfl rfl (by omega) (by show (7 * (k : Int)) ≤ 64; omega) rfl) rfl rfl rfl ?_
      refine wl_val (ov_bits (.inr (.inl rfl)) rfl rfl (or_shl acc ((l.getD k 0).toNat % 128) k hk9 hacc hgo.2.2.2)) rfl rfl rfl ?_
      refine va rfl rfl ?_
      refine q_nil (k_block (k_then (wc_regionL ?_)))
      refine wl_val (ov_add rfl rfl (wi64 (by omega) (by omega))) rfl rfl rfl ?_
      refine vm rfl rfl ?_
      refine q_nil ?_
      refine k_loop ((k + 1, acc + ((l.getD k 0).toNat % 128) * 128 ^ k)) (by show l.length - (k + 1) < l.length - k; omega) (⟨rfl, rfl, rfl, rfl, trivial⟩) (⟨rfl, by show k + 1 ≤ _; omega, by show k + 1 ≤ 9; omega, hgo.2.2.1, hv.trans hgo.1⟩)
   ·refine vm rfl rfl ?_
    iterate 2 refine wl_gskip rfl rfl rfl rfl rfl rfl ?_
    refine wl_val (ov_pick_f rfl rfl) rfl rfl rfl ?_
    refine va rfl rfl ?_
    refine q_nil (k_then ?_)
    refine wc_cond_f rfl ?_
    refine wc_seq (wc_regionL ?_)
    refine vm rfl rfl ?_
    refine wl_val (ov_lss rfl rfl) rfl rfl rfl ?_
    refine va rfl rfl ?_
    refine q_nil (k_then ?_)
    refine wc_cond_d rfl (fun hc4 => ?_) (fun hc4 => ?_)
    ·have hdone := get_done l k acc hkl hk9 hacc (by omega) (by omega)
     refine wc_seq (wc_regionL ?_)
     iterate 2 refine vm rfl rfl ?_
     refine wl_val (ov_conv Tryz.underlying5 Tryz.underlying36 rfl (wu64 (by omega) (by omega))) rfl rfl rfl ?_
     refine vm rfl rfl ?_
     refine wl_val (ov_mul rfl rfl (wi64 (by omega) (by omega))) rfl rfl rfl ?_
     refine wl_val (ov_shl rfl rfl (by omega) (by show (7 * (k : Int)) ≤ 64; omega) rfl) rfl rfl rfl ?_
     refine wl_val (ov_bits (.inr (.inl rfl)) rfl rfl (or_shl acc (l.getD k 0).toNat k hk9 hacc hdone.2)) rfl rfl rfl ?_
     refine vm rfl rfl ?_
     refine wl_val (ov_add rfl rfl (wi64 (by omega) (by omega))) rfl rfl rfl ?_
     iterate 3 refine va rfl rfl ?_
     refine q_nil (k_then (q_ret (k_blockR (k_thenR (k_blockR (k_thenR (k_thenR (k_blockR (k_thenR ?_)))))))))
     refine e_ret3 rfl rfl rfl rfl ?_
     first
      | exact ⟨vgetT_of (n := 0) (s := 0) (e := 6) (hv.trans (get_bad l k acc hkl (by omega))), rfl⟩
      | exact ⟨vgetT_of (s := k + 1) (e := 0) (hv.trans hdone.1), rfl⟩
      | exact ⟨vgetT_of (n := 0) (s := 0) (e := 4) (hv.trans (get_end l k acc (by omega))), rfl⟩
    ·have hgo := get_go l k acc hkl hk9 hacc (by omega) (by omega)
     refine q_skip (k_block (k_then (wc_regionL ?_)))
     iterate 2 refine vm rfl rfl ?_
     refine wl_val (ov_bits (.inl rfl) rfl rfl (and127 _ hx)) rfl rfl rfl ?_
     refine wl_val (ov_conv Tryz.underlying5 Tryz.underlying36 rfl (wu64 (by omega) (by omega))) rfl rfl rfl ?_
     refine vm rfl rfl ?_
     refine wl_val (ov_mul rfl rfl (wi64 (by omega) (by omega))) rfl rfl rfl ?_
     refine wl_val (ov_shl rfl rfl (by omega) (by show (7 * (k : Int)) ≤ 64; omega) rfl) rfl rfl rfl ?_
     refine wl_val (ov_bits (.inr (.inl rfl)) rfl rfl (or_shl acc ((l.getD k 0).toNat % 128) k hk9 hacc hgo.2.2.2)) rfl rfl rfl ?_
     refine va rfl rfl ?_
     refine q_nil (k_block (k_then (wc_regionL ?_)))
     refine wl_val (ov_add rfl rfl (wi64 (by omega) (by omega))) rfl rfl rfl ?_
     refine vm rfl rfl ?_
     refine q_nil ?_
     refine k_loop ((k + 1, acc + ((l.getD k 0).toNat % 128) * 128 ^ k)) (by show l.length - (k + 1) < l.length - k; omega) (⟨rfl, rfl, rfl, rfl, trivial⟩) (⟨rfl, by show k + 1 ≤ _; omega, by show k + 1 ≤ 9; omega, hgo.2.2.1, hv.trans hgo.1⟩)
 ·refine q_exit (k_thenX (k_thenX (k_blockE (k_then (wc_seq (wc_regionL ?_))))))
  iterate 3 refine va rfl rfl ?_
  refine q_nil (k_then (q_ret ?_))
  refine e_ret3 rfl rfl rfl rfl ?_
  first
   | exact ⟨vgetT_of (n := 0) (s := 0) (e := 6) (hv.trans (get_bad l k acc hkl (by omega))), rfl⟩
   | exact ⟨vgetT_of (s := k + 1) (e := 0) (hv.trans hdone.1), rfl⟩
   | exact ⟨vgetT_of (n := 0) (s := 0) (e := 4) (hv.trans (get_end l k acc (by omega))), rfl⟩
theorem putbytes_any (w : World) (lo hi lo2 hi2 : Nat) (A : Option Addr) (c : Nat) (l : List UInt8) (B : Option Addr) (c2 : Nat) (m : List UInt8) (hr : RdB w lo hi A c l) (hr2 : RdB w lo2 hi2 B c2 m) (hlen : l.length + m.length ≤ 140737488350000) :
  Fn Tryz.prog 126 #[(.slice A l.length c), (.slice B m.length c2)] w (FreshB w 5 (l ++ enc m.length ++ m))  := by
 replace hr := hr.top
 replace hr2 := hr2.top
 have hE := ext_refl w
 have hel := enc_len m.length
 refine fn_enter (args := [(.slice A l.length c), (.slice B m.length c2)]) Tryz.func126 rfl rfl rfl ?_
 show WC _ _ _ _ [(0, (.slice A l.length c)), (1, (.slice B m.length c2))] _
 refine wc_seq (wc_regionL ?_)
 refine va rfl rfl ?_
 refine q_nil (k_then (wc_seq (wc_regionL ?_)))
 iterate 2 refine vm rfl rfl ?_
 refine wl_val (ov_len Tryz.underlying32 rfl) rfl rfl rfl ?_
 refine wl_val (ov_conv Tryz.underlying3 Tryz.underlying36 rfl (wu64 (by omega) (by omega))) rfl rfl rfl ?_
 refine wl_step (or_call0 cl92 rfl rfl (put_any _ _ _ _ _ l (m.length) hr (by omega) (by omega))) rfl rfl rfl ?_
 rintro v w1 ⟨A9, c9, rfl, ho9, he9⟩
 replace hr2 := hr2.ext he9
 replace hE := hE.tr he9
 have hz_he9 := he9.size
 refine vm rfl rfl ?_
 refine wl_step (or_bappend bt32 rfl ho9 rfl hr2 (by simp; omega) (by omega)) rfl rfl rfl ?_
 rintro v w2 ⟨A11, c11, rfl, ho11, hg11, ha11⟩
 have hq11 := fun g e => Own.lt ho9 (g := g) e
 have hz_hg11 := hg11.size
 replace hE := hE.gr hg11 (fun g e => by have := hq11 g e; omega)
 refine va rfl rfl ?_
 refine q_nil (k_then (q_ret ?_))
 refine e_ret rfl rfl ?_
 exact ⟨A11, c11, rfl, ho11, hE⟩
theorem rput_step (w : World) (n : Nat) (hn : n < 18446744073709551616) (ih : ∀ w', 128 ≤ n → Fn Tryz.prog 77 #[.int .u64 ((n / 128 : Nat) : Int)] w' (FreshB w' 5 (enc (n / 128)))) :
  Fn Tryz.prog 77 #[(.int .u64 (↑n : Int))] w (FreshB w 5 (enc n))  := by
 have hE := ext_refl w
 have hel := enc_len (n / 128)
 refine fn_enter (args := [(.int .u64 (↑n : Int))]) Tryz.func77 rfl rfl rfl ?_
 show WC _ _ _ _ [(0, (.int .u64 (↑n : Int)))] _
 refine wc_seq (wc_regionL ?_)
 refine va rfl rfl ?_
 refine q_nil (k_then (wc_seq (wc_seq (wc_regionL ?_))))
 refine vm rfl rfl ?_
 refine wl_val (ov_lss rfl rfl) rfl rfl rfl ?_
 refine q_nil (k_then ?_)
 refine wc_cond_d rfl (fun hc1 => ?_) (fun hc1 => ?_)
 ·refine wc_seq (wc_regionL ?_)
  refine vm rfl rfl ?_
  refine wl_val (ov_conv Tryz.underlying36 Tryz.underlying5 rfl (wu8o n)) rfl rfl rfl ?_
  refine wl_step (or_buildBytes (l := [UInt8.ofNat n]) bt32 (os := [.tmp 6]) rfl rfl rfl (by decide)) rfl rfl rfl ?_
  rintro v w1 ⟨A7, c7, rfl, ho7, he7⟩
  replace hE := hE.tr he7
  have hz_he7 := he7.size
  refine va rfl rfl ?_
  refine q_nil (k_then (q_ret (k_thenR ?_)))
  refine e_ret rfl rfl ?_
  rw [enc_small n (by omega)]
  exact ⟨A7, c7, rfl, ho7, hE⟩
 ·refine q_skip (k_then (wc_seq (wc_regionL ?_)))
  refine vm rfl rfl ?_
  refine wl_val (ov_rem rfl rfl (by decide) (tmodN n 128)) rfl rfl rfl ?_
  refine wl_val (ov_add rfl rfl (addN 128 (n % 128) (by omega))) rfl rfl rfl ?_
  refine wl_val (ov_conv Tryz.underlying36 Tryz.underlying5 rfl (wu8o (128 + n % 128))) rfl rfl rfl ?_
  refine wl_step (or_buildBytes (l := [UInt8.ofNat (128 + n % 128)]) bt32 (os := [.tmp 11]) rfl rfl rfl (by decide)) rfl rfl rfl ?_
  rintro v w201 ⟨A12, c12, rfl, ho12, he12⟩
  replace hE := hE.tr he12
  have hz_he12 := he12.size
  refine vm rfl rfl ?_
  refine wl_val (ov_quo rfl rfl (by decide) (m := ((n / 128 : Nat) : Int)) (by rw [show ((n : Int).tdiv 128) = ((n / 128 : Nat) : Int) from tdivN n 128]; exact wu64 (by omega) (by omega))) rfl rfl rfl ?_
  refine wl_step (or_call0 cl77 rfl rfl (ih _ (by omega))) rfl rfl rfl ?_
  rintro v w202 ⟨A15, c15, rfl, ho15, he15⟩
  replace hE := hE.tr he15
  replace ho12 := Own.ext ho12 he15
  have hz_he15 := he15.size
  refine wl_step (or_bappend bt32 rfl ho12 rfl (OwnB.rd ho15) (by simp; omega) (by omega)) rfl rfl rfl ?_
  rintro v w203 ⟨A16, c16, rfl, ho16, hg16, ha16⟩
  have hq16 := fun g e => Own.lt ho12 (g := g) e
  have hz_hg16 := hg16.size
  replace hE := hE.gr hg16 (fun g e => by have := hq16 g e; omega)
  refine va rfl rfl ?_
  refine q_nil (k_then (q_ret ?_))
  refine e_ret rfl rfl ?_
  rw [enc_big n (by omega) hn]
  exact ⟨A16, c16, rfl, Own.mono ho16 (by omega), hE⟩
theorem rput_any : ∀ (n : Nat) (w : World), n < 18446744073709551616 → Fn Tryz.prog 77 #[.int .u64 (n : Int)] w (FreshB w 5 (enc n)) := by
 intro n
 induction n using Nat.strongRecOn with
 | _ n ih => intro w hn; exact rput_step w n hn fun w' h => ih (n / 128) (by omega) w' (by omega)
theorem rputbytes_any (w : World) (lo2 hi2 : Nat) (B : Option Addr) (c2 : Nat) (m : List UInt8) (hr2 : RdB w lo2 hi2 B c2 m) (hlen : m.length ≤ 140737488350000) :
  Fn Tryz.prog 79 #[(.slice B m.length c2)] w (FreshB w 5 (enc m.length ++ m))  := by
 replace hr2 := hr2.top
 have hE := ext_refl w
 have hel := enc_len m.length
 refine fn_enter (args := [(.slice B m.length c2)]) Tryz.func79 rfl rfl rfl ?_
 show WC _ _ _ _ [(0, (.slice B m.length c2))] _
 refine wc_seq (wc_regionL ?_)
 refine va rfl rfl ?_
 refine q_nil (k_then (wc_seq (wc_regionL ?_)))
 refine vm rfl rfl ?_
 refine wl_val (ov_len Tryz.underlying32 rfl) rfl rfl rfl ?_
 refine wl_val (ov_conv Tryz.underlying3 Tryz.underlying36 rfl (wu64 (by omega) (by omega))) rfl rfl rfl ?_
 refine wl_step (or_call0 cl77 rfl rfl (rput_any (m.length) _ (by omega))) rfl rfl rfl ?_
 rintro v w1 ⟨A6, c6, rfl, ho6, he6⟩
 replace hr2 := hr2.ext he6
 replace hE := hE.tr he6
 have hz_he6 := he6.size
 refine vm rfl rfl ?_
 refine wl_step (or_bappend bt32 rfl ho6 rfl hr2 (by omega) (by omega)) rfl rfl rfl ?_
 rintro v w2 ⟨A8, c8, rfl, ho8, hg8, ha8⟩
 have hq8 := fun g e => Own.lt ho6 (g := g) e
 have hz_hg8 := hg8.size
 replace hE := hE.gr hg8 (fun g e => by have := hq8 g e; omega)
 refine va rfl rfl ?_
 refine q_nil (k_then (q_ret ?_))
 refine e_ret rfl rfl ?_
 exact ⟨A8, c8, rfl, ho8, hE⟩
/-- What a call of GetBytes leaves. -/
def VPart (w : World) (l : List UInt8) (most : Int) (v : Value) (w' : World) : Prop :=
 ∃ A c, v = .tuple #[.slice A (vpart l most).1.length c, .int .i64 ((vpart l most).2.1 : Int), .int .i64 ((vpart l most).2.2 : Int)] ∧ OwnB w' w.heap.size 5 A c (vpart l most).1 ∧ Ext w w'
theorem vpart_mk {w w' : World} {l : List UInt8} {most : Int} {p : List UInt8} {s e : Nat} (h : vpart l most = (p, s, e)) {A : Option Addr} {c : Nat} (ho : OwnB w' w.heap.size 5 A c p) (hE : Ext w w') :
  VPart w l most (.tuple #[.slice A p.length c, .int .i64 (s : Int), .int .i64 (e : Int)]) w' := by
 unfold VPart; rw [h]; exact ⟨A, c, rfl, ho, hE⟩
theorem getbytes_any (w : World) (lo hi : Nat) (A : Option Addr) (c : Nat) (l : List UInt8) (most : Int) (hm : most ≤ 9223372036854775807) (hr : RdB w lo hi A c l) (hlen : l.length ≤ 140737488355328) :
  Fn Tryz.prog 146 #[(.slice A l.length c), (.int .i64 most)] w (VPart w l most)  := by
 replace hr := hr.top
 have hcap := RdB.cap hr
 have hE := ext_refl w
 have hn := vget_lt l
 have hs := vget_size l
 refine fn_enter (args := [(.slice A l.length c), (.int .i64 most)]) Tryz.func146 rfl rfl rfl ?_
 show WC _ _ _ _ [(0, (.slice A l.length c)), (1, (.int .i64 most))] _
 refine wc_seq (wc_regionL ?_)
 iterate 3 refine va rfl rfl ?_
 refine q_nil (k_then (wc_seq (wc_seq (wc_regionL ?_))))
 refine vm rfl rfl ?_
 refine wl_val (ov_lss rfl rfl) rfl rfl rfl ?_
 refine q_nil (k_then ?_)
 refine wc_cond_d rfl (fun hc1 => ?_) (fun hc1 => ?_)
 ·refine wc_seq (wc_regionL ?_)
  iterate 3 refine va rfl rfl ?_
  refine q_nil (k_then (q_ret (k_thenR ?_)))
  refine e_ret3 rfl rfl rfl rfl ?_
  first
   | exact vpart_mk (s := 0) (e := 2) (vpart_neg (by omega)) (Own.nil_ _ _ _ _) hE
   | exact vpart_mk (s := 0) (vpart_bad (by omega) (by omega)) (Own.nil_ _ _ _ _) hE
   | exact vpart_mk (s := 0) (e := 5) (vpart_long (by omega) (by omega) (by omega)) (Own.nil_ _ _ _ _) hE
   | exact vpart_mk (s := 0) (e := 4) (vpart_short (by omega) (by omega) (by omega) (by omega)) (Own.nil_ _ _ _ _) hE
   | (rw [List.length_take, List.length_drop] at hl42; exact vpart_mk (s := (vget l).2.1 + (vget l).1) (e := 0) (vpart_ok (by omega) (by omega) (by omega) (by omega)) (Own.mono ho43 (by omega)) hE)
 ·refine q_skip (k_then (wc_seq (wc_regionL ?_)))
  refine vm rfl rfl ?_
  refine wl_val (or_call0 cl102 rfl rfl (get_any _ _ _ _ _ l hr)) rfl rfl rfl ?_
  refine vm rfl rfl ?_
  iterate 3 refine vx rfl rfl rfl ?_
  iterate 3 refine va rfl rfl ?_
  refine q_nil (k_then (wc_seq (wc_block (wc_seq (wc_regionL ?_)))))
  refine vm rfl rfl ?_
  refine wl_val (ov_neq rfl rfl) rfl rfl rfl ?_
  refine va rfl rfl ?_
  refine q_nil (k_then ?_)
  refine wc_cond_d rfl (fun hc2 => ?_) (fun hc2 => ?_)
  ·refine wc_seq (wc_regionL ?_)
   refine vm rfl rfl ?_
   iterate 3 refine va rfl rfl ?_
   refine q_nil (k_then (q_ret (k_blockR (k_thenR ?_))))
   refine e_ret3 rfl rfl rfl rfl ?_
   first
    | exact vpart_mk (s := 0) (e := 2) (vpart_neg (by omega)) (Own.nil_ _ _ _ _) hE
    | exact vpart_mk (s := 0) (vpart_bad (by omega) (by omega)) (Own.nil_ _ _ _ _) hE
    | exact vpart_mk (s := 0) (e := 5) (vpart_long (by omega) (by omega) (by omega)) (Own.nil_ _ _ _ _) hE
    | exact vpart_mk (s := 0) (e := 4) (vpart_short (by omega) (by omega) (by omega) (by omega)) (Own.nil_ _ _ _ _) hE
    | (rw [List.length_take, List.length_drop] at hl42; exact vpart_mk (s := (vget l).2.1 + (vget l).1) (e := 0) (vpart_ok (by omega) (by omega) (by omega) (by omega)) (Own.mono ho43 (by omega)) hE)
  ·refine wc_seq (wc_regionL ?_)
   iterate 2 refine vm rfl rfl ?_
   refine wl_val (ov_conv Tryz.underlying3 Tryz.underlying36 rfl (wu64 (by omega) (by omega))) rfl rfl rfl ?_
   refine wl_val (ov_gtr rfl rfl) rfl rfl rfl ?_
   refine va rfl rfl ?_
   refine q_nil (k_then ?_)
   refine wc_cond_d rfl (fun hc3 => ?_) (fun hc3 => ?_)
   ·refine wc_seq (wc_regionL ?_)
    iterate 3 refine va rfl rfl ?_
    refine q_nil (k_then (q_ret (k_blockR (k_thenR ?_))))
    refine e_ret3 rfl rfl rfl rfl ?_
    first
     | exact vpart_mk (s := 0) (e := 2) (vpart_neg (by omega)) (Own.nil_ _ _ _ _) hE
     | exact vpart_mk (s := 0) (vpart_bad (by omega) (by omega)) (Own.nil_ _ _ _ _) hE
     | exact vpart_mk (s := 0) (e := 5) (vpart_long (by omega) (by omega) (by omega)) (Own.nil_ _ _ _ _) hE
     | exact vpart_mk (s := 0) (e := 4) (vpart_short (by omega) (by omega) (by omega) (by omega)) (Own.nil_ _ _ _ _) hE
     | (rw [List.length_take, List.length_drop] at hl42; exact vpart_mk (s := (vget l).2.1 + (vget l).1) (e := 0) (vpart_ok (by omega) (by omega) (by omega) (by omega)) (Own.mono ho43 (by omega)) hE)
   ·refine wc_seq (wc_regionL ?_)
    iterate 2 refine vm rfl rfl ?_
    refine wl_val (ov_len Tryz.underlying32 rfl) rfl rfl rfl ?_
    refine vm rfl rfl ?_
    refine wl_val (ov_sub rfl rfl (wi64 (by omega) (by omega))) rfl rfl rfl ?_
    refine wl_val (ov_conv Tryz.underlying3 Tryz.underlying36 rfl (wu64 (by omega) (by omega))) rfl rfl rfl ?_
    refine wl_val (ov_gtr rfl rfl) rfl rfl rfl ?_
    refine va rfl rfl ?_
    refine q_nil (k_then ?_)
    refine wc_cond_d rfl (fun hc4 => ?_) (fun hc4 => ?_)
    ·refine wc_seq (wc_regionL ?_)
     iterate 3 refine va rfl rfl ?_
     refine q_nil (k_then (q_ret (k_blockR (k_thenR ?_))))
     refine e_ret3 rfl rfl rfl rfl ?_
     first
      | exact vpart_mk (s := 0) (e := 2) (vpart_neg (by omega)) (Own.nil_ _ _ _ _) hE
      | exact vpart_mk (s := 0) (vpart_bad (by omega) (by omega)) (Own.nil_ _ _ _ _) hE
      | exact vpart_mk (s := 0) (e := 5) (vpart_long (by omega) (by omega) (by omega)) (Own.nil_ _ _ _ _) hE
      | exact vpart_mk (s := 0) (e := 4) (vpart_short (by omega) (by omega) (by omega) (by omega)) (Own.nil_ _ _ _ _) hE
      | (rw [List.length_take, List.length_drop] at hl42; exact vpart_mk (s := (vget l).2.1 + (vget l).1) (e := 0) (vpart_ok (by omega) (by omega) (by omega) (by omega)) (Own.mono ho43 (by omega)) hE)
    ·have hn2 : (vget l).1 ≤ l.length := by omega
     refine q_skip (k_block (k_then (wc_seq (wc_regionL ?_))))
     iterate 2 refine vm rfl rfl ?_
     refine wl_val (ov_conv Tryz.underlying36 Tryz.underlying3 rfl (wi64 (by omega) (by omega))) rfl rfl rfl ?_
     refine wl_val (ov_add rfl rfl (wi64 (by omega) (by omega))) rfl rfl rfl ?_
     refine va rfl rfl ?_
     refine q_nil (k_then (wc_seq (wc_regionL ?_)))
     iterate 4 refine vm rfl rfl ?_
     have hcap42 := RdB.cap hr
     refine wl_step (or_bslice bt32 rfl hr (bounds_lhm rfl rfl rfl (by omega) (by omega) (by omega) (by omega)) (by omega) (by omega) (by omega) (by omega)) rfl rfl rfl ?_
     rintro v _ ⟨rfl, A42, c42, rfl, hr42, hl42⟩
     have hs42 : (l.drop (Int.toNat (↑(vget l).2.1 : Int))).take ((Int.toNat ((↑(vget l).2.1 : Int) + (↑(vget l).1 : Int))) - (Int.toNat (↑(vget l).2.1 : Int))) = ((l.drop (vget l).2.1).take (vget l).1) := cut_eq l (by omega) (by omega)
     rw [hs42] at hr42 hl42; rw [hs42]; clear hs42
     refine wl_step (or_call0 cl76 rfl rfl (byclone_any _ _ _ _ _ _ hr42 (by omega))) rfl rfl rfl ?_
     rintro v w201 ⟨A43, c43, rfl, ho43, he43⟩
     replace hE := hE.tr he43
     have hz_he43 := he43.size
     refine vm rfl rfl ?_
     iterate 3 refine va rfl rfl ?_
     refine q_nil (k_then (q_ret ?_))
     refine e_ret3 rfl rfl rfl rfl ?_
     first
      | exact vpart_mk (s := 0) (e := 2) (vpart_neg (by omega)) (Own.nil_ _ _ _ _) hE
      | exact vpart_mk (s := 0) (vpart_bad (by omega) (by omega)) (Own.nil_ _ _ _ _) hE
      | exact vpart_mk (s := 0) (e := 5) (vpart_long (by omega) (by omega) (by omega)) (Own.nil_ _ _ _ _) hE
      | exact vpart_mk (s := 0) (e := 4) (vpart_short (by omega) (by omega) (by omega) (by omega)) (Own.nil_ _ _ _ _) hE
      | (rw [List.length_take, List.length_drop] at hl42; exact vpart_mk (s := (vget l).2.1 + (vget l).1) (e := 0) (vpart_ok (by omega) (by omega) (by omega) (by omega)) (Own.mono ho43 (by omega)) hE)
end Go.Proofs.YtiighkbehiddkaaGreat