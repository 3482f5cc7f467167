/-
 The walk of a run.
-/
import Derived.Test.YtiighkbehiddkaaGreatCm
namespace Go.Proofs.YtiighkbehiddkaaGreat
open Go.RowKit
set_option linter.unusedVariables false
set_option maxRecDepth 4000
theorem cl20 : callable Tryz.prog 20 = true := by kernel_rfl
theorem sl85 : SliceTy Tryz.prog 85 39 10 160 (.agg #[(.int .i64 0), (.string (strB [])), (.slice none 0 0), (.slice none 0 0), (.slice none 0 0), (.int .u64 0), (.int .u64 0), (.string (strB [])), (.string (strB [])), (.string (strB []))]) := sliceTy_mk Tryz.underlying85 (by kernel_rfl) rfl (by decide)
set_option maxHeartbeats 4000000 in
theorem run28_any (w : World) (i o p : Nat) (hc : 16 ≤ p ∧ p ≤ 2097152 ∧ p + 8 ≤ i ∧ i ≤ 4194304 ∧ 64 ≤ o ∧ o ≤ 1048576) (b : List UInt8) (hb3 : b.length ≤ 300) (lo1 hi1 : Nat) (B1 : Option Addr) (c1 : Nat) (hr1 : RdB w lo1 hi1 B1 c1 b) (zs : List UInt8) (lo2 hi2 : Nat) (B2 : Option Addr) (c2 : Nat) (hr2 : RdB w lo2 hi2 B2 c2 zs) :
  Fn Tryz.prog 31 #[(.agg #[(.int .i64 (↑i : Int)), (.int .i64 (↑o : Int)), (.int .i64 (↑p : Int))]), (.slice B1 b.length c1), (.slice B2 zs.length c2)] w (RunPost p b w)  := by
 have hE := ext_refl w
 replace hr1 := Rd.top hr1
 replace hr2 := Rd.top hr2
 obtain ⟨Lw, hLw⟩ : ∃ n, n = w.heap.size := ⟨_, rfl⟩
 rw [← hLw] at hr1 hr2
 have hzc := RdB.cap hr2
 refine fn_enter (args := [(.agg #[(.int .i64 (↑i : Int)), (.int .i64 (↑o : Int)), (.int .i64 (↑p : Int))]), (.slice B1 b.length c1), (.slice B2 zs.length c2)]) Tryz.func31 rfl rfl rfl ?_
 show WC _ _ _ _ [(0, (.agg #[(.int .i64 (↑i : Int)), (.int .i64 (↑o : Int)), (.int .i64 (↑p : Int))])), (1, (.slice B1 b.length c1)), (2, (.slice B2 zs.length c2))] _
 refine wc_seq (wc_regionL ?_)
 refine wl_step (or_box (cs := [(.int .i64 (↑i : Int)), (.int .i64 (↑o : Int)), (.int .i64 (↑p : Int))]) rfl rfl) rfl rfl rfl ?_
 rintro v w1 ⟨g3, rfl, hb_g3, he3, hl3, hu3⟩
 replace hE := hE.tr he3
 replace hr1 := hr1.ext he3
 replace hr2 := hr2.ext he3
 have hz_he3 := he3.size
 iterate 4 refine va rfl rfl ?_
 refine q_nil (k_then (wc_seq (wc_regionL ?_)))
 refine wl_val (ov_loadBlk (cs := [(.int .i64 (↑i : Int)), (.int .i64 (↑o : Int)), (.int .i64 (↑p : Int))]) ag23_3 rfl hb_g3) rfl rfl rfl ?_
 obtain ⟨lo, hlo⟩ : ∃ n, n = w1.heap.size := ⟨_, rfl⟩
 refine wl_step (or_call0 cl11 rfl rfl (cnew_ok _ i o p hc)) rfl rfl rfl ?_
 rintro v w2 ⟨gn27, S27, a27, rfl, hc27, hl27, he27⟩
 replace hE := hE.tr he27
 replace hr1 := hr1.ext he27
 replace hr2 := hr2.ext he27
 replace hb_g3 := hb_g3.ext he27
 have hz_he27 := he27.size
 refine vm rfl rfl ?_
 iterate 2 refine vx rfl rfl rfl ?_
 iterate 2 refine va rfl rfl ?_
 refine q_nil (k_then (wc_seq (wc_seq (wc_regionL ?_))))
 refine vm rfl rfl ?_
 refine wl_val (ov_nilptr Tryz.underlying28 rfl) rfl rfl rfl ?_
 refine vm rfl rfl ?_
 refine wl_gval (ov_move rfl) rfl rfl rfl rfl rfl ?_
 refine wl_gval (ov_neq rfl rfl) rfl rfl rfl rfl rfl ?_
 refine wl_val (ov_pick_f rfl rfl) rfl rfl rfl ?_
 refine q_nil (k_then ?_)
 refine wc_cond_f rfl ?_
 refine q_skip (k_then (wc_seq (wc_seq (wc_regionL ?_))))
 refine va rfl rfl ?_
 refine q_nil (k_then (wc_block ?_))
 have hlo3 : g3 < lo := by omega
 have hLwlo : Lw ≤ lo := by omega
 have hR : Rst w w2 w2.heap.size lo gn27 S27 a27 a27 (cnNew i o p) none 0 ([] : List XC) none 0 ([] : List UInt8) := ⟨hc27, Own.nil_ _ _ _ _, Own.nil_ _ _ _ _, (fun x hx => by cases hx), (fun x e => by cases e), (fun x e => by cases e), fun y hy => ⟨by have := hl27 y hy; omega, (hc27.bnd.1 y hy).1⟩, hc27.bnd.2, Nat.le_refl _, by omega, hE, by omega⟩
 have hP0 : RP i o p [] b (List.map Prod.fst ([] : List XC)) [] (cnNew i o p) := rp_new hc27.ok hb3
 refine wc_loop (σ := Nat × List UInt8 × List UInt8 × (Option Addr × Nat) × RS) (fun s => s.2.2.1.length) (fun s => [(1, (.slice s.2.2.2.1.1 s.2.2.1.length s.2.2.2.1.2)), (2, (.slice B2 zs.length c2)), (3, (.pointer (some ⟨g3, 0, none⟩))), (6, (.slice s.2.2.2.2.X s.2.2.2.2.xs.length s.2.2.2.2.cx)), (7, (.slice s.2.2.2.2.A s.2.2.2.2.O.length s.2.2.2.2.cA)), (10, (.pointer (some ⟨gn27, 0, none⟩))), (12, (.int .i64 (↑s.1 : Int)))]) (fun s w' => Rst w w' s.2.2.2.2.B lo gn27 s.2.2.2.2.S s.2.2.2.2.a s.2.2.2.2.b s.2.2.2.2.s s.2.2.2.2.X s.2.2.2.2.cx s.2.2.2.2.xs s.2.2.2.2.A s.2.2.2.2.cA s.2.2.2.2.O ∧ RP i o p s.2.1 s.2.2.1 (s.2.2.2.2.xs.map Prod.fst) s.2.2.2.2.O s.2.2.2.2.s ∧ b = s.2.1 ++ s.2.2.1 ∧ Rdone s.2.2.2.2.s ∧ s.1 + s.2.2.1.length ≤ 300 ∧ RdB w' lo1 Lw s.2.2.2.1.1 s.2.2.2.1.2 s.2.2.1 ∧ RdB w' lo2 Lw B2 c2 zs ∧ Blk w' g3 23 [.int .i64 (↑i : Int), .int .i64 (↑o : Int), .int .i64 (↑p : Int)]) ((0, [], b, (B1, c1), ⟨_, S27, a27, a27, cnNew i o p, none, 0, [], none, 0, []⟩)) (⟨hR, hP0, rfl, rdone_new (by omega), by show 0 + b.length ≤ 300; omega, hr1, hr2, hb_g3⟩) (⟨rfl, rfl, rfl, rfl, rfl, rfl, rfl, trivial⟩) ?_
 rintro ⟨k, d, r, ⟨Br, cr⟩, ⟨Bq, Sq, aq, bq, s, X, cx, xs, A, cA, O⟩⟩ wq ⟨hR, hP, hbd, hdn, hk, hr1, hr2, hb_g3⟩
 show WC _ _ _ _ [(1, (.slice Br r.length cr)), (2, (.slice B2 zs.length c2)), (3, (.pointer (some ⟨g3, 0, none⟩))), (6, (.slice X xs.length cx)), (7, (.slice A O.length cA)), (10, (.pointer (some ⟨gn27, 0, none⟩))), (12, (.int .i64 (↑k : Int)))] _
 replace hR : Rst w wq Bq lo gn27 Sq aq bq s X cx xs A cA O := hR
 replace hP : RP i o p d r (xs.map Prod.fst) O s := hP
 replace hbd : b = d ++ r := hbd
 replace hdn : Rdone s := hdn
 replace hk : k + r.length ≤ 300 := hk
 replace hr1 : RdB wq lo1 Lw Br cr r := hr1
 have hBq := hR.hB
 have hlq := hR.hlo
 refine wc_seq (wc_seq (wc_regionL ?_))
 refine vm rfl rfl ?_
 refine wl_val (ov_len Tryz.underlying32 rfl) rfl rfl rfl ?_
 refine wl_val (ov_gtr rfl rfl) rfl rfl rfl ?_
 refine wl_case_d (d := 38) rfl (fun hrl => ?_) (fun hrl => ?_)
 ·refine vm rfl rfl ?_
  refine wl_gval (ov_move rfl) rfl rfl rfl rfl rfl ?_
  refine wl_gstep (or_call0 cl25 rfl rfl (lcphase _ _ Sq aq bq s hR.con)) rfl rfl rfl rfl rfl ?_
  rintro v w3 ⟨rfl, he41⟩
  replace hR := hR.ext he41
  replace hr1 := hr1.ext he41
  replace hr2 := hr2.ext he41
  replace hb_g3 := hb_g3.ext he41
  have hz_he41 := he41.size
  refine wl_gval (ov_neq rfl rfl) rfl rfl rfl rfl rfl ?_
  refine wl_val (ov_pick_t rfl rfl) rfl rfl rfl ?_
  refine q_nil (k_then ?_)
  refine wc_cond_d rfl (fun hc2 => ?_) (fun hc2 => ?_)
  ·have h4 : ¬ s.ph = 4 := by omega
   obtain ⟨hp1, hheld⟩ := rdone_len hP.ri (by omega) (by omega) hdn h4
   refine q_skip (k_then (wc_seq (wc_block (wc_seq (wc_regionL ?_)))))
   refine vm rfl rfl ?_
   refine wl_val (ov_len Tryz.underlying32 rfl) rfl rfl rfl ?_
   refine va rfl rfl ?_
   refine q_nil (k_then ?_)
   refine wc_cut (σ := Nat) (J := fun n w' => 1 ≤ n ∧ n ≤ r.length ∧ Rst w w' Bq lo gn27 Sq aq bq s X cx xs A cA O ∧ RdB w' lo1 Lw Br cr r ∧ RdB w' lo2 Lw B2 c2 zs ∧ Blk w' g3 23 [.int .i64 (↑i : Int), .int .i64 (↑o : Int), .int .i64 (↑p : Int)]) (Lj := fun n => [(1, (.slice Br r.length cr)), (2, (.slice B2 zs.length c2)), (3, (.pointer (some ⟨g3, 0, none⟩))), (6, (.slice X xs.length cx)), (7, (.slice A O.length cA)), (10, (.pointer (some ⟨gn27, 0, none⟩))), (12, (.int .i64 (↑k : Int))), (13, (.int .i64 (↑n : Int)))]) ?_ ?_
   ·refine wc_seq (wc_regionL ?_)
    refine vm rfl rfl ?_
    refine wl_val (ov_len Tryz.underlying32 rfl) rfl rfl rfl ?_
    refine wl_val (ov_gtr rfl rfl) rfl rfl rfl ?_
    refine q_nil (k_then ?_)
    refine wc_cond_d rfl (fun hc3 => ?_) (fun hc3 => ?_)
    ·refine wc_regionL ?_
     iterate 4 refine vm rfl rfl ?_
     refine wl_val (ov_len Tryz.underlying32 rfl) rfl rfl rfl ?_
     refine wl_val (ov_rem rfl rfl (by omega) (show Int.tmod (k : Int) (zs.length : Int) = ((k % zs.length : Nat) : Int) from rfl)) rfl rfl rfl ?_
     have hkm : k % zs.length < zs.length := Nat.mod_lt _ (by omega)
     have hb256 := (zs.getD (k % zs.length) 0).toNat_lt
     refine wl_step (or_bindex bt32 rfl rfl hr2 (by omega) (by omega)) rfl rfl rfl ?_
     rintro v _ ⟨rfl, p57, rfl, hp57, hpl57, hph57⟩
     replace hp57 : World.cell? _ p57 = some (u8v (zs.getD (k % zs.length) 0)) := hp57
     refine wl_val (ov_load oc5 rfl hp57) rfl rfl rfl ?_
     refine wl_val (ov_conv Tryz.underlying5 Tryz.underlying3 rfl (wi64 (by omega) (by omega))) rfl rfl rfl ?_
     refine wl_val (ov_add rfl rfl (wi64 (by omega) (by omega))) rfl rfl rfl ?_
     refine wl_val (ov_min rfl rfl rfl) rfl rfl rfl ?_
     obtain ⟨n, hn1, hn2, hne⟩ : ∃ n : Nat, 1 ≤ n ∧ n ≤ r.length ∧ min (↑r.length : Int) (↑(zs.getD (k % zs.length) 0).toNat + 1) = (n : Int) := ⟨min r.length ((zs.getD (k % zs.length) 0).toNat + 1), by omega, by omega, by omega⟩
     refine wl_spell (d := 61) rfl (v' := (.int .i64 (↑n : Int))) (by rw [hne]) ?_
     refine va rfl rfl ?_
     refine q_nil ?_
     refine k_cut (n) (⟨rfl, rfl, rfl, rfl, rfl, rfl, rfl, rfl, trivial⟩) (⟨hn1, hn2, hR, hr1, hr2, hb_g3⟩)
    ·refine q_skip ?_
     refine k_cut (r.length) (⟨rfl, rfl, rfl, rfl, rfl, rfl, rfl, rfl, trivial⟩) (⟨by omega, Nat.le_refl _, hR, hr1, hr2, hb_g3⟩)
   ·rintro n wn ⟨hn1, hn2, hR, hr1, hr2, hb_g3⟩
    show WC _ _ _ _ [(1, (.slice Br r.length cr)), (2, (.slice B2 zs.length c2)), (3, (.pointer (some ⟨g3, 0, none⟩))), (6, (.slice X xs.length cx)), (7, (.slice A O.length cA)), (10, (.pointer (some ⟨gn27, 0, none⟩))), (12, (.int .i64 (↑k : Int))), (13, (.int .i64 (↑n : Int)))] _
    refine wc_seq (wc_regionL ?_)
    iterate 3 refine vm rfl rfl ?_
    have hcap66 := RdB.cap hr1
    refine wl_step (or_bslice bt32 rfl hr1 (bounds_h rfl (by omega) (by omega)) (by omega) (by omega) (by omega) (by omega)) rfl rfl rfl ?_
    rintro v _ ⟨rfl, A66, c66, rfl, hr66, hl66⟩
    have hs66 : (r.drop 0).take ((Int.toNat (↑n : Int)) - 0) = (r.take n) := (by simp)
    rw [hs66] at hr66 hl66; rw [hs66]; clear hs66
    obtain ⟨m, hm1, hm2, hdel, hP2⟩ := rp_del hP hp1 hn1 hn2 (by omega)
    refine wl_step (or_call0 cl16 rfl rfl (lcdel _ _ Sq aq bq s hR.con lo1 Lw A66 c66 (r.take n) hr66 (fun x hx => by have := (hR.sS x hx).1; omega) (by rw [List.length_take]; omega))) rfl rfl rfl ?_
    rintro v w204 ⟨rfl, hto67⟩
    rw [hdel] at hto67
    have hRo67 := hR
    obtain ⟨S67, a67, b67, hRn67, hk67, hS67⟩ := hR.step hto67
    replace hR : Rst w w204 w204.heap.size lo gn27 S67 a67 b67 (cnPut s (r.take m)) X cx xs A cA O := hRn67
    have hz67 := hk67.size
    have hBo67 := hRo67.hB
    replace hr1 := hk67.rd hr1 (fun x hx => by have := (hRo67.sS x hx).1; omega)
    replace hr2 := hk67.rd hr2 (fun x hx => by have := (hRo67.sS x hx).1; omega)
    replace hb_g3 := hk67.bk hb_g3 (fun hx => by have := hRo67.sS _ hx; omega)
    refine vm rfl rfl ?_
    refine vx rfl rfl rfl ?_
    refine wl_spell (d := 68) rfl (v' := (.int .i64 (↑m : Int))) (by rw [hdel]; rfl) ?_
    refine vx rfl rfl rfl ?_
    refine wl_spell (d := 69) rfl (v' := (.int .i64 0)) (by rw [hdel]; rfl) ?_
    iterate 2 refine va rfl rfl ?_
    refine q_nil (k_then (wc_seq (wc_seq (wc_regionL ?_))))
    refine vm rfl rfl ?_
    refine wl_val (ov_neq rfl rfl) rfl rfl rfl ?_
    refine q_nil (k_then ?_)
    refine wc_cond_f rfl ?_
    refine q_skip (k_then (wc_seq (wc_regionL ?_)))
    iterate 2 refine vm rfl rfl ?_
    have hcap74 := RdB.cap hr1
    refine wl_step (or_bslice bt32 rfl hr1 (bounds_l rfl (by omega) (by omega)) (by omega) (by omega) (by omega) (by omega)) rfl rfl rfl ?_
    rintro v _ ⟨rfl, A74, c74, rfl, hr74, hl74⟩
    have hs74 : (r.drop (Int.toNat (↑m : Int))).take (r.length - (Int.toNat (↑m : Int))) = (r.drop m) := (by rw [Int.toNat_natCast]; exact List.take_of_length_le (by rw [List.length_drop]; omega))
    rw [hs74] at hr74 hl74; rw [hs74]; clear hs74
    refine va rfl rfl ?_
    refine q_nil (k_then (wc_seq (wc_regionL ?_)))
    refine va rfl rfl ?_
    refine q_nil (k_then (wc_block ?_))
    refine wc_loop (σ := Bool × RS) (fun s => 2 * rmu s.2.s + (if s.1 = true then 1 else 0)) (fun s => [(1, (.slice A74 (r.drop m).length c74)), (2, (.slice B2 zs.length c2)), (3, (.pointer (some ⟨g3, 0, none⟩))), (6, (.slice s.2.X s.2.xs.length s.2.cx)), (7, (.slice s.2.A s.2.O.length s.2.cA)), (10, (.pointer (some ⟨gn27, 0, none⟩))), (12, (.int .i64 (↑k : Int))), (16, (.bool s.1))]) (fun s w' => Rst w w' s.2.B lo gn27 s.2.S s.2.a s.2.b s.2.s s.2.X s.2.cx s.2.xs s.2.A s.2.cA s.2.O ∧ RP i o p (d ++ r.take m) (r.drop m) (s.2.xs.map Prod.fst) s.2.O s.2.s ∧ (s.1 = false → Rdone s.2.s) ∧ RdB w' lo1 Lw A74 c74 (r.drop m) ∧ RdB w' lo2 Lw B2 c2 zs ∧ Blk w' g3 23 [.int .i64 (↑i : Int), .int .i64 (↑o : Int), .int .i64 (↑p : Int)]) ((true, ⟨w204.heap.size, S67, a67, b67, (cnPut s (r.take m)), X, cx, xs, A, cA, O⟩)) (⟨hR, hP2, (fun q => by cases q), hr74, hr2, hb_g3⟩) (⟨rfl, rfl, rfl, rfl, rfl, rfl, rfl, rfl, trivial⟩) ?_
    rintro ⟨mo, ⟨Bz, Sz, az, bz, u, Y, cy, ys, D, cD, Q⟩⟩ wl ⟨hR, hP, hdm, hr74, hr2, hb_g3⟩
    show WC _ _ _ _ [(1, (.slice A74 (r.drop m).length c74)), (2, (.slice B2 zs.length c2)), (3, (.pointer (some ⟨g3, 0, none⟩))), (6, (.slice Y ys.length cy)), (7, (.slice D Q.length cD)), (10, (.pointer (some ⟨gn27, 0, none⟩))), (12, (.int .i64 (↑k : Int))), (16, (.bool mo))] _
    replace hR : Rst w wl Bz lo gn27 Sz az bz u Y cy ys D cD Q := hR
    replace hP : RP i o p (d ++ r.take m) (r.drop m) (ys.map Prod.fst) Q u := hP
    replace hdm : mo = false → Rdone u := hdm
    have hBz := hR.hB
    have hlz := hR.hlo
    refine wc_seq (wc_seq (wc_regionL ?_))
    refine vm rfl rfl ?_
    refine q_nil (k_then ?_)
    refine wc_cond rfl (fun hc5 => ?_) (fun hc5 => ?_)
    ·subst hc5
     refine q_skip (k_then (wc_block (wc_seq (wc_regionL ?_))))
     refine vm rfl rfl ?_
     have hkp := step_keep u
     have hci := hP.ri.ci
     have hco := hP.ri.co
     refine wl_step (or_call0 cl17 rfl rfl (lcstep _ _ Sz az bz u hR.con (by have h1 := hP.pt; have h2 := hP.bO; omega))) rfl rfl rfl ?_
     rintro v w205 ⟨rfl, hto78⟩
     have hRo78 := hR
     obtain ⟨S78, a78, b78, hRn78, hk78, hS78⟩ := hR.step hto78
     replace hR : Rst w w205 w205.heap.size lo gn27 S78 a78 b78 (cnStep u).1 Y cy ys D cD Q := hRn78
     have hz78 := hk78.size
     have hBo78 := hRo78.hB
     replace hr74 := hk78.rd hr74 (fun x hx => by have := (hRo78.sS x hx).1; omega)
     replace hr2 := hk78.rd hr2 (fun x hx => by have := (hRo78.sS x hx).1; omega)
     replace hb_g3 := hk78.bk hb_g3 (fun hx => by have := hRo78.sS _ hx; omega)
     have hsz := hR.sz
     refine vm rfl rfl ?_
     iterate 2 refine vx rfl rfl rfl ?_
     iterate 2 refine va rfl rfl ?_
     refine q_nil (k_then (wc_seq (wc_regionL ?_)))
     refine vm rfl rfl ?_
     refine wl_step (or_call0 cl21 rfl rfl (lcsizes _ _ S78 a78 b78 (cnStep u).1 hR.con)) rfl rfl rfl ?_
     rintro v w206 ⟨rfl, he83⟩
     replace hR := hR.ext he83
     replace hr74 := hr74.ext he83
     replace hr2 := hr2.ext he83
     replace hb_g3 := hb_g3.ext he83
     have hz_he83 := he83.size
     refine vm rfl rfl ?_
     iterate 2 refine vx rfl rfl rfl ?_
     iterate 2 refine va rfl rfl ?_
     refine q_nil (k_then (wc_seq (wc_seq (wc_regionL ?_))))
     refine vm rfl rfl ?_
     refine wl_val (ov_neq rfl rfl) rfl rfl rfl ?_
     refine vm rfl rfl ?_
     refine wl_gval (ov_move rfl) rfl rfl rfl rfl rfl ?_
     refine wl_gval (ov_field0 (off := 0) fo23_0 rfl) rfl rfl rfl rfl rfl ?_
     refine wl_gval (ov_loadAt oc3 rfl hb_g3 rfl) rfl rfl rfl rfl rfl ?_
     refine wl_gval (ov_gtr rfl rfl) rfl rfl rfl rfl rfl ?_
     refine wl_spell (d := 92) rfl (bf (by omega)) ?_
     refine wl_val (ov_pick_f rfl rfl) rfl rfl rfl ?_
     refine vm rfl rfl ?_
     refine wl_gval (ov_move rfl) rfl rfl rfl rfl rfl ?_
     refine wl_gval (ov_field0 (off := 1) fo23_1 rfl) rfl rfl rfl rfl rfl ?_
     refine wl_gval (ov_loadAt oc3 rfl hb_g3 rfl) rfl rfl rfl rfl rfl ?_
     refine wl_gval (ov_gtr rfl rfl) rfl rfl rfl rfl rfl ?_
     refine wl_spell (d := 98) rfl (bf (by omega)) ?_
     refine wl_val (ov_pick_f rfl rfl) rfl rfl rfl ?_
     refine q_nil (k_then ?_)
     refine wc_cond_f rfl ?_
     refine q_skip (k_then (wc_seq (wc_regionL ?_)))
     refine vm rfl rfl ?_
     refine wl_val (ov_neq rfl rfl) rfl rfl rfl ?_
     refine va rfl rfl ?_
     refine q_nil (k_then (wc_seq (wc_seq (wc_regionL ?_))))
     refine vm rfl rfl ?_
     refine ve rfl rfl rfl ?_
     refine q_nil (k_then ?_)
     refine wc_cond_d rfl (fun hc7 => ?_) (fun hc7 => ?_)
     ·obtain ⟨hT1, hT2, hT3, hT4, hT5, hT6, hT7⟩ := rp_T hP (by omega) hc7
      rw [hT1] at hR
      refine wc_seq (wc_regionL ?_)
      refine vm rfl rfl ?_
      have hRc := hR
      obtain ⟨Lc, hLc⟩ : ∃ n, n = w206.heap.size := ⟨_, rfl⟩
      have hBc := hRc.hB
      refine wl_step (or_call0 cl18 rfl rfl (lccmd _ _ S78 a78 b78 u hR.con)) rfl rfl rfl ?_
      rintro v w207 ⟨K106, ck106, V106, cv106, T106, ct106, rfl, hK106, hV106, hT106, he106⟩
      replace hR := hR.ext he106
      replace hr74 := hr74.ext he106
      replace hr2 := hr2.ext he106
      replace hb_g3 := hb_g3.ext he106
      have hz_he106 := he106.size
      have hXR : XR w207 Lc w207.heap.size (cnCmd u, K106, ck106, V106, cv106, T106, ct106) := by rw [hLc]; exact ⟨hK106, hV106, hT106⟩
      obtain ⟨Hc, hHc⟩ : ∃ n, n = w207.heap.size := ⟨_, rfl⟩
      rw [← hHc] at hXR
      refine vm rfl rfl ?_
      iterate 2 refine vx rfl rfl rfl ?_
      refine wl_step (or_alloc (cs := [(.int .i64 0), (.string (strB [])), (.slice none 0 0), (.slice none 0 0), (.slice none 0 0), (.int .u64 0), (.int .u64 0), (.string (strB [])), (.string (strB [])), (.string (strB []))]) ze39 rfl) rfl rfl rfl ?_
      rintro v w208 ⟨g21, rfl, hb_g21, he21, hl21, hu21⟩
      replace hR := hR.ext he21
      replace hr74 := hr74.ext he21
      replace hr2 := hr2.ext he21
      replace hb_g3 := hb_g3.ext he21
      replace hXR := hXR.ext he21
      have hz_he21 := he21.size
      refine wl_step0 (or_storeBlk (vs := [(.int .i64 (cnCmd u).op), (.string (strB (cnCmd u).key)), (.slice K106 (cnCmd u).keys.length ck106), (.slice V106 (cnCmd u).value.length cv106), (.slice T106 (cnCmd u).tags.length ct106), (.int .u64 (↑(cnCmd u).life : Int)), (.int .u64 (↑(cnCmd u).ver : Int)), (.string (strB (cnCmd u).tag)), (.string (strB (cnCmd u).pre)), (.string (strB (cnCmd u).child))]) sz39 rfl rfl (by simp [Value.oneCell']) hb_g21 rfl) rfl rfl ?_
      rintro _ w209 ⟨hN209, hg209⟩
      have hz_hg209 := hg209.size
      replace hR := hR.grf hg209 (by omega)
      replace hr74 := hr74.gr hg209 (fun _ e => by cases e; omega)
      replace hr2 := hr2.gr hg209 (fun _ e => by cases e; omega)
      replace hb_g3 := hb_g3.gr hg209 (by intro e; cases e; omega)
      replace hXR := hXR.gr hg209 (fun x q => by cases q; right; omega)
      replace hb_g21 := hN209
      refine va rfl rfl ?_
      refine q_nil (k_then (wc_seq (wc_seq (wc_regionL ?_))))
      refine vm rfl rfl ?_
      refine wl_val (ov_neq rfl rfl) rfl rfl rfl ?_
      refine wl_spell (d := 110) rfl (bf (by rw [show cnIn u 2 = 0 from if_pos hT2]; exact fun q => q rfl)) ?_
      refine vm rfl rfl ?_
      refine wl_gval (ov_move rfl) rfl rfl rfl rfl rfl ?_
      refine wl_gval (ov_field0 (off := 0) fo39_0 rfl) rfl rfl rfl rfl rfl ?_
      refine wl_gval (ov_loadAt oc34 rfl hb_g21 rfl) rfl rfl rfl rfl rfl ?_
      refine wl_gval (ov_build (cs := [(.int .i64 (cnCmd u).op), (.int .i64 9), (.slice none 0 0), (.int .u64 0), (.int .i64 0), (.slice none 0 0)]) ze43 pl43 rfl rfl) rfl rfl rfl rfl rfl ?_
      refine wl_gstep (or_call0 cl24 rfl rfl (lcans _ _ S78 a78 b78 u hR.con (rspO (cnCmd u).op 9) [] rfl 0 0 none 0 none 0 (RdI.nil _ 0 0) (Rd.nil _ _ _ _ _ _ (Nat.zero_le _)) (rspok_e _ _) (rsz_e _ _))) rfl rfl rfl rfl rfl ?_
      rintro v w210 ⟨rfl, hto116⟩
      have hRo116 := hR
      obtain ⟨S116, a116, b116, hRn116, hk116, hS116⟩ := hR.step hto116
      replace hR : Rst w w210 w210.heap.size lo gn27 S116 a116 b116 (cnAns u (rspO (cnCmd u).op 9)).1 Y cy ys D cD Q := hRn116
      have hz116 := hk116.size
      have hBo116 := hRo116.hB
      replace hr74 := hk116.rd hr74 (fun x hx => by have := (hRo116.sS x hx).1; omega)
      replace hr2 := hk116.rd hr2 (fun x hx => by have := (hRo116.sS x hx).1; omega)
      replace hb_g3 := hk116.bk hb_g3 (fun hx => by have := hRo116.sS _ hx; omega)
      replace hXR := hXR.kp hk116 (fun x hx => .inl (by have := (hRo116.sS x hx).2; omega))
      replace hb_g21 := hk116.bk hb_g21 (fun hx => by have := hRo116.sS _ hx; omega)
      have hq3 : ∀ y ∈ S116, y < Lc ∨ Hc ≤ y := fun y hy => (hS116 y hy).elim (fun q => .inl (by have := (hRo116.sS y q).2; omega)) (fun q => .inr (by omega))
      refine wl_gval (ov_neq rfl rfl) rfl rfl rfl rfl rfl ?_
      refine wl_spell (d := 117) rfl (bf (by rw [hT4]; exact fun q => q rfl)) ?_
      refine wl_val (ov_pick_f rfl rfl) rfl rfl rfl ?_
      refine q_nil (k_then ?_)
      refine wc_cond_f rfl ?_
      refine q_skip (k_then (wc_regionL ?_))
      refine vm rfl rfl ?_
      refine wl_val (ov_loadBlk (cs := [(.int .i64 (cnCmd u).op), (.string (strB (cnCmd u).key)), (.slice K106 (cnCmd u).keys.length ck106), (.slice V106 (cnCmd u).value.length cv106), (.slice T106 (cnCmd u).tags.length ct106), (.int .u64 (↑(cnCmd u).life : Int)), (.int .u64 (↑(cnCmd u).ver : Int)), (.string (strB (cnCmd u).tag)), (.string (strB (cnCmd u).pre)), (.string (strB (cnCmd u).child))]) ag39_10 rfl hb_g21) rfl rfl rfl ?_
      refine wl_step (or_buildSliceF (cs := xcc (cnCmd u, K106, ck106, V106, cv106, T106, ct106)) sl85 rfl (by kernel_rfl) (by decide) (by decide)) rfl rfl rfl ?_
      rintro v w211 ⟨g121, rfl, hb_g121, he121, hl121, hu121⟩
      replace hR := hR.ext he121
      replace hr74 := hr74.ext he121
      replace hr2 := hr2.ext he121
      replace hb_g3 := hb_g3.ext he121
      replace hXR := hXR.ext he121
      have hz_he121 := he121.size
      refine wl_step (or_append sl85 rfl hR.rx rfl (Blk.rdF (size := 10) hb_g121 rfl (by decide)) (xcc_one (cnCmd u, K106, ck106, V106, cv106, T106, ct106)) (by omega) (by simp only [maxLen]; omega) (by have h1 := hR.hlo; have h2 := hR.hB; omega)) rfl rfl rfl ?_
      rintro v w212 hap122
      have hRo122 := hR
      obtain ⟨A122, c122, rfl, hRn122, hgA122⟩ := hR.appL hXR (by omega) (by have h1 := hRc.hlo; omega) hq3 (fun y q => .inl (by have := (hRc.sX y q).1; omega)) (fun y q => .inl (by have := (hRc.sA y q).1; omega)) (by rw [List.length_append]; rfl) hap122
      replace hR : Rst w w212 w212.heap.size lo gn27 S116 a116 b116 (cnAns u (rspO (cnCmd u).op 9)).1 A122 c122 (ys ++ [(cnCmd u, K106, ck106, V106, cv106, T106, ct106)]) D cD Q := hRn122
      have hz122 := hgA122.size
      have hlo122 := hRo122.hlo
      replace hr74 := hr74.gr hgA122 (fun x q => by have := (Own.lt hRo122.rx q).1; omega)
      replace hr2 := hr2.gr hgA122 (fun x q => by have := (Own.lt hRo122.rx q).1; omega)
      replace hb_g3 := hb_g3.gr hgA122 (fun q => by have := (Own.lt hRo122.rx q).1; omega)
      have hF := hT5 (cnCmd u, K106, ck106, V106, cv106, T106, ct106) rfl
      refine va rfl rfl ?_
      refine q_nil (k_then (wc_seq (wc_regionL ?_)))
      refine vm rfl rfl ?_
      refine wl_val (ov_field0 (off := 1) fo23_1 rfl) rfl rfl rfl ?_
      refine wl_val (ov_loadAt oc3 rfl hb_g3 rfl) rfl rfl rfl ?_
      refine wl_step (or_call0 cl20 rfl rfl (lcdrain _ _ S116 a116 b116 (cnAns u (rspO (cnCmd u).op 9)).1 hR.con (o : Int) (by omega) (by omega) (by have h1 := hP.tk; have h2 := hP.bO; have h3 := hkp.2.2; omega))) rfl rfl rfl ?_
      rintro v w213 ⟨A127, c127, rfl, ho127, hto127⟩
      have hRo127 := hR
      obtain ⟨S127, a127, b127, hRn127, hk127, hS127⟩ := hR.step hto127
      replace hR : Rst w w213 w213.heap.size lo gn27 S127 a127 b127 (cnDr (cnAns u (rspO (cnCmd u).op 9)).1 (o : Int)).1 A122 c122 (ys ++ [(cnCmd u, K106, ck106, V106, cv106, T106, ct106)]) D cD Q := hRn127
      have hz127 := hk127.size
      have hBo127 := hRo127.hB
      replace hr74 := hk127.rd hr74 (fun x hx => by have := (hRo127.sS x hx).1; omega)
      replace hr2 := hk127.rd hr2 (fun x hx => by have := (hRo127.sS x hx).1; omega)
      replace hb_g3 := hk127.bk hb_g3 (fun hx => by have := hRo127.sS _ hx; omega)
      refine vm rfl rfl ?_
      iterate 2 refine vx rfl rfl rfl ?_
      iterate 2 refine va rfl rfl ?_
      refine q_nil (k_then (wc_seq (wc_seq (wc_regionL ?_))))
      refine vm rfl rfl ?_
      refine wl_val (ov_neq rfl rfl) rfl rfl rfl ?_
      refine wl_spell (d := 131) rfl (bf (by rw [hF.e]; exact fun q => q rfl)) ?_
      refine q_nil (k_then ?_)
      refine wc_cond_f rfl ?_
      refine q_skip (k_then (wc_regionL ?_))
      iterate 2 refine vm rfl rfl ?_
      have hlap := hF.rp.bO
      refine wl_step (or_bappend bt32 rfl hR.ro rfl (OwnB.rd ho127) (by have h := hF.rp.bO; rw [List.length_append] at h; omega) (by have h1 := hR.hlo; have h2 := hR.hB; omega)) rfl rfl rfl ?_
      rintro v w214 hap134
      have hRo134 := hR
      obtain ⟨A134, c134, rfl, hRn134, hgA134⟩ := hR.appO hap134
      replace hR : Rst w w214 w214.heap.size lo gn27 S127 a127 b127 (cnDr (cnAns u (rspO (cnCmd u).op 9)).1 (o : Int)).1 A122 c122 (ys ++ [(cnCmd u, K106, ck106, V106, cv106, T106, ct106)]) A134 c134 (Q ++ (bpeek (cnAns u (rspO (cnCmd u).op 9)).1.out (o : Int)).1) := hRn134
      have hz134 := hgA134.size
      have hlo134 := hRo134.hlo
      replace hr74 := hr74.gr hgA134 (fun x q => by have := (Own.lt hRo134.ro q).1; omega)
      replace hr2 := hr2.gr hgA134 (fun x q => by have := (Own.lt hRo134.ro q).1; omega)
      replace hb_g3 := hb_g3.gr hgA134 (fun q => by have := (Own.lt hRo134.ro q).1; omega)
      refine va rfl rfl ?_
      refine q_nil (k_block ?_)
      refine k_loop ((decide (((cnStep u).2 : Int) ≠ 0), ⟨w214.heap.size, S127, a127, b127, (cnDr (cnAns u (rspO (cnCmd u).op 9)).1 (o : Int)).1, A122, c122, (ys ++ [(cnCmd u, K106, ck106, V106, cv106, T106, ct106)]), A134, c134, (Q ++ (bpeek (cnAns u (rspO (cnCmd u).op 9)).1.out (o : Int)).1)⟩)) (lt_more hF.lt) (⟨rfl, rfl, rfl, rfl, rfl, rfl, rfl, rfl, trivial⟩) (⟨hR, hF.rp, fun q => hF.dn (by have := of_decide_eq_false q; omega), hr74, hr2, hb_g3⟩)
     ·have hF := rp_F hP (by omega) hc7
      refine q_skip (k_then (wc_seq (wc_regionL ?_)))
      refine vm rfl rfl ?_
      refine wl_val (ov_field0 (off := 1) fo23_1 rfl) rfl rfl rfl ?_
      refine wl_val (ov_loadAt oc3 rfl hb_g3 rfl) rfl rfl rfl ?_
      refine wl_step (or_call0 cl20 rfl rfl (lcdrain _ _ S78 a78 b78 (cnStep u).1 hR.con (o : Int) (by omega) (by omega) (by have h1 := hP.tk; have h2 := hP.bO; have h3 := hkp.2.2; omega))) rfl rfl rfl ?_
      rintro v w207 ⟨A127, c127, rfl, ho127, hto127⟩
      have hRo127 := hR
      obtain ⟨S127, a127, b127, hRn127, hk127, hS127⟩ := hR.step hto127
      replace hR : Rst w w207 w207.heap.size lo gn27 S127 a127 b127 (cnDr (cnStep u).1 (o : Int)).1 Y cy ys D cD Q := hRn127
      have hz127 := hk127.size
      have hBo127 := hRo127.hB
      replace hr74 := hk127.rd hr74 (fun x hx => by have := (hRo127.sS x hx).1; omega)
      replace hr2 := hk127.rd hr2 (fun x hx => by have := (hRo127.sS x hx).1; omega)
      replace hb_g3 := hk127.bk hb_g3 (fun hx => by have := hRo127.sS _ hx; omega)
      refine vm rfl rfl ?_
      iterate 2 refine vx rfl rfl rfl ?_
      iterate 2 refine va rfl rfl ?_
      refine q_nil (k_then (wc_seq (wc_seq (wc_regionL ?_))))
      refine vm rfl rfl ?_
      refine wl_val (ov_neq rfl rfl) rfl rfl rfl ?_
      refine wl_spell (d := 131) rfl (bf (by rw [hF.e]; exact fun q => q rfl)) ?_
      refine q_nil (k_then ?_)
      refine wc_cond_f rfl ?_
      refine q_skip (k_then (wc_regionL ?_))
      iterate 2 refine vm rfl rfl ?_
      have hlap := hF.rp.bO
      refine wl_step (or_bappend bt32 rfl hR.ro rfl (OwnB.rd ho127) (by have h := hF.rp.bO; rw [List.length_append] at h; omega) (by have h1 := hR.hlo; have h2 := hR.hB; omega)) rfl rfl rfl ?_
      rintro v w208 hap134
      have hRo134 := hR
      obtain ⟨A134, c134, rfl, hRn134, hgA134⟩ := hR.appO hap134
      replace hR : Rst w w208 w208.heap.size lo gn27 S127 a127 b127 (cnDr (cnStep u).1 (o : Int)).1 Y cy ys A134 c134 (Q ++ (bpeek (cnStep u).1.out (o : Int)).1) := hRn134
      have hz134 := hgA134.size
      have hlo134 := hRo134.hlo
      replace hr74 := hr74.gr hgA134 (fun x q => by have := (Own.lt hRo134.ro q).1; omega)
      replace hr2 := hr2.gr hgA134 (fun x q => by have := (Own.lt hRo134.ro q).1; omega)
      replace hb_g3 := hb_g3.gr hgA134 (fun q => by have := (Own.lt hRo134.ro q).1; omega)
      refine va rfl rfl ?_
      refine q_nil (k_block ?_)
      refine k_loop ((decide (((cnStep u).2 : Int) ≠ 0), ⟨w208.heap.size, S127, a127, b127, (cnDr (cnStep u).1 (o : Int)).1, Y, cy, ys, A134, c134, (Q ++ (bpeek (cnStep u).1.out (o : Int)).1)⟩)) (lt_more hF.lt) (⟨rfl, rfl, rfl, rfl, rfl, rfl, rfl, rfl, trivial⟩) (⟨hR, hF.rp, fun q => hF.dn (by have := of_decide_eq_false q; omega), hr74, hr2, hb_g3⟩)
    ·subst hc5
     refine q_exit (k_thenX (k_thenX (k_blockE (k_block (k_then (wc_regionL ?_))))))
     refine vm rfl rfl ?_
     refine wl_val (ov_add rfl rfl (wi64 (by omega) (by omega))) rfl rfl rfl ?_
     refine va rfl rfl ?_
     refine q_nil ?_
     refine k_loop ((k + 1, d ++ r.take m, r.drop m, (A74, c74), ⟨Bz, Sz, az, bz, u, Y, cy, ys, D, cD, Q⟩)) (by show (r.drop m).length < r.length; rw [List.length_drop]; omega) (⟨rfl, rfl, rfl, rfl, rfl, rfl, rfl, trivial⟩) (⟨hR, hP, by show b = d ++ r.take m ++ r.drop m; rw [List.append_assoc, List.take_append_drop]; exact hbd, hdm rfl, by show k + 1 + (r.drop m).length ≤ 300; rw [List.length_drop]; omega, hr74, hr2, hb_g3⟩)
  ·refine q_exit (k_thenX (k_thenX (k_blockE (k_then (wc_seq (wc_regionL ?_))))))
   iterate 3 refine vm rfl rfl ?_
   refine wl_step (or_call0 cl25 rfl rfl (lcphase _ _ Sq aq bq s hR.con)) rfl rfl rfl ?_
   rintro v w204 ⟨rfl, he138⟩
   replace hR := hR.ext he138
   have hz_he138 := he138.size
   refine ve rfl rfl rfl ?_
   iterate 4 refine va rfl rfl ?_
   refine q_nil (k_then (q_ret ?_))
   refine e_retL (rs := [.tmp 6, .tmp 7, .tmp 8, .tmp 9]) (vs := [(.slice X xs.length cx), (.slice A O.length cA), (.bool (decide ((↑s.ph : Int) = 4))), (.bool true)]) rfl ⟨rfl, rfl, rfl, rfl, trivial⟩ ?_
   exact run_end hR hP hbd (by omega) hdn (by first | exact .inr (List.eq_nil_of_length_eq_zero (by omega)) | exact .inl (by omega))
 ·refine vm rfl rfl ?_
  iterate 3 refine wl_gskip rfl rfl rfl rfl rfl rfl ?_
  refine wl_val (ov_pick_f rfl rfl) rfl rfl rfl ?_
  refine q_nil (k_then ?_)
  refine wc_cond_f rfl ?_
  refine q_exit (k_thenX (k_thenX (k_blockE (k_then (wc_seq (wc_regionL ?_))))))
  iterate 3 refine vm rfl rfl ?_
  refine wl_step (or_call0 cl25 rfl rfl (lcphase _ _ Sq aq bq s hR.con)) rfl rfl rfl ?_
  rintro v w203 ⟨rfl, he138⟩
  replace hR := hR.ext he138
  have hz_he138 := he138.size
  refine ve rfl rfl rfl ?_
  iterate 4 refine va rfl rfl ?_
  refine q_nil (k_then (q_ret ?_))
  refine e_retL (rs := [.tmp 6, .tmp 7, .tmp 8, .tmp 9]) (vs := [(.slice X xs.length cx), (.slice A O.length cA), (.bool (decide ((↑s.ph : Int) = 4))), (.bool true)]) rfl ⟨rfl, rfl, rfl, rfl, trivial⟩ ?_
  exact run_end hR hP hbd (by omega) hdn (by first | exact .inr (List.eq_nil_of_length_eq_zero (by omega)) | exact .inl (by omega))
end Go.Proofs.YtiighkbehiddkaaGreat