/-
  The walk of FrameRows.
-/
import Derived.Test.YtfniipfdpoeapaaFa
import Derived.Test.YtfniipfdpoeapaaItems
namespace Go.Proofs.Ytfniipfdpoeapaa
open Go.RowKit
set_option linter.unusedVariables false
theorem cl14 : callable Try.prog 14 = true := by kernel_rfl
theorem oc3 : oneCellTy Try.prog 3 = true := by kernel_rfl
theorem sl39 : SliceTy Try.prog 39 25 2 32 (.agg #[(.int .u8 0), (.slice none 0 0)]) := sliceTy_mk Try.underlying39 (by kernel_rfl) rfl (by decide)
theorem sl40 : SliceTy Try.prog 40 3 1 8 (.int .i64 0) := sliceTy_mk Try.underlying40 (by kernel_rfl) rfl (by decide)

/-- Frames, their cells. -/
abbrev Fr := UInt8 × Option Addr × Nat × List UInt8
def frc (x : Fr) : List Value := [.int .u8 (x.1.toNat : Int), .slice x.2.1 x.2.2.2.length x.2.2.1]
def frW (x : UInt8) (p : List UInt8) : List UInt8 := enc (p.length + 1) ++ [x] ++ p
/-- What is written of frames. -/
def wireF (xs : List Fr) : List UInt8 := xs.flatMap fun f => frW f.1 f.2.2.2
theorem wireF_take {xs : List Fr} {k c : Nat} {x : UInt8} {A : Option Addr} {p : List UInt8} (h : xs[k]? = some (x, A, c, p)) : wireF (xs.take (k + 1)) = wireF (xs.take k) ++ frW x p := by
  rw [List.take_add_one, h, wireF, List.flatMap_append]
  simp [wireF]
theorem wireF_drop {xs : List Fr} {k c : Nat} {x : UInt8} {A : Option Addr} {p : List UInt8} (h : xs[k]? = some (x, A, c, p)) : (wireF xs).drop (wireF (xs.take k)).length = frW x p ++ wireF (xs.drop (k + 1)) := by
  obtain ⟨hk, he⟩ := List.getElem?_eq_some_iff.1 h
  have e : xs = xs.take k ++ (x, A, c, p) :: xs.drop (k + 1) := by rw [← he, List.getElem_cons_drop, List.take_append_drop]
  have e2 : wireF xs = wireF (xs.take k) ++ (frW x p ++ wireF (xs.drop (k + 1))) := by
    rw [wireF, e, List.flatMap_append, List.flatMap_cons]
    simp only [← e]
    rfl
  rw [e2, List.drop_left]
theorem wireF_le {xs : List Fr} (k : Nat) : (wireF (xs.take k)).length ≤ (wireF xs).length := by
  have e : wireF xs = wireF (xs.take k) ++ wireF (xs.drop k) := by rw [wireF, wireF, wireF, ← List.flatMap_append, List.take_append_drop]
  rw [e, List.length_append]
  omega
theorem frW_len (x : UInt8) (p : List UInt8) : (frW x p).length = (enc (p.length + 1)).length + (p.length + 1) := by simp [frW]
theorem fwrite_frW {x : UInt8} {p : List UInt8} (h : p.length ≤ 2097152) : fwrite x p = (frW x p, 0) := fwrite_short h
/-- Where the frames end. -/
def endV (xs : List Fr) (i : Nat) : Value := .int .i64 ((wireF (xs.take (i + 1))).length : Int)
def endsV (xs : List Fr) (k : Nat) : List Value := (List.range k).map (endV xs)
theorem endsV_succ (xs : List Fr) (k : Nat) : endsV xs (k + 1) = endsV xs k ++ [endV xs k] := by rw [endsV, List.range_succ, List.map_append]; rfl
theorem endsV_get {xs : List Fr} {n k : Nat} (h : k < n) : (endsV xs n)[k]? = some (endV xs k) := by simp [endsV, h]
theorem endsV_len (xs : List Fr) (k : Nat) : (endsV xs k).length = k := by simp [endsV]
theorem take_all_leF {xs : List Fr} {k m c : Nat} {x : UInt8} {A : Option Addr} {p : List UInt8} (h : xs[k]? = some (x, A, c, p)) (hb : p.length ≤ m) (ha : ∀ f ∈ xs.take k, f.2.2.2.length ≤ m) : ∀ f ∈ xs.take (k + 1), f.2.2.2.length ≤ m := by
  intro f hf
  rw [List.take_add_one, h, List.mem_append] at hf
  rcases hf with hf | hf
  · exact ha f hf
  · simp at hf; subst hf; exact hb
/-- The rest of what is left begins with a frame, or with less of one. -/
theorem rest_cut {t u : List UInt8} {a m : Nat} (h : m < a + t.length) (ha : a ≤ m) : (t ++ u).take (m - a) = t.take (m - a) := List.take_append_of_le_length (by omega)
theorem rest_whole {t u : List UInt8} {a m : Nat} (h : a + t.length ≤ m) : (t ++ u).take (m - a) = t ++ u.take (m - a - t.length) := by
  rw [List.take_append, List.take_of_length_le (by omega)]

set_option maxHeartbeats 1000000 in
theorem frameRows_walk (w : World) (lox hix : Nat) (C : Option Addr) (cx : Nat) (xs : List Fr) (cut : Nat) (hcut : cut < 256) (hrx : RdR w lox hix 2 frc C cx xs) (hQ : ∀ f ∈ xs, RdB w 0 w.heap.size f.2.1 f.2.2.1 f.2.2.2) :
    Fn Try.prog 5 #[(.slice C xs.length cx), (.int .u8 (↑cut : Int))] w (fun v w' => v = .bool true ∧ Ext w w') := by
  replace hrx := hrx.top
  have hE := ext_refl w
  refine fn_enter (args := [(.slice C xs.length cx), (.int .u8 (↑cut : Int))]) Try.func5 rfl rfl rfl ?_
  show WC _ _ _ _ [(0, (.slice C xs.length cx)), (1, (.int .u8 (↑cut : Int)))] _
  refine wc_seq ?_
  refine wc_regionL ?_
  refine wl_val (ov_assign rfl) rfl rfl rfl ?_
  refine q_nil ?_
  refine k_then ?_
  refine wc_seq ?_
  refine wc_seq ?_
  refine wc_regionL ?_
  refine wl_val (ov_move rfl) rfl rfl rfl ?_
  refine wl_val (ov_len Try.underlying39 rfl) rfl rfl rfl ?_
  refine wl_val (ov_gtr rfl rfl) rfl rfl rfl ?_
  refine q_nil ?_
  refine k_then ?_
  refine wc_cond_d rfl (fun hc1 => ?_) (fun hc1 => ?_)
  · refine wc_seq ?_
    refine wc_regionL ?_
    refine wl_step (or_call0 cl14 rfl rfl (known05_any _)) rfl rfl rfl ?_
    rintro v w1 ⟨rfl, he17⟩
    replace hrx := hrx.ext he17
    replace hE := hE.tr he17
    have hz_he17 := he17.size
    refine wl_val (ov_assign rfl) rfl rfl rfl ?_
    refine q_nil ?_
    refine k_then ?_
    refine q_ret ?_
    refine k_thenR ?_
    refine e_ret rfl rfl ?_
    exact ⟨rfl, hE⟩
  · refine q_skip ?_
    refine k_then ?_
    refine wc_seq ?_
    refine wc_regionL ?_
    refine wl_val (ov_assign rfl) rfl rfl rfl ?_
    refine q_nil ?_
    refine k_then ?_
    refine wc_seq ?_
    refine wc_regionL ?_
    refine wl_val (ov_assign rfl) rfl rfl rfl ?_
    refine q_nil ?_
    refine k_then ?_
    refine wc_seq ?_
    refine wc_seq ?_
    refine wc_regionL ?_
    refine wl_val (ov_move rfl) rfl rfl rfl ?_
    refine wl_val (ov_len Try.underlying39 rfl) rfl rfl rfl ?_
    refine wl_val (ov_move rfl) rfl rfl rfl ?_
    refine q_nil ?_
    refine k_then ?_
    refine wc_block ?_
    refine wc_loop (σ := Nat × Option Addr × Nat × Option Addr × Nat) (fun s => xs.length - s.1) (fun s => [(0, .slice C xs.length cx), (1, .int .u8 (cut : Int)), (5, .slice s.2.1 (wireF (xs.take s.1)).length s.2.2.1), (6, .slice s.2.2.2.1 (endsV xs s.1).length s.2.2.2.2), (18, .slice C xs.length cx), (19, .int .i64 (xs.length : Int)), (20, .int .i64 (s.1 : Int))]) (fun s w' => s.1 ≤ xs.length ∧ OwnB w' w.heap.size 5 s.2.1 s.2.2.1 (wireF (xs.take s.1)) ∧ Own w' w.heap.size 3 1 s.2.2.2.1 (endsV xs s.1).length s.2.2.2.2 (endsV xs s.1) ∧ (wireF (xs.take s.1)).length ≤ 120 * s.1 ∧ (∀ f ∈ xs.take s.1, f.2.2.2.length ≤ 100) ∧ RdR w' lox w.heap.size 2 frc C cx xs ∧ Ext w w') ((0, none, 0, none, 0)) (⟨Nat.zero_le _, Own.nil_ _ _ _ _, Own.nil_ _ _ _ _, by show (wireF []).length ≤ 120 * 0; simp [wireF], by simp, hrx, hE⟩) (⟨rfl, rfl, rfl, rfl, rfl, rfl, rfl, trivial⟩) ?_
    rintro ⟨k, A5, c5, A6, c6⟩ wq ⟨hk0, ho5, ho6, hlw, h100, hrx, hE⟩
    show WC _ _ _ _ [(0, (.slice C xs.length cx)), (1, (.int .u8 (↑cut : Int))), (5, (.slice A5 (wireF (xs.take k)).length c5)), (6, (.slice A6 (endsV xs k).length c6)), (18, (.slice C xs.length cx)), (19, (.int .i64 (↑xs.length : Int))), (20, (.int .i64 (↑k : Int)))] _
    simp only at hk0 hlw h100
    replace ho5 : OwnB wq w.heap.size 5 A5 c5 (wireF (xs.take k)) := ho5
    replace ho6 : Own wq w.heap.size 3 1 A6 (endsV xs k).length c6 (endsV xs k) := ho6
    have hz_E := hE.size
    have hq_ho5 := fun g e => Own.lt ho5 (g := g) e
    have hq_ho6 := fun g e => Own.lt ho6 (g := g) e
    have hen := endsV_len xs k
    refine wc_seq ?_
    refine wc_regionL ?_
    refine wl_val (ov_lss rfl rfl) rfl rfl rfl ?_
    refine q_nil ?_
    refine k_then ?_
    refine wc_seq ?_
    refine wc_cond_d rfl (fun hc2 => ?_) (fun hc2 => ?_)
    · obtain ⟨⟨x, Ap, cp, p⟩, hk⟩ : ∃ a, xs[k]? = some a := ⟨_, List.getElem?_eq_getElem (by omega)⟩
      have hxm := List.mem_of_getElem? hk
      have hrp : RdB _ 0 w.heap.size Ap cp p := (hQ _ hxm).ext hE
      have hel := enc_len (p.length + 1)
      have hfl := frW_len x p
      refine q_skip ?_
      refine k_then ?_
      refine wc_seq ?_
      refine wc_block ?_
      refine wc_seq ?_
      refine wc_regionL ?_
      refine wl_step (or_rindex (m := (k)) sl39 rfl rfl hrx (fun _ _ => rfl) hk) rfl rfl rfl ?_
      rintro v _ ⟨rfl, p22, rfl, hp22, hpl22, hph22⟩
      refine wl_val (ov_loadAgg (cs := [(.int .u8 (↑x.toNat : Int)), (.slice Ap p.length cp)]) ag25_2 rfl rfl hp22) rfl rfl rfl ?_
      refine wl_step (or_alloc (cs := [(.int .u8 0), (.slice none 0 0)]) ze25 rfl) rfl rfl rfl ?_
      rintro v w201 ⟨g8, rfl, hb_g8, he8, hl8, hu8⟩
      replace hrx := hrx.ext he8
      replace ho5 := Own.ext ho5 he8
      replace ho6 := Own.ext ho6 he8
      replace hE := hE.tr he8
      replace hrp := hrp.ext he8
      have hz_he8 := he8.size
      refine wl_step0 (or_storeBlk (vs := [(.int .u8 (↑x.toNat : Int)), (.slice Ap p.length cp)]) sz25 rfl rfl (by simp [Value.oneCell']) hb_g8 rfl) rfl rfl ?_
      rintro _ w202 ⟨hN202, hg202⟩
      have hz_hg202 := hg202.size
      replace hrx := hrx.gr hg202 (fun _ e => by cases e; omega)
      replace ho5 := Own.gr ho5 hg202 (by first | exact .inl rfl | (right; intro e; first | (have := hq_ho5 _ e; omega) | (have := Own.lt ho5 e; omega) | exact own_blk_ne ho5 hb_g8 (by decide) e))
      replace ho6 := Own.gr ho6 hg202 (by first | exact .inl rfl | (right; intro e; first | (have := hq_ho6 _ e; omega) | (have := Own.lt ho6 e; omega) | exact own_blk_ne ho6 hb_g8 (by decide) e))
      replace hE := hE.gr hg202 (fun _ e => by cases e; omega)
      replace hrp := hrp.gr hg202 (fun _ e => by cases e; omega)
      replace hb_g8 := hN202
      refine q_nil ?_
      refine k_then ?_
      refine wc_seq ?_
      refine wc_seq ?_
      refine wc_regionL ?_
      refine wl_val (ov_field0 (off := 1) fo25_1 rfl) rfl rfl rfl ?_
      refine wl_val (ov_loadAt oc22 rfl hb_g8 rfl) rfl rfl rfl ?_
      refine wl_val (ov_len Try.underlying22 rfl) rfl rfl rfl ?_
      refine wl_val (ov_gtr rfl rfl) rfl rfl rfl ?_
      refine q_nil ?_
      refine k_then ?_
      refine wc_cond_d rfl (fun hc3 => ?_) (fun hc3 => ?_)
      · refine wc_seq ?_
        refine wc_regionL ?_
        refine wl_step (or_call0 cl14 rfl rfl (known05_any _)) rfl rfl rfl ?_
        rintro v w203 ⟨rfl, he28⟩
        replace hrx := hrx.ext he28
        replace ho5 := Own.ext ho5 he28
        replace ho6 := Own.ext ho6 he28
        replace hE := hE.tr he28
        replace hrp := hrp.ext he28
        replace hb_g8 := hb_g8.ext he28
        have hz_he28 := he28.size
        refine wl_val (ov_assign rfl) rfl rfl rfl ?_
        refine q_nil ?_
        refine k_then ?_
        refine q_ret ?_
        refine k_thenR ?_
        refine k_blockR ?_
        refine k_thenR ?_
        refine k_thenR ?_
        refine k_blockR ?_
        refine k_thenR ?_
        refine e_ret rfl rfl ?_
        exact ⟨rfl, hE⟩
      · refine q_skip ?_
        refine k_then ?_
        refine wc_seq ?_
        refine wc_regionL ?_
        refine wl_val (ov_loadBlk (cs := [(.int .u8 (↑x.toNat : Int)), (.slice Ap p.length cp)]) ag25_2 rfl hb_g8) rfl rfl rfl ?_
        refine wl_step (or_call0 cl19 rfl rfl (fwrite_any _ _ _ (x) _ _ p hrp (by omega))) rfl rfl rfl ?_
        rintro v w203 ⟨A31, c31, rfl, ho31, he31⟩
        replace hrx := hrx.ext he31
        replace ho5 := Own.ext ho5 he31
        replace ho6 := Own.ext ho6 he31
        replace hE := hE.tr he31
        replace hrp := hrp.ext he31
        replace hb_g8 := hb_g8.ext he31
        have hz_he31 := he31.size
        have hq_ho31 := fun g e => Own.lt ho31 (g := g) e
        simp only [show fwrite (x) p = (frW x p, 0) from fwrite_frW (by omega)] at ho31
        refine wl_spell (d := 31) rfl (v' := .tuple #[.slice A31 (frW x p).length c31, .int .i64 0]) (by rw [fwrite_frW (by omega)]; rfl) ?_
        refine wl_val (ov_move rfl) rfl rfl rfl ?_
        refine wl_val (ov_extract rfl rfl) rfl rfl rfl ?_
        refine wl_val (ov_extract rfl rfl) rfl rfl rfl ?_
        refine wl_val (ov_assign rfl) rfl rfl rfl ?_
        refine wl_val (ov_assign rfl) rfl rfl rfl ?_
        refine q_nil ?_
        refine k_then ?_
        refine wc_seq ?_
        refine wc_seq ?_
        refine wc_regionL ?_
        refine wl_val (ov_move rfl) rfl rfl rfl ?_
        refine wl_val (ov_neq rfl rfl) rfl rfl rfl ?_
        refine q_nil ?_
        refine k_then ?_
        refine wc_cond_f rfl ?_
        refine q_skip ?_
        refine k_then ?_
        refine wc_seq ?_
        refine wc_regionL ?_
        refine wl_val (ov_move rfl) rfl rfl rfl ?_
        refine wl_val (ov_move rfl) rfl rfl rfl ?_
        refine wl_step (or_bappend bt22 rfl ho5 rfl (OwnB.rd ho31) (by omega) (by omega)) rfl rfl rfl ?_
        rintro v w204 ⟨A38, c38, rfl, ho38, hg38, ha38⟩
        have hq38 := fun g e => Own.lt ho5 (g := g) e
        have hz_hg38 := hg38.size
        replace hrx := hrx.gr hg38 (fun g e => by have := hq38 g e; omega)
        replace ho6 := Own.gr ho6 hg38 (by first | exact own_apart fun g e g2 e2 => by have := hq_ho6 g e; have := hq38 g2 e2; omega | exact own_own_ne ho6 ho5 (by decide))
        replace hE := hE.gr hg38 (fun g e => by have := hq38 g e; omega)
        replace hrp := hrp.gr hg38 (fun g e => by have := hq38 g e; omega)
        replace hb_g8 := hb_g8.gr hg38 (by first | (intro e; have := hq38 _ e; omega) | exact own_blk_ne ho5 hb_g8 (by decide))
        have hq_ho38 := fun g e => Own.lt ho38 (g := g) e
        rw [show (wireF (xs.take k)) ++ (frW x p) = (wireF (xs.take (k + 1))) from (wireF_take hk).symm] at ho38; rw [show (wireF (xs.take k)) ++ (frW x p) = (wireF (xs.take (k + 1))) from (wireF_take hk).symm]
        refine wl_val (ov_assign rfl) rfl rfl rfl ?_
        refine q_nil ?_
        refine k_then ?_
        refine wc_regionL ?_
        refine wl_val (ov_move rfl) rfl rfl rfl ?_
        refine wl_val (ov_move rfl) rfl rfl rfl ?_
        refine wl_val (ov_len Try.underlying22 rfl) rfl rfl rfl ?_
        refine wl_step (or_buildSlice1 (os := [.tmp 41]) sl40 rfl rfl rfl (by simp [Value.oneCell']) (by decide)) rfl rfl rfl ?_
        rintro v w205 ⟨g42, rfl, hb_g42, he42, hl42, hu42, _⟩
        replace hrx := hrx.ext he42
        replace ho6 := Own.ext ho6 he42
        replace hE := hE.tr he42
        replace hrp := hrp.ext he42
        replace hb_g8 := hb_g8.ext he42
        replace ho38 := Own.ext ho38 he42
        have hz_he42 := he42.size
        refine wl_step (or_append sl40 rfl ho6 rfl (Blk.rd1 hb_g42) (by simp [Value.oneCell']) (by omega) (by simp only [maxLen]; omega) (by omega)) rfl rfl rfl ?_
        rintro v w206 ⟨A43, c43, rfl, ho43, hg43, ha43⟩
        have hq43 := fun g e => Own.lt ho6 (g := g) e
        have hz_hg43 := hg43.size
        replace hrx := hrx.gr hg43 (fun g e => by have := hq43 g e; omega)
        replace hE := hE.gr hg43 (fun g e => by have := hq43 g e; omega)
        replace hrp := hrp.gr hg43 (fun g e => by have := hq43 g e; omega)
        replace hb_g8 := hb_g8.gr hg43 (by first | (intro e; have := hq43 _ e; omega) | exact own_blk_ne ho6 hb_g8 (by decide))
        replace ho38 := Own.gr ho38 hg43 (by first | exact own_apart fun g e g2 e2 => by have := hq_ho38 g e; have := hq43 g2 e2; omega | exact own_own_ne ho38 ho6 (by decide))
        have hq_ho43 := fun g e => Own.lt ho43 (g := g) e
        have he43 : endsV xs k ++ [.int .i64 ((wireF (xs.take (k + 1))).length : Int)] = endsV xs (k + 1) := (endsV_succ xs k).symm
        have hn43 : (endsV xs k).length + 1 = (endsV xs (k + 1)).length := by rw [endsV_len, endsV_len]
        rw [he43, hn43] at ho43
        refine wl_spell (d := 43) rfl (v' := .slice A43 (endsV xs (k + 1)).length c43) (by rw [hn43]) ?_
        refine wl_val (ov_assign rfl) rfl rfl rfl ?_
        refine q_nil ?_
        refine k_block ?_
        refine k_then ?_
        refine wc_regionL ?_
        refine wl_val (ov_add rfl rfl (wi64 (by omega) (by omega))) rfl rfl rfl ?_
        refine wl_val (ov_move rfl) rfl rfl rfl ?_
        refine q_nil ?_
        refine k_loop ((k + 1, A38, c38, A43, c43)) (by show xs.length - (k + 1) < xs.length - k; omega) (⟨rfl, rfl, rfl, rfl, rfl, rfl, rfl, trivial⟩) (⟨by show k + 1 ≤ _; omega, ho38, ho43, by show (wireF (xs.take (k + 1))).length ≤ 120 * (k + 1); rw [wireF_take hk, List.length_append]; omega, take_all_leF hk (by omega) h100, hrx, hE⟩)
    · obtain ⟨hiq, hhiq⟩ : ∃ n, n = wq.heap.size := ⟨_, rfl⟩
      have hkx : xs.take k = xs := List.take_of_length_le (by omega)
      rw [hkx] at ho5 hlw h100
      refine wc_spell (d := 5) rfl (v' := .slice A5 (wireF xs).length c5) (by rw [hkx]) ?_
      refine q_exit ?_
      refine k_thenX ?_
      refine k_thenX ?_
      refine k_blockE ?_
      refine k_then ?_
      refine wc_seq ?_
      refine wc_regionL ?_
      refine wl_val (ov_move rfl) rfl rfl rfl ?_
      refine wl_val (ov_move rfl) rfl rfl rfl ?_
      refine wl_val (ov_len Try.underlying22 rfl) rfl rfl rfl ?_
      refine wl_val (ov_move rfl) rfl rfl rfl ?_
      refine wl_val (ov_conv Try.underlying5 Try.underlying3 rfl (wi64 (by omega) (by omega))) rfl rfl rfl ?_
      refine wl_val (ov_sub rfl rfl (wi64 (by omega) (by omega))) rfl rfl rfl ?_
      refine wl_val (ov_max rfl rfl (m := ((((wireF xs).length - cut) : Nat) : Int)) (by omega)) rfl rfl rfl ?_
      have hcap52 := RdB.cap (OwnB.rd ho5)
      refine wl_step (or_bslice bt22 rfl (OwnB.rd ho5) (bounds_h rfl (by omega) (by omega)) (by omega) (by omega) (by omega) (by omega)) rfl rfl rfl ?_
      rintro v _ ⟨rfl, A52, c52, rfl, hr52, hl52⟩
      have hs52 : ((wireF xs).drop 0).take ((Int.toNat ((((wireF xs).length - cut) : Nat) : Int)) - 0) = ((wireF xs).take ((wireF xs).length - cut)) := by simp
      rw [hs52] at hr52 hl52; rw [hs52]; clear hs52
      refine wl_val (ov_assign rfl) rfl rfl rfl ?_
      refine q_nil ?_
      refine k_then ?_
      refine wc_seq ?_
      refine wc_regionL ?_
      refine wl_val (ov_assign rfl) rfl rfl rfl ?_
      refine q_nil ?_
      refine k_then ?_
      refine wc_seq ?_
      refine wc_seq ?_
      refine wc_regionL ?_
      refine wl_val (ov_move rfl) rfl rfl rfl ?_
      refine wl_val (ov_len Try.underlying39 rfl) rfl rfl rfl ?_
      refine wl_val (ov_move rfl) rfl rfl rfl ?_
      refine q_nil ?_
      refine k_then ?_
      refine wc_block ?_
      refine wc_loop (σ := Nat) (fun s => xs.length - s) (fun s => [(5, .slice A52 ((wireF xs).take ((wireF xs).length - cut)).length c52), (6, .slice A6 (endsV xs k).length c6), (11, .int .i64 ((wireF (xs.take s)).length : Int)), (53, .slice C xs.length cx), (54, .int .i64 (xs.length : Int)), (55, .int .i64 (s : Int))]) (fun s w' => hiq ≤ w'.heap.size ∧ s ≤ xs.length ∧ (wireF (xs.take s)).length ≤ ((wireF xs).length - cut) ∧ RdB w' w.heap.size hiq A52 c52 ((wireF xs).take ((wireF xs).length - cut)) ∧ RdR w' w.heap.size hiq 1 (fun v : Value => [v]) A6 c6 (endsV xs k) ∧ RdR w' lox w.heap.size 2 frc C cx xs ∧ Ext w w') (0) (⟨by rw [hhiq]; exact Nat.le_refl _, Nat.zero_le _, by show (wireF []).length ≤ _; simp [wireF], by rw [hhiq]; exact hr52, by rw [hhiq]; exact Rd.ones (Own.rd ho6) rfl, hrx, hE⟩) (⟨rfl, rfl, rfl, rfl, rfl, rfl, trivial⟩) ?_
      rintro j wr ⟨hhw, hj0, hat, hr52, hre, hrx, hE⟩
      show WC _ _ _ _ [(5, (.slice A52 ((wireF xs).take ((wireF xs).length - cut)).length c52)), (6, (.slice A6 (endsV xs k).length c6)), (11, (.int .i64 (↑(wireF (xs.take j)).length : Int))), (53, (.slice C xs.length cx)), (54, (.int .i64 (↑xs.length : Int))), (55, (.int .i64 (↑j : Int)))] _
      have hz_E := hE.size
      have htl : ((wireF xs).take ((wireF xs).length - cut)).length = ((wireF xs).length - cut) := by rw [List.length_take]; omega
      refine wc_seq ?_
      refine wc_regionL ?_
      refine wl_val (ov_lss rfl rfl) rfl rfl rfl ?_
      refine q_nil ?_
      refine k_then ?_
      refine wc_seq ?_
      refine wc_cond_d rfl (fun hc5 => ?_) (fun hc5 => ?_)
      · obtain ⟨⟨x, Ap, cp, p⟩, hk⟩ : ∃ a, xs[j]? = some a := ⟨_, List.getElem?_eq_getElem (by omega)⟩
        have hxm := List.mem_of_getElem? hk
        have hrp : RdB _ 0 w.heap.size Ap cp p := (hQ _ hxm).ext hE
        have hel := enc_len (p.length + 1)
        have hfl := frW_len x p
        have hp100 : p.length ≤ 100 := h100 _ hxm
        have hwt : (wireF (xs.take (j + 1))).length = (wireF (xs.take j)).length + (frW x p).length := by rw [wireF_take hk, List.length_append]
        have hwd := wireF_drop hk
        have hwl := wireF_le (xs := xs) (j + 1)
        refine q_skip ?_
        refine k_then ?_
        refine wc_seq ?_
        refine wc_block ?_
        refine wc_seq ?_
        refine wc_regionL ?_
        refine wl_val (ov_move rfl) rfl rfl rfl ?_
        refine wl_step (or_rindex (m := (j)) sl39 rfl rfl hrx (fun _ _ => rfl) hk) rfl rfl rfl ?_
        rintro v _ ⟨rfl, p58, rfl, hp58, hpl58, hph58⟩
        refine wl_val (ov_loadAgg (cs := [(.int .u8 (↑x.toNat : Int)), (.slice Ap p.length cp)]) ag25_2 rfl rfl hp58) rfl rfl rfl ?_
        refine wl_step (or_alloc (cs := [(.int .u8 0), (.slice none 0 0)]) ze25 rfl) rfl rfl rfl ?_
        rintro v w201 ⟨g13, rfl, hb_g13, he13, hl13, hu13⟩
        replace hr52 := hr52.ext he13
        replace hre := hre.ext he13
        replace hrx := hrx.ext he13
        replace hE := hE.tr he13
        replace hrp := hrp.ext he13
        have hz_he13 := he13.size
        refine wl_val (ov_assign rfl) rfl rfl rfl ?_
        refine wl_step0 (or_storeBlk (vs := [(.int .u8 (↑x.toNat : Int)), (.slice Ap p.length cp)]) sz25 rfl rfl (by simp [Value.oneCell']) hb_g13 rfl) rfl rfl ?_
        rintro _ w202 ⟨hN202, hg202⟩
        have hz_hg202 := hg202.size
        replace hr52 := hr52.gr hg202 (fun _ e => by cases e; omega)
        replace hre := hre.gr hg202 (fun _ e => by cases e; omega)
        replace hrx := hrx.gr hg202 (fun _ e => by cases e; omega)
        replace hE := hE.gr hg202 (fun _ e => by cases e; omega)
        replace hrp := hrp.gr hg202 (fun _ e => by cases e; omega)
        replace hb_g13 := hN202
        refine q_nil ?_
        refine k_then ?_
        refine wc_seq ?_
        refine wc_seq ?_
        refine wc_regionL ?_
        refine wl_val (ov_move rfl) rfl rfl rfl ?_
        refine wl_val (ov_move rfl) rfl rfl rfl ?_
        refine wl_step (or_rindex (m := (j)) sl40 rfl rfl hre (fun _ _ => rfl) (endsV_get (by omega))) rfl rfl rfl ?_
        rintro v _ ⟨rfl, p62, rfl, hp62, hpl62, hph62⟩
        refine wl_val (ov_load oc3 rfl (cell_zero hp62 rfl)) rfl rfl rfl ?_
        refine wl_val (ov_move rfl) rfl rfl rfl ?_
        refine wl_val (ov_len Try.underlying22 rfl) rfl rfl rfl ?_
        refine wl_val (ov_gtr rfl rfl) rfl rfl rfl ?_
        refine q_nil ?_
        refine k_then ?_
        refine wc_cond_d rfl (fun hc6 => ?_) (fun hc6 => ?_)
        · refine wc_seq ?_
          refine wc_regionL ?_
          refine wl_val (ov_move rfl) rfl rfl rfl ?_
          refine wl_val (ov_move rfl) rfl rfl rfl ?_
          have hcap69 := RdB.cap hr52
          refine wl_step (or_bslice bt22 rfl hr52 (bounds_l rfl (by omega) (by omega)) (by omega) (by omega) (by omega) (by omega)) rfl rfl rfl ?_
          rintro v _ ⟨rfl, A69, c69, rfl, hr69, hl69⟩
          have hs69 : (((wireF xs).take ((wireF xs).length - cut)).drop (Int.toNat (↑(wireF (xs.take j)).length : Int))).take (((wireF xs).take ((wireF xs).length - cut)).length - (Int.toNat (↑(wireF (xs.take j)).length : Int))) = ((frW x p).take (((wireF xs).length - cut) - (wireF (xs.take j)).length)) := by rw [Int.toNat_natCast, List.take_of_length_le (by simp), List.drop_take, hwd]; exact rest_cut (by omega) (by omega)
          rw [hs69] at hr69 hl69; rw [hs69]; clear hs69
          refine wl_val (ov_build (cs := [(.int .u8 0), (.slice none 0 0)]) ze25 pl25 rfl rfl) rfl rfl rfl ?_
          have h6 : fread ((frW x p).take (((wireF xs).length - cut) - (wireF (xs.take j)).length)) 100 = ((0, []), 0, 4) := fread_cut (by omega) (by omega) (by show _ < (frW x p).length; omega)
          have h5 : ((frW x p).take (((wireF xs).length - cut) - (wireF (xs.take j)).length)).length ≤ 140737488355328 := by rw [List.length_take]; omega
          have hc71 := freads_any _ _ _ _ _ _ _ ((frW x p).take (((wireF xs).length - cut) - (wireF (xs.take j)).length)) 100 (by omega) (by omega) (0) _ _ [] 0 4 hr69 (RdB.nil _ 0 0) (h5) (by rw [h6]) (by rw [h6]; rfl) (by rw [h6]; rfl)
          refine wl_step (or_call0 cl16 rfl rfl (hc71)) rfl rfl rfl ?_
          rintro v w203 ⟨rfl, he71⟩
          replace hr52 := hr52.ext he71
          replace hre := hre.ext he71
          replace hrx := hrx.ext he71
          replace hE := hE.tr he71
          replace hrp := hrp.ext he71
          replace hb_g13 := hb_g13.ext he71
          replace hr69 := hr69.ext he71
          have hz_he71 := he71.size
          refine wl_val (ov_move rfl) rfl rfl rfl ?_
          refine wl_gstep (or_call0 cl14 rfl rfl (known05_any _)) rfl rfl rfl rfl rfl ?_
          rintro v w204 ⟨rfl, he73⟩
          replace hr52 := hr52.ext he73
          replace hre := hre.ext he73
          replace hrx := hrx.ext he73
          replace hE := hE.tr he73
          replace hrp := hrp.ext he73
          replace hb_g13 := hb_g13.ext he73
          replace hr69 := hr69.ext he73
          have hz_he73 := he73.size
          refine wl_val (ov_pick_t rfl rfl) rfl rfl rfl ?_
          refine wl_val (ov_assign rfl) rfl rfl rfl ?_
          refine q_nil ?_
          refine k_then ?_
          refine q_ret ?_
          refine k_thenR ?_
          refine k_blockR ?_
          refine k_thenR ?_
          refine k_thenR ?_
          refine k_blockR ?_
          refine k_thenR ?_
          refine e_ret rfl rfl ?_
          exact ⟨rfl, hE⟩
        · refine q_skip ?_
          refine k_then ?_
          refine wc_seq ?_
          refine wc_seq ?_
          refine wc_draw mixed 10 [(75, eqv (.slice A52 ((wireF xs).take ((wireF xs).length - cut)).length c52)), (76, eqv (.int .i64 (↑(wireF (xs.take j)).length : Int))), (77, isB 0 (frW x p ++ (wireF (xs.drop (j + 1))).take (((wireF xs).length - cut) - (wireF (xs.take j)).length - (frW x p).length))), (78, eqv (.agg #[(.int .u8 (↑x.toNat : Int)), (.slice Ap p.length cp)])), (79, eqv (.slice A6 (endsV xs k).length c6)), (80, eqv (.int .i64 (↑j : Int))), (81, isCells [(.int .i64 (↑(wireF (xs.take (j + 1))).length : Int))]), (82, eqv (.int .i64 (↑(wireF (xs.take (j + 1))).length : Int))), (83, eqv (.int .i64 (↑(wireF (xs.take j)).length : Int))), (84, eqv (.int .i64 ((↑(wireF (xs.take (j + 1))).length : Int) - (↑(wireF (xs.take j)).length : Int))))] [[], [], [0, 1], [], [], [], [4, 5], [6], [], [7, 8]] (by kernel_rfl) rfl ⟨stb_eqv _, stb_eqv _, stb_isB _ _, stb_eqv _, stb_eqv _, stb_eqv _, stb_isCells _, stb_eqv _, stb_eqv _, stb_eqv _, trivial⟩ ⟨?_, ?_, ?_, ?_, ?_, ?_, ?_, ?_, ?_, ?_, trivial⟩ ?_
          · intro wd hxE
            replace hr52 := hr52.ext hxE
            replace hre := hre.ext hxE
            replace hrx := hrx.ext hxE
            replace hE := hE.tr hxE
            replace hrp := hrp.ext hxE
            replace hb_g13 := hb_g13.ext hxE
            have hz_hxE := hxE.size
            show OpG _ _ _ _ _ _
            exact og_plain rfl (ox_val (ov_move rfl))
          · intro wd hxE
            replace hr52 := hr52.ext hxE
            replace hre := hre.ext hxE
            replace hrx := hrx.ext hxE
            replace hE := hE.tr hxE
            replace hrp := hrp.ext hxE
            replace hb_g13 := hb_g13.ext hxE
            have hz_hxE := hxE.size
            show OpG _ _ _ _ _ _
            exact og_plain rfl (ox_val (ov_move rfl))
          · intro wd hxE
            replace hr52 := hr52.ext hxE
            replace hre := hre.ext hxE
            replace hrx := hrx.ext hxE
            replace hE := hE.tr hxE
            replace hrp := hrp.ext hxE
            replace hb_g13 := hb_g13.ext hxE
            have hz_hxE := hxE.size
            rintro _ rfl
            rintro _ rfl
            show OpG _ _ _ _ _ _
            have hcap77 := RdB.cap hr52
            refine og_plain rfl (OpRun.mono (or_bslice bt22 rfl hr52 (bounds_l rfl (by omega) (by omega)) (by omega) (by omega) (by omega) (by omega)) ?_)
            rintro v _ ⟨rfl, A77, c77, rfl, hr77, hl77⟩
            have hs77 : (((wireF xs).take ((wireF xs).length - cut)).drop (Int.toNat (↑(wireF (xs.take j)).length : Int))).take (((wireF xs).take ((wireF xs).length - cut)).length - (Int.toNat (↑(wireF (xs.take j)).length : Int))) = (frW x p ++ (wireF (xs.drop (j + 1))).take (((wireF xs).length - cut) - (wireF (xs.take j)).length - (frW x p).length)) := by rw [Int.toNat_natCast, List.take_of_length_le (by simp), List.drop_take, hwd]; exact rest_whole (by omega)
            rw [hs77] at hr77 hl77; rw [hs77]; clear hs77
            exact ⟨⟨A77, c77, rfl, (Rd.top hr77).mono (Nat.zero_le _) (Nat.le_refl _)⟩, ext_refl _⟩
          · intro wd hxE
            replace hr52 := hr52.ext hxE
            replace hre := hre.ext hxE
            replace hrx := hrx.ext hxE
            replace hE := hE.tr hxE
            replace hrp := hrp.ext hxE
            replace hb_g13 := hb_g13.ext hxE
            have hz_hxE := hxE.size
            show OpG _ _ _ _ _ _
            exact og_plain rfl (ox_val (ov_loadBlk (cs := [(.int .u8 (↑x.toNat : Int)), (.slice Ap p.length cp)]) ag25_2 rfl hb_g13))
          · intro wd hxE
            replace hr52 := hr52.ext hxE
            replace hre := hre.ext hxE
            replace hrx := hrx.ext hxE
            replace hE := hE.tr hxE
            replace hrp := hrp.ext hxE
            replace hb_g13 := hb_g13.ext hxE
            have hz_hxE := hxE.size
            show OpG _ _ _ _ _ _
            exact og_plain rfl (ox_val (ov_move rfl))
          · intro wd hxE
            replace hr52 := hr52.ext hxE
            replace hre := hre.ext hxE
            replace hrx := hrx.ext hxE
            replace hE := hE.tr hxE
            replace hrp := hrp.ext hxE
            replace hb_g13 := hb_g13.ext hxE
            have hz_hxE := hxE.size
            show OpG _ _ _ _ _ _
            exact og_plain rfl (ox_val (ov_move rfl))
          · intro wd hxE
            replace hr52 := hr52.ext hxE
            replace hre := hre.ext hxE
            replace hrx := hrx.ext hxE
            replace hE := hE.tr hxE
            replace hrp := hrp.ext hxE
            replace hb_g13 := hb_g13.ext hxE
            have hz_hxE := hxE.size
            rintro _ rfl
            rintro _ rfl
            show OpG _ _ _ _ _ _
            refine og_plain rfl (OpRun.mono (or_rindex (m := (j)) sl40 rfl rfl hre (fun _ _ => rfl) (endsV_get (by omega))) ?_)
            rintro v _ ⟨rfl, p81, rfl, hp81, hpl81, hph81⟩
            exact ⟨⟨p81, rfl, hp81⟩, ext_refl _⟩
          · intro wd hxE
            replace hr52 := hr52.ext hxE
            replace hre := hre.ext hxE
            replace hrx := hrx.ext hxE
            replace hE := hE.tr hxE
            replace hrp := hrp.ext hxE
            replace hb_g13 := hb_g13.ext hxE
            have hz_hxE := hxE.size
            rintro _ ⟨p81, rfl, hp81⟩
            show OpG _ _ _ _ _ _
            exact og_plain rfl (ox_val (ov_load oc3 rfl (cell_zero hp81 rfl)))
          · intro wd hxE
            replace hr52 := hr52.ext hxE
            replace hre := hre.ext hxE
            replace hrx := hrx.ext hxE
            replace hE := hE.tr hxE
            replace hrp := hrp.ext hxE
            replace hb_g13 := hb_g13.ext hxE
            have hz_hxE := hxE.size
            show OpG _ _ _ _ _ _
            exact og_plain rfl (ox_val (ov_move rfl))
          · intro wd hxE
            replace hr52 := hr52.ext hxE
            replace hre := hre.ext hxE
            replace hrx := hrx.ext hxE
            replace hE := hE.tr hxE
            replace hrp := hrp.ext hxE
            replace hb_g13 := hb_g13.ext hxE
            have hz_hxE := hxE.size
            rintro _ rfl
            rintro _ rfl
            show OpG _ _ _ _ _ _
            exact og_plain rfl (ox_val (ov_sub rfl rfl (wi64 (by omega) (by omega))))
          · intro wf23 hf23
            replace hr52 := hr52.ext hf23
            replace hre := hre.ext hf23
            replace hrx := hrx.ext hf23
            replace hE := hE.tr hf23
            replace hrp := hrp.ext hf23
            replace hb_g13 := hb_g13.ext hf23
            have hz_hf23 := hf23.size
            rintro _ rfl
            rintro _ rfl
            rintro _ ⟨A77, c77, rfl, hr77⟩
            rintro _ rfl
            rintro _ rfl
            rintro _ rfl
            rintro _ ⟨p81, rfl, hp81⟩
            rintro _ rfl
            rintro _ rfl
            rintro _ rfl
            show WL _ _ _ [_, _] _ _ _
            have h6 : fread (frW x p ++ (wireF (xs.drop (j + 1))).take (((wireF xs).length - cut) - (wireF (xs.take j)).length - (frW x p).length)) 100 = ((x, p), (enc (p.length + 1)).length + (p.length + 1), 0) := fread_wire (by omega) (by omega) _
            have h5 : (frW x p ++ (wireF (xs.drop (j + 1))).take (((wireF xs).length - cut) - (wireF (xs.take j)).length - (frW x p).length)).length ≤ 140737488355328 := by rw [List.length_append, List.length_take]; omega
            have h7 : (((enc (p.length + 1)).length + (p.length + 1) : Nat) : Int) = (↑(wireF (xs.take (j + 1))).length - ↑(wireF (xs.take j)).length) := by omega
            have hc85 := freads_any _ _ _ _ _ _ _ (frW x p ++ (wireF (xs.drop (j + 1))).take (((wireF xs).length - cut) - (wireF (xs.take j)).length - (frW x p).length)) 100 (by omega) (by omega) (x) _ _ p ((↑(wireF (xs.take (j + 1))).length : Int) - (↑(wireF (xs.take j)).length : Int)) 0 hr77 hrp (h5) (by rw [h6]) (by rw [h6]; exact h7) (by rw [h6]; rfl)
            refine wl_step (or_call0 cl16 rfl rfl (hc85)) rfl rfl rfl ?_
            rintro v w203 ⟨rfl, he85⟩
            replace hr52 := hr52.ext he85
            replace hre := hre.ext he85
            replace hrx := hrx.ext he85
            replace hE := hE.tr he85
            replace hrp := hrp.ext he85
            replace hb_g13 := hb_g13.ext he85
            replace hr77 := hr77.ext he85
            have hz_he85 := he85.size
            refine wl_val (ov_not (b := true) rfl) rfl rfl rfl ?_
            refine q_nil ?_
            refine k_then ?_
            refine wc_cond_f rfl ?_
            refine q_skip ?_
            refine k_then ?_
            refine wc_regionL ?_
            refine wl_val (ov_move rfl) rfl rfl rfl ?_
            refine wl_val (ov_move rfl) rfl rfl rfl ?_
            refine wl_step (or_rindex (m := (j)) sl40 rfl rfl hre (fun _ _ => rfl) (endsV_get (by omega))) rfl rfl rfl ?_
            rintro v _ ⟨rfl, p89, rfl, hp89, hpl89, hph89⟩
            refine wl_val (ov_load oc3 rfl (cell_zero hp89 rfl)) rfl rfl rfl ?_
            refine wl_val (ov_assign rfl) rfl rfl rfl ?_
            refine q_nil ?_
            refine k_block ?_
            refine k_then ?_
            refine wc_regionL ?_
            refine wl_val (ov_add rfl rfl (wi64 (by omega) (by omega))) rfl rfl rfl ?_
            refine wl_val (ov_move rfl) rfl rfl rfl ?_
            refine q_nil ?_
            refine k_loop (j + 1) (by show xs.length - (j + 1) < xs.length - j; omega) (⟨rfl, rfl, rfl, rfl, rfl, rfl, trivial⟩) (⟨by omega, by omega, by omega, hr52, hre, hrx, hE⟩)
      · have hjx : xs.take j = xs := List.take_of_length_le (by omega)
        rw [hjx] at hat
        refine wc_spell (d := 11) rfl (v' := .int .i64 ((wireF xs).length : Int)) (by rw [hjx]) ?_
        refine q_exit ?_
        refine k_thenX ?_
        refine k_thenX ?_
        refine k_blockE ?_
        refine k_then ?_
        refine wc_seq ?_
        refine wc_regionL ?_
        refine wl_val (ov_move rfl) rfl rfl rfl ?_
        refine wl_val (ov_move rfl) rfl rfl rfl ?_
        refine wl_val (ov_len Try.underlying22 rfl) rfl rfl rfl ?_
        refine wl_val (ov_eql rfl rfl) rfl rfl rfl ?_
        refine wl_spell (d := 95) rfl (bt (by rw [List.length_take]; omega)) ?_
        refine wl_val (ov_move rfl) rfl rfl rfl ?_
        refine wl_gval (ov_move rfl) rfl rfl rfl rfl rfl ?_
        refine wl_gval (ov_move rfl) rfl rfl rfl rfl rfl ?_
        have hcap99 := RdB.cap hr52
        refine wl_gstep (or_bslice bt22 rfl hr52 (bounds_l rfl (by omega) (by omega)) (by omega) (by omega) (by omega) (by omega)) rfl rfl rfl rfl rfl ?_
        rintro v _ ⟨rfl, A99, c99, rfl, hr99, hl99⟩
        have hs99 : (((wireF xs).take ((wireF xs).length - cut)).drop (Int.toNat (↑(wireF xs).length : Int))).take (((wireF xs).take ((wireF xs).length - cut)).length - (Int.toNat (↑(wireF xs).length : Int))) = [] := by rw [Int.toNat_natCast, List.drop_of_length_le (by rw [List.length_take]; omega)]; simp
        rw [hs99] at hr99 hl99; rw [hs99]; clear hs99
        refine wl_gval (ov_build (cs := [(.int .u8 0), (.slice none 0 0)]) ze25 pl25 rfl rfl) rfl rfl rfl rfl rfl ?_
        refine wl_gstep (or_call0 cl16 rfl rfl (freads_any _ _ _ _ _ _ _ [] 100 (by omega) (by omega) (0) _ _ [] 0 4 hr99 (RdB.nil _ 0 0) (by simp) (by decide) (by decide) (by decide))) rfl rfl rfl rfl rfl ?_
        rintro v w201 ⟨rfl, he101⟩
        replace hr52 := hr52.ext he101
        replace hre := hre.ext he101
        replace hrx := hrx.ext he101
        replace hE := hE.tr he101
        replace hr99 := hr99.ext he101
        have hz_he101 := he101.size
        refine wl_val (ov_pick_t rfl rfl) rfl rfl rfl ?_
        refine wl_val (ov_move rfl) rfl rfl rfl ?_
        refine wl_gstep (or_call0 cl14 rfl rfl (known05_any _)) rfl rfl rfl rfl rfl ?_
        rintro v w202 ⟨rfl, he104⟩
        replace hr52 := hr52.ext he104
        replace hre := hre.ext he104
        replace hrx := hrx.ext he104
        replace hE := hE.tr he104
        replace hr99 := hr99.ext he104
        have hz_he104 := he104.size
        refine wl_val (ov_pick_t rfl rfl) rfl rfl rfl ?_
        refine wl_val (ov_assign rfl) rfl rfl rfl ?_
        refine q_nil ?_
        refine k_then ?_
        refine q_ret ?_
        refine e_ret rfl rfl ?_
        exact ⟨rfl, hE⟩

end Go.Proofs.Ytfniipfdpoeapaa
