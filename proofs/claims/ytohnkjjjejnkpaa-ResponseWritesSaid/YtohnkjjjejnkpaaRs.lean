/-
  The walk of ResponseWrites.
-/
import Derived.Test.YtohnkjjjejnkpaaRq
import Derived.Test.YtohnkjjjejnkpaaRo
namespace Go.Proofs.Ytohnkjjjejnkpaa
open Go.RowKit
set_option linter.unusedVariables false
set_option maxRecDepth 4000
theorem cl15 : callable Try.prog 15 = true := by kernel_rfl
theorem cl17 : callable Try.prog 17 = true := by kernel_rfl

theorem RdI.rg {B h2 lo hi cx : Nat} {X : Option Addr} {xs : List IT} {a b : World} (h : RdI a lo hi X cx xs) (k : Rg B h2 a b) (hs : hi ≤ B ∨ h2 ≤ lo) : RdI b lo hi X cx xs := ⟨k.rd h.1 hs, fun x hx => k.rd (h.2 x hx) hs⟩
theorem copy_low {w : World} {lo : Nat} {r : Rsp} {ys : List IT} {X : Option Addr} {cx : Nat} {N : Option Addr} {cn : Nat} (h : CopyAt w lo r ys X cx N cn) (hv : ∀ x ∈ r.items, x.value.length ≤ 600) : Low w.heap.size ys :=
  fun z hz => ⟨h.vs.lt z hz, hv z.1 (h.v ▸ List.mem_map.2 ⟨z, hz, rfl⟩)⟩
theorem rv_marks {r : Rsp} (h : RV r) : ∀ x ∈ r.items, 0 ≤ x.mark ∧ x.mark ≤ 9223372036854775807 := fun x hx => by
  have h1 : 0 ≤ x.mark ∧ x.mark ≤ 2 ∧ x.value.length ≤ 65536 := of_decide_eq_true (okV_okI (List.all_eq_true.1 h.items x hx)).1
  omega

theorem rwrites8_a (w : World) (r : Rsp) (xs : List IT) (hv : vals xs = r.items) (lo hi : Nat) (X : Option Addr) (cx : Nat) (N : Option Addr) (cn : Nat) (hx : RdI w lo hi X cx xs) (hn : RdN w lo hi N cn r.nums) (hok : LawOk r) (ha : lightR r = false) :
    Fn Try.prog 3 #[(.agg #[(.int .i64 r.op), (.int .i64 r.err), (.slice X r.items.length cx), (.int .u64 (↑r.ver : Int)), (.int .i64 r.count), (.slice N r.nums.length cn)])] w (fun v w' => v = .bool true ∧ Ext w w')  := by
  replace hx := hx.top
  replace hn := Rd.top hn
  have hE := ext_refl w
  obtain ⟨hi, hh1⟩ : ∃ n, n = w.heap.size := ⟨_, rfl⟩
  rw [← hh1] at hx hn
  refine fn_enter (args := [(.agg #[(.int .i64 r.op), (.int .i64 r.err), (.slice X r.items.length cx), (.int .u64 (↑r.ver : Int)), (.int .i64 r.count), (.slice N r.nums.length cn)])]) Try.func3 rfl rfl rfl ?_
  show WC _ _ _ _ [(0, (.agg #[(.int .i64 r.op), (.int .i64 r.err), (.slice X r.items.length cx), (.int .u64 (↑r.ver : Int)), (.int .i64 r.count), (.slice N r.nums.length cn)]))] _
  refine wc_seq (wc_regionL ?_)
  refine wl_step (or_box (cs := [(.int .i64 r.op), (.int .i64 r.err), (.slice X r.items.length cx), (.int .u64 (↑r.ver : Int)), (.int .i64 r.count), (.slice N r.nums.length cn)]) rfl rfl) rfl rfl rfl ?_
  rintro v w1 ⟨g1, rfl, hb_g1, he1, hl1, hu1⟩
  replace hx := RdI.ext hx he1
  replace hn := hn.ext he1
  replace hE := hE.tr he1
  have hz_he1 := he1.size
  refine va rfl rfl ?_
  refine q_nil (k_then (wc_seq (wc_seq (wc_regionL ?_))))
  refine wl_val (ov_loadBlk (cs := [(.int .i64 r.op), (.int .i64 r.err), (.slice X r.items.length cx), (.int .u64 (↑r.ver : Int)), (.int .i64 r.count), (.slice N r.nums.length cn)]) ag28_6 rfl hb_g1) rfl rfl rfl ?_
  refine wl_step (or_call0 cl8 rfl rfl (light8_any _ r xs hv _ _ X cx N cn hx hn hok.len)) rfl rfl rfl ?_
  rintro v w2 ⟨rfl, he7⟩
  replace hx := RdI.ext hx he7
  replace hn := hn.ext he7
  replace hE := hE.tr he7
  replace hb_g1 := hb_g1.ext he7
  have hz_he7 := he7.size
  refine wl_spell (d := 7) rfl (v' := (.bool false)) (by rw [ha]) ?_
  refine wl_val (ov_not (b := false) rfl) rfl rfl rfl ?_
  refine q_nil (k_then ?_)
  refine wc_cond_t rfl ?_
  refine wc_seq (wc_regionL ?_)
  refine wl_step (or_call0 cl9 rfl rfl (known08_any _)) rfl rfl rfl ?_
  rintro v w3 ⟨rfl, he9⟩
  replace hx := RdI.ext hx he9
  replace hn := hn.ext he9
  replace hE := hE.tr he9
  replace hb_g1 := hb_g1.ext he9
  have hz_he9 := he9.size
  refine va rfl rfl ?_
  refine q_nil (k_then (q_ret (k_thenR ?_)))
  refine e_ret rfl rfl ?_
  exact ⟨rfl, hE⟩

theorem rwrites8_b (w : World) (r : Rsp) (xs : List IT) (hv : vals xs = r.items) (lo hi : Nat) (X : Option Addr) (cx : Nat) (N : Option Addr) (cn : Nat) (hx : RdI w lo hi X cx xs) (hn : RdN w lo hi N cn r.nums) (hok : LawOk r) (ha : lightR r = true) (hrv : ¬ RV r) :
    Fn Try.prog 3 #[(.agg #[(.int .i64 r.op), (.int .i64 r.err), (.slice X r.items.length cx), (.int .u64 (↑r.ver : Int)), (.int .i64 r.count), (.slice N r.nums.length cn)])] w (fun v w' => v = .bool true ∧ Ext w w')  := by
  replace hx := hx.top
  replace hn := Rd.top hn
  have hE := ext_refl w
  obtain ⟨hi, hh1⟩ : ∃ n, n = w.heap.size := ⟨_, rfl⟩
  rw [← hh1] at hx hn
  have hsz := lightR_rsz ha
  refine fn_enter (args := [(.agg #[(.int .i64 r.op), (.int .i64 r.err), (.slice X r.items.length cx), (.int .u64 (↑r.ver : Int)), (.int .i64 r.count), (.slice N r.nums.length cn)])]) Try.func3 rfl rfl rfl ?_
  show WC _ _ _ _ [(0, (.agg #[(.int .i64 r.op), (.int .i64 r.err), (.slice X r.items.length cx), (.int .u64 (↑r.ver : Int)), (.int .i64 r.count), (.slice N r.nums.length cn)]))] _
  refine wc_seq (wc_regionL ?_)
  refine wl_step (or_box (cs := [(.int .i64 r.op), (.int .i64 r.err), (.slice X r.items.length cx), (.int .u64 (↑r.ver : Int)), (.int .i64 r.count), (.slice N r.nums.length cn)]) rfl rfl) rfl rfl rfl ?_
  rintro v w1 ⟨g1, rfl, hb_g1, he1, hl1, hu1⟩
  replace hx := RdI.ext hx he1
  replace hn := hn.ext he1
  replace hE := hE.tr he1
  have hz_he1 := he1.size
  refine va rfl rfl ?_
  refine q_nil (k_then (wc_seq (wc_seq (wc_regionL ?_))))
  refine wl_val (ov_loadBlk (cs := [(.int .i64 r.op), (.int .i64 r.err), (.slice X r.items.length cx), (.int .u64 (↑r.ver : Int)), (.int .i64 r.count), (.slice N r.nums.length cn)]) ag28_6 rfl hb_g1) rfl rfl rfl ?_
  refine wl_step (or_call0 cl8 rfl rfl (light8_any _ r xs hv _ _ X cx N cn hx hn hok.len)) rfl rfl rfl ?_
  rintro v w2 ⟨rfl, he7⟩
  replace hx := RdI.ext hx he7
  replace hn := hn.ext he7
  replace hE := hE.tr he7
  replace hb_g1 := hb_g1.ext he7
  have hz_he7 := he7.size
  refine wl_spell (d := 7) rfl (v' := (.bool true)) (by rw [ha]) ?_
  refine wl_val (ov_not (b := true) rfl) rfl rfl rfl ?_
  refine q_nil (k_then ?_)
  refine wc_cond_f rfl ?_
  refine q_skip (k_then (wc_seq (wc_seq (wc_regionL ?_))))
  refine wl_val (ov_loadBlk (cs := [(.int .i64 r.op), (.int .i64 r.err), (.slice X r.items.length cx), (.int .u64 (↑r.ver : Int)), (.int .i64 r.count), (.slice N r.nums.length cn)]) ag28_6 rfl hb_g1) rfl rfl rfl ?_
  refine wl_step (or_call0 cl10 rfl rfl (rv8_any _ r xs hv _ _ X cx N cn hx hn)) rfl rfl rfl ?_
  rintro v w3 ⟨rfl, he11⟩
  replace hx := RdI.ext hx he11
  replace hn := hn.ext he11
  replace hE := hE.tr he11
  replace hb_g1 := hb_g1.ext he11
  have hz_he11 := he11.size
  refine wl_spell (d := 11) rfl (bf (hrv)) ?_
  refine wl_val (ov_not (b := false) rfl) rfl rfl rfl ?_
  refine q_nil (k_then ?_)
  refine wc_cond_t rfl ?_
  refine wc_seq (wc_regionL ?_)
  refine wl_val (ov_loadBlk (cs := [(.int .i64 r.op), (.int .i64 r.err), (.slice X r.items.length cx), (.int .u64 (↑r.ver : Int)), (.int .i64 r.count), (.slice N r.nums.length cn)]) ag28_6 rfl hb_g1) rfl rfl rfl ?_
  refine wl_val (ov_build (cs := [(.int .u8 0), (.slice none 0 0)]) ze34 pl34 rfl rfl) rfl rfl rfl ?_
  refine wl_step (or_call0 cl11 rfl rfl (lw8 _ r xs hv _ _ X cx N cn hx hn _ _ (0) none 0 [] (RdB.nil _ 0 0) 2 _ (by rfl) hok.ok (by omega) (wr_inval hok.ok hrv))) rfl rfl rfl ?_
  rintro v w4 ⟨rfl, he15⟩
  replace hx := RdI.ext hx he15
  replace hn := hn.ext he15
  replace hE := hE.tr he15
  replace hb_g1 := hb_g1.ext he15
  have hz_he15 := he15.size
  refine vm rfl rfl ?_
  refine wl_gstep (or_call0 cl9 rfl rfl (known08_any _)) rfl rfl rfl rfl rfl ?_
  rintro v w5 ⟨rfl, he17⟩
  replace hx := RdI.ext hx he17
  replace hn := hn.ext he17
  replace hE := hE.tr he17
  replace hb_g1 := hb_g1.ext he17
  have hz_he17 := he17.size
  refine wl_val (ov_pick_t rfl rfl) rfl rfl rfl ?_
  refine va rfl rfl ?_
  refine q_nil (k_then (q_ret (k_thenR ?_)))
  refine e_ret rfl rfl ?_
  exact ⟨rfl, hE⟩

theorem rwrites8_c (w : World) (r : Rsp) (xs : List IT) (hv : vals xs = r.items) (lo hi : Nat) (X : Option Addr) (cx : Nat) (N : Option Addr) (cn : Nat) (hx : RdI w lo hi X cx xs) (hn : RdN w lo hi N cn r.nums) (hok : LawOk r) (ha : lightR r = true) (hrv : RV r) :
    Fn Try.prog 3 #[(.agg #[(.int .i64 r.op), (.int .i64 r.err), (.slice X r.items.length cx), (.int .u64 (↑r.ver : Int)), (.int .i64 r.count), (.slice N r.nums.length cn)])] w (fun v w' => v = .bool true ∧ Ext w w')  := by
  replace hx := hx.top
  replace hn := Rd.top hn
  have hE := ext_refl w
  obtain ⟨hi, hh1⟩ : ∃ n, n = w.heap.size := ⟨_, rfl⟩
  rw [← hh1] at hx hn
  have hsz := lightR_rsz ha
  obtain ⟨hli, hln, hlv⟩ := light_facts ha
  have hwr := wr_val hok.ok hrv
  refine fn_enter (args := [(.agg #[(.int .i64 r.op), (.int .i64 r.err), (.slice X r.items.length cx), (.int .u64 (↑r.ver : Int)), (.int .i64 r.count), (.slice N r.nums.length cn)])]) Try.func3 rfl rfl rfl ?_
  show WC _ _ _ _ [(0, (.agg #[(.int .i64 r.op), (.int .i64 r.err), (.slice X r.items.length cx), (.int .u64 (↑r.ver : Int)), (.int .i64 r.count), (.slice N r.nums.length cn)]))] _
  refine wc_seq (wc_regionL ?_)
  refine wl_step (or_box (cs := [(.int .i64 r.op), (.int .i64 r.err), (.slice X r.items.length cx), (.int .u64 (↑r.ver : Int)), (.int .i64 r.count), (.slice N r.nums.length cn)]) rfl rfl) rfl rfl rfl ?_
  rintro v w1 ⟨g1, rfl, hb_g1, he1, hl1, hu1⟩
  replace hx := RdI.ext hx he1
  replace hn := hn.ext he1
  replace hE := hE.tr he1
  have hz_he1 := he1.size
  refine va rfl rfl ?_
  refine q_nil (k_then (wc_seq (wc_seq (wc_regionL ?_))))
  refine wl_val (ov_loadBlk (cs := [(.int .i64 r.op), (.int .i64 r.err), (.slice X r.items.length cx), (.int .u64 (↑r.ver : Int)), (.int .i64 r.count), (.slice N r.nums.length cn)]) ag28_6 rfl hb_g1) rfl rfl rfl ?_
  refine wl_step (or_call0 cl8 rfl rfl (light8_any _ r xs hv _ _ X cx N cn hx hn hok.len)) rfl rfl rfl ?_
  rintro v w2 ⟨rfl, he7⟩
  replace hx := RdI.ext hx he7
  replace hn := hn.ext he7
  replace hE := hE.tr he7
  replace hb_g1 := hb_g1.ext he7
  have hz_he7 := he7.size
  refine wl_spell (d := 7) rfl (v' := (.bool true)) (by rw [ha]) ?_
  refine wl_val (ov_not (b := true) rfl) rfl rfl rfl ?_
  refine q_nil (k_then ?_)
  refine wc_cond_f rfl ?_
  refine q_skip (k_then (wc_seq (wc_seq (wc_regionL ?_))))
  refine wl_val (ov_loadBlk (cs := [(.int .i64 r.op), (.int .i64 r.err), (.slice X r.items.length cx), (.int .u64 (↑r.ver : Int)), (.int .i64 r.count), (.slice N r.nums.length cn)]) ag28_6 rfl hb_g1) rfl rfl rfl ?_
  refine wl_step (or_call0 cl10 rfl rfl (rv8_any _ r xs hv _ _ X cx N cn hx hn)) rfl rfl rfl ?_
  rintro v w3 ⟨rfl, he11⟩
  replace hx := RdI.ext hx he11
  replace hn := hn.ext he11
  replace hE := hE.tr he11
  replace hb_g1 := hb_g1.ext he11
  have hz_he11 := he11.size
  refine wl_spell (d := 11) rfl (bt (hrv)) ?_
  refine wl_val (ov_not (b := true) rfl) rfl rfl rfl ?_
  refine q_nil (k_then ?_)
  refine wc_cond_f rfl ?_
  refine q_skip (k_then (wc_seq (wc_regionL ?_)))
  refine wl_val (ov_loadBlk (cs := [(.int .i64 r.op), (.int .i64 r.err), (.slice X r.items.length cx), (.int .u64 (↑r.ver : Int)), (.int .i64 r.count), (.slice N r.nums.length cn)]) ag28_6 rfl hb_g1) rfl rfl rfl ?_
  refine wl_step (or_call0 cl12 rfl rfl (copies8_any _ r xs hv _ _ X cx N cn hx hn hli hln hlv)) rfl rfl rfl ?_
  rintro v w4 ⟨xs20, X20, cx20, N20, cn20, rfl, hc20, he20⟩
  replace hx := RdI.ext hx he20
  replace hn := hn.ext he20
  replace hE := hE.tr he20
  replace hb_g1 := hb_g1.ext he20
  have hz_he20 := he20.size
  have hx20 := hc20.hx
  have hn20 := Own.rd hc20.n
  have hv20 := hc20.v
  have hEq := ext_refl w4
  refine wl_step (or_alloc (cs := [(.int .i64 0), (.int .i64 0), (.slice none 0 0), (.int .u64 0), (.int .i64 0), (.slice none 0 0)]) ze28 rfl) rfl rfl rfl ?_
  rintro v w5 ⟨g3, rfl, hb_g3, he3, hl3, hu3⟩
  replace hx := RdI.ext hx he3
  replace hn := hn.ext he3
  replace hE := hE.tr he3
  replace hb_g1 := hb_g1.ext he3
  replace hx20 := RdI.ext hx20 he3
  replace hn20 := hn20.ext he3
  replace hEq := hEq.tr he3
  have hz_he3 := he3.size
  refine wl_step0 (or_storeBlk (vs := [(.int .i64 r.op), (.int .i64 r.err), (.slice X20 r.items.length cx20), (.int .u64 (↑r.ver : Int)), (.int .i64 r.count), (.slice N20 r.nums.length cn20)]) sz28 rfl rfl (by simp [Value.oneCell']) hb_g3 rfl) rfl rfl ?_
  rintro _ w6 ⟨hN6, hg6⟩
  have hz_hg6 := hg6.size
  replace hx := RdI.gr hx hg6 (fun _ e => by cases e; omega)
  replace hn := hn.gr hg6 (fun _ e => by cases e; omega)
  replace hE := hE.gr hg6 (fun _ e => by cases e; omega)
  replace hb_g1 := hb_g1.gr hg6 (by intro e; cases e; omega)
  replace hx20 := RdI.gr hx20 hg6 (fun _ e => by cases e; omega)
  replace hn20 := hn20.gr hg6 (fun _ e => by cases e; omega)
  replace hEq := hEq.gr hg6 (fun _ e => by cases e; omega)
  replace hb_g3 := hN6
  refine q_nil (k_then (wc_seq (wc_regionL ?_)))
  refine wl_val (ov_loadBlk (cs := [(.int .i64 r.op), (.int .i64 r.err), (.slice X20 r.items.length cx20), (.int .u64 (↑r.ver : Int)), (.int .i64 r.count), (.slice N20 r.nums.length cn20)]) ag28_6 rfl hb_g3) rfl rfl rfl ?_
  refine wl_step (or_call0 cl13 rfl rfl (wr8_write _ r xs20 hv20 _ _ X20 cx20 N20 cn20 hx20 hn20 hok.ok (by omega))) rfl rfl rfl ?_
  rintro v w7 ⟨A23, c23, rfl, ho23, he23⟩
  replace hx := RdI.ext hx he23
  replace hn := hn.ext he23
  replace hE := hE.tr he23
  replace hb_g1 := hb_g1.ext he23
  replace hx20 := RdI.ext hx20 he23
  replace hn20 := hn20.ext he23
  replace hEq := hEq.tr he23
  replace hb_g3 := hb_g3.ext he23
  have hz_he23 := he23.size
  have hq_ho23 := fun g e => Own.lt ho23 (g := g) e
  refine vm rfl rfl ?_
  iterate 2 refine vx rfl rfl rfl ?_
  refine wl_step (or_alloc (cs := [(.int .u8 0), (.slice none 0 0)]) ze34 rfl) rfl rfl rfl ?_
  rintro v w8 ⟨g4, rfl, hb_g4, he4, hl4, hu4⟩
  replace hx := RdI.ext hx he4
  replace hn := hn.ext he4
  replace hE := hE.tr he4
  replace hb_g1 := hb_g1.ext he4
  replace hx20 := RdI.ext hx20 he4
  replace hn20 := hn20.ext he4
  replace hEq := hEq.tr he4
  replace hb_g3 := hb_g3.ext he4
  replace ho23 := Own.ext ho23 he4
  have hz_he4 := he4.size
  refine wl_step0 (or_storeBlk (vs := [(.int .u8 (↑(wrR r).1.1.toNat : Int)), (.slice A23 (wrR r).1.2.length c23)]) sz34 rfl rfl (by simp [Value.oneCell']) hb_g4 rfl) rfl rfl ?_
  rintro _ w9 ⟨hN9, hg9⟩
  have hz_hg9 := hg9.size
  replace hx := RdI.gr hx hg9 (fun _ e => by cases e; omega)
  replace hn := hn.gr hg9 (fun _ e => by cases e; omega)
  replace hE := hE.gr hg9 (fun _ e => by cases e; omega)
  replace hb_g1 := hb_g1.gr hg9 (by intro e; cases e; omega)
  replace hx20 := RdI.gr hx20 hg9 (fun _ e => by cases e; omega)
  replace hn20 := hn20.gr hg9 (fun _ e => by cases e; omega)
  replace hEq := hEq.gr hg9 (fun _ e => by cases e; omega)
  replace hb_g3 := hb_g3.gr hg9 (by intro e; cases e; omega)
  replace ho23 := Own.gr ho23 hg9 (by first | exact .inl rfl | (right; intro e; first | (have := hq_ho23 _ e; omega) | (have := Own.lt ho23 e; omega) | exact own_blk_ne ho23 hb_g4 (by decide) e))
  replace hb_g4 := hN9
  refine va rfl rfl ?_
  refine q_nil (k_then (wc_seq (wc_seq (wc_regionL ?_))))
  refine wl_val (ov_loadBlk (cs := [(.int .i64 r.op), (.int .i64 r.err), (.slice X20 r.items.length cx20), (.int .u64 (↑r.ver : Int)), (.int .i64 r.count), (.slice N20 r.nums.length cn20)]) ag28_6 rfl hb_g3) rfl rfl rfl ?_
  refine wl_val (ov_loadBlk (cs := [(.int .i64 r.op), (.int .i64 r.err), (.slice X r.items.length cx), (.int .u64 (↑r.ver : Int)), (.int .i64 r.count), (.slice N r.nums.length cn)]) ag28_6 rfl hb_g1) rfl rfl rfl ?_
  refine wl_step (or_call0 cl14 rfl rfl (req8_any _ r xs20 hv20 _ _ X20 cx20 N20 cn20 hx20 hn20 r xs hv _ _ X cx N cn hx hn)) rfl rfl rfl ?_
  rintro v w10 ⟨rfl, he28⟩
  replace hx := RdI.ext hx he28
  replace hn := hn.ext he28
  replace hE := hE.tr he28
  replace hb_g1 := hb_g1.ext he28
  replace hx20 := RdI.ext hx20 he28
  replace hn20 := hn20.ext he28
  replace hEq := hEq.tr he28
  replace hb_g3 := hb_g3.ext he28
  replace ho23 := Own.ext ho23 he28
  replace hb_g4 := hb_g4.ext he28
  have hz_he28 := he28.size
  refine wl_spell (d := 28) rfl (bt (rfl)) ?_
  refine wl_val (ov_not (b := true) rfl) rfl rfl rfl ?_
  refine q_nil (k_then ?_)
  refine wc_cond_f rfl ?_
  refine q_skip (k_then (wc_seq (wc_regionL ?_)))
  refine wl_val (ov_loadBlk (cs := [(.int .i64 r.op), (.int .i64 r.err), (.slice X20 r.items.length cx20), (.int .u64 (↑r.ver : Int)), (.int .i64 r.count), (.slice N20 r.nums.length cn20)]) ag28_6 rfl hb_g3) rfl rfl rfl ?_
  have hzq := hEq.size
  refine wl_step (or_call0 cl15 rfl rfl (spoil8_any _ r xs20 w3.heap.size w4.heap.size X20 cx20 N20 cn20 (hc20.ext hEq) (fun g e => (Own.lt hc20.x e).2) (fun g e => (Own.lt hc20.n e).2) (copy_low hc20 hlv) (by omega) hli hln)) rfl rfl rfl ?_
  rintro v w11 ⟨rfl, hRg⟩
  replace hx := hx.rg hRg (by omega)
  replace hn := hRg.rd hn (by omega)
  replace hE := hRg.e0 hE (by omega)
  replace hb_g1 := hRg.bk hb_g1 (by omega)
  have hr23 := hRg.rd (OwnB.rd ho23) (by omega)
  replace hb_g4 := hRg.bk hb_g4 (by omega)
  have hz_Rg := hRg.size
  refine q_nil (k_then (wc_seq ?_))
  refine wc_draw mixed 3 [(32, eqv (.agg #[(.int .u8 (↑(wrR r).1.1.toNat : Int)), (.slice A23 (wrR r).1.2.length c23)])), (33, eqv (.agg #[(.int .i64 r.op), (.int .i64 r.err), (.slice X r.items.length cx), (.int .u64 (↑r.ver : Int)), (.int .i64 r.count), (.slice N r.nums.length cn)])), (34, (fun v w => ∃ A34 c34, v = (.agg #[(.int .u8 (↑(codeR r).toNat : Int)), (.slice A34 (refW r).length c34)]) ∧ OwnB w w11.heap.size 5 A34 c34 (refW r)))] [[], [], [1]] _ [] [] (fun _ _ h => h) trivial (by kernel_rfl) rfl ⟨⟨stb_eqv _, fun _ he => by cases he⟩, ⟨stb_eqv _, fun _ he => by cases he⟩, ⟨(fun v w w' ⟨A, c, hv, ho⟩ he => ⟨A, c, hv, Own.ext ho he⟩), fun _ he => by cases he⟩, trivial⟩ ⟨?_, ?_, ?_, trivial⟩ ?_
  · intro wd hxE
    replace hx := RdI.ext hx hxE
    replace hn := hn.ext hxE
    replace hE := hE.tr hxE
    replace hb_g1 := hb_g1.ext hxE
    replace hb_g4 := hb_g4.ext hxE
    replace hr23 := hr23.ext hxE
    have hz_hxE := hxE.size
    show OpG _ _ _ _ _ _
    exact og_plain rfl (ox_val (ov_loadBlk (cs := [(.int .u8 (↑(wrR r).1.1.toNat : Int)), (.slice A23 (wrR r).1.2.length c23)]) ag34_2 rfl hb_g4))
  · intro wd hxE
    replace hx := RdI.ext hx hxE
    replace hn := hn.ext hxE
    replace hE := hE.tr hxE
    replace hb_g1 := hb_g1.ext hxE
    replace hb_g4 := hb_g4.ext hxE
    replace hr23 := hr23.ext hxE
    have hz_hxE := hxE.size
    show OpG _ _ _ _ _ _
    exact og_plain rfl (ox_val (ov_loadBlk (cs := [(.int .i64 r.op), (.int .i64 r.err), (.slice X r.items.length cx), (.int .u64 (↑r.ver : Int)), (.int .i64 r.count), (.slice N r.nums.length cn)]) ag28_6 rfl hb_g1))
  · intro wd hxE
    replace hx := RdI.ext hx hxE
    replace hn := hn.ext hxE
    replace hE := hE.tr hxE
    replace hb_g1 := hb_g1.ext hxE
    replace hb_g4 := hb_g4.ext hxE
    replace hr23 := hr23.ext hxE
    have hz_hxE := hxE.size
    rintro _ rfl
    show OpG _ _ _ _ _ _
    refine og_plain rfl (OpRun.mono (or_call0 cl17 rfl rfl (rw8_any _ r xs hv _ _ X cx N cn hx hn hok.ok (by omega) hrv.o1 hrv.o2 hrv.e1 (by have := hrv.e2; omega) hrv.c1 (rv_marks hrv))) ?_)
    rintro v w12 ⟨A34, c34, rfl, ho34, he34⟩
    replace hx := RdI.ext hx he34
    replace hn := hn.ext he34
    replace hE := hE.tr he34
    replace hb_g1 := hb_g1.ext he34
    replace hb_g4 := hb_g4.ext he34
    replace hr23 := hr23.ext he34
    have hz_he34 := he34.size
    have hq_ho34 := fun g e => Own.lt ho34 (g := g) e
    exact ⟨⟨A34, c34, rfl, Own.mono ho34 (by omega)⟩, he34⟩
  · intro wf10 hf10
    replace hx := RdI.ext hx hf10
    replace hn := hn.ext hf10
    replace hE := hE.tr hf10
    replace hb_g1 := hb_g1.ext hf10
    replace hb_g4 := hb_g4.ext hf10
    replace hr23 := hr23.ext hf10
    have hz_hf10 := hf10.size
    rintro _ rfl
    rintro _ rfl
    rintro _ ⟨A34, c34, rfl, ho34⟩
    have hq_ho34 := fun g e => Own.lt ho34 (g := g) e
    show WL _ _ _ [_, _, _, _, _, _, _, _, _] _ _ _
    refine wl_step (or_call0 cl16 rfl rfl (rfequal_any _ _ _ _ _ ((wrR r).1.1) _ _ (wrR r).1.2 ((codeR r)) _ _ (refW r) hr23 (OwnB.rd ho34))) rfl rfl rfl ?_
    rintro v w12 ⟨rfl, he35⟩
    replace hx := RdI.ext hx he35
    replace hn := hn.ext he35
    replace hE := hE.tr he35
    replace hb_g1 := hb_g1.ext he35
    replace hb_g4 := hb_g4.ext he35
    replace hr23 := hr23.ext he35
    replace ho34 := Own.ext ho34 he35
    have hz_he35 := he35.size
    refine wl_spell (d := 35) rfl (bt (by rw [hwr, refW_eq hrv])) ?_
    refine vm rfl rfl ?_
    refine wl_gval (ov_move rfl) rfl rfl rfl rfl rfl ?_
    refine wl_gval (ov_eql rfl rfl) rfl rfl rfl rfl rfl ?_
    refine wl_spell (d := 38) rfl (bt (by rw [hwr]; rfl)) ?_
    refine wl_val (ov_pick_t rfl rfl) rfl rfl rfl ?_
    refine vm rfl rfl ?_
    refine wl_gstep (or_call0 cl9 rfl rfl (known08_any _)) rfl rfl rfl rfl rfl ?_
    rintro v w13 ⟨rfl, he41⟩
    replace hx := RdI.ext hx he41
    replace hn := hn.ext he41
    replace hE := hE.tr he41
    replace hb_g1 := hb_g1.ext he41
    replace hb_g4 := hb_g4.ext he41
    replace hr23 := hr23.ext he41
    replace ho34 := Own.ext ho34 he41
    have hz_he41 := he41.size
    refine wl_val (ov_pick_t rfl rfl) rfl rfl rfl ?_
    refine va rfl rfl ?_
    refine q_nil (k_then (q_ret ?_))
    refine e_ret rfl rfl ?_
    exact ⟨rfl, hE⟩

theorem responseWrites_walk (w : World) (r : Rsp) (xs : List IT) (hv : vals xs = r.items) (lo hi : Nat) (X : Option Addr) (cx : Nat) (N : Option Addr) (cn : Nat) (hx : RdI w lo hi X cx xs) (hn : RdN w lo hi N cn r.nums) (hok : LawOk r) :
    Fn Try.prog 3 #[.agg (rspc r X cx N cn).toArray] w (fun v w' => v = .bool true ∧ Ext w w') := by
  cases ha : lightR r
  · exact rwrites8_a w r xs hv lo hi X cx N cn hx hn hok ha
  · by_cases hrv : RV r
    · exact rwrites8_c w r xs hv lo hi X cx N cn hx hn hok ha hrv
    · exact rwrites8_b w r xs hv lo hi X cx N cn hx hn hok ha hrv

end Go.Proofs.Ytohnkjjjejnkpaa
