/-
  The walk of ResponseValid.
-/
import Derived.Test.YtohnkjjjejnkpaaRn
namespace Go.Proofs.Ytohnkjjjejnkpaa
open Go.RowKit
set_option linter.unusedVariables false
set_option maxRecDepth 4000
theorem cl10 : callable Try.prog 10 = true := by kernel_rfl
theorem cl12 : callable Try.prog 12 = true := by kernel_rfl
theorem cl21 : callable Try.prog 21 = true := by kernel_rfl
theorem cl8 : callable Try.prog 8 = true := by kernel_rfl
theorem cl9 : callable Try.prog 9 = true := by kernel_rfl

theorem vd8_ref (w : World) (r : Rsp) (xs : List IT) (hv : vals xs = r.items) (lo hi : Nat) (X : Option Addr) (cx : Nat) (N : Option Addr) (cn : Nat) (hx : RdI w lo hi X cx xs) (hn : RdN w lo hi N cn r.nums) (hok : RspOk r) (hsz : rsz r ≤ 4398046511104) : Fn Try.prog 21 #[.agg (rspc r X cx N cn).toArray] w (fun v w' => v = .bool (decide (RV r)) ∧ Ext w w') := by
  have e : decide ((wrR r).2 = 0) = decide (RV r) := by rw [decide_eq_decide]; exact wr_iff hok
  rw [← e]
  exact vd8_any w r xs hv lo hi X cx N cn hx hn hok hsz
theorem light_facts {r : Rsp} (h : lightR r = true) : r.items.length ≤ 40 ∧ r.nums.length ≤ 100 ∧ ∀ x ∈ r.items, x.value.length ≤ 600 := by
  unfold lightR at h
  rw [Bool.and_eq_true, Bool.and_eq_true, decide_eq_true_eq, decide_eq_true_eq, decide_eq_true_eq] at h
  refine ⟨h.1.1, h.1.2, fun x hx => ?_⟩
  have e : ∀ xs : List Itm, x ∈ xs → x.value.length ≤ vsum xs := by
    intro xs
    induction xs with
    | nil => intro h; cases h
    | cons a r ih =>
      intro h
      unfold vsum at *
      rw [List.map_cons, List.sum_cons]
      rcases List.mem_cons.1 h with h | h
      · rw [← h]; omega
      · have := ih h; omega
  have := e _ hx
  omega

theorem rvalid8_a (w : World) (a : Rsp) (xs : List IT) (hv : vals xs = a.items) (lo hi : Nat) (X : Option Addr) (cx : Nat) (N : Option Addr) (cn : Nat) (hx : RdI w lo hi X cx xs) (hn : RdN w lo hi N cn a.nums) (b : Rsp) (xs2 : List IT) (hv2 : vals xs2 = b.items) (lo2 hi2 : Nat) (X2 : Option Addr) (cx2 : Nat) (N2 : Option Addr) (cn2 : Nat) (hx2 : RdI w lo2 hi2 X2 cx2 xs2) (hn2 : RdN w lo2 hi2 N2 cn2 b.nums) (op e : Int) (hoka : LawOk a) (hokb : LawOk b) (ha : lightR a = false) :
    Fn Try.prog 5 #[(.agg #[(.int .i64 a.op), (.int .i64 a.err), (.slice X a.items.length cx), (.int .u64 (↑a.ver : Int)), (.int .i64 a.count), (.slice N a.nums.length cn)]), (.agg #[(.int .i64 b.op), (.int .i64 b.err), (.slice X2 b.items.length cx2), (.int .u64 (↑b.ver : Int)), (.int .i64 b.count), (.slice N2 b.nums.length cn2)]), (.int .i64 op), (.int .i64 e)] w (fun v w' => v = .bool true ∧ Ext w w')  := by
  replace hx := hx.top
  replace hn := Rd.top hn
  replace hx2 := hx2.top
  replace hn2 := Rd.top hn2
  have hE := ext_refl w
  refine fn_enter (args := [(.agg #[(.int .i64 a.op), (.int .i64 a.err), (.slice X a.items.length cx), (.int .u64 (↑a.ver : Int)), (.int .i64 a.count), (.slice N a.nums.length cn)]), (.agg #[(.int .i64 b.op), (.int .i64 b.err), (.slice X2 b.items.length cx2), (.int .u64 (↑b.ver : Int)), (.int .i64 b.count), (.slice N2 b.nums.length cn2)]), (.int .i64 op), (.int .i64 e)]) Try.func5 rfl rfl rfl ?_
  show WC _ _ _ _ [(0, (.agg #[(.int .i64 a.op), (.int .i64 a.err), (.slice X a.items.length cx), (.int .u64 (↑a.ver : Int)), (.int .i64 a.count), (.slice N a.nums.length cn)])), (1, (.agg #[(.int .i64 b.op), (.int .i64 b.err), (.slice X2 b.items.length cx2), (.int .u64 (↑b.ver : Int)), (.int .i64 b.count), (.slice N2 b.nums.length cn2)])), (2, (.int .i64 op)), (3, (.int .i64 e))] _
  refine wc_seq (wc_regionL ?_)
  refine wl_step (or_box (cs := [(.int .i64 a.op), (.int .i64 a.err), (.slice X a.items.length cx), (.int .u64 (↑a.ver : Int)), (.int .i64 a.count), (.slice N a.nums.length cn)]) rfl rfl) rfl rfl rfl ?_
  rintro v w1 ⟨g4, rfl, hb_g4, he4, hl4, hu4⟩
  replace hx := RdI.ext hx he4
  replace hn := hn.ext he4
  replace hx2 := RdI.ext hx2 he4
  replace hn2 := hn2.ext he4
  replace hE := hE.tr he4
  have hz_he4 := he4.size
  refine wl_step (or_box (cs := [(.int .i64 b.op), (.int .i64 b.err), (.slice X2 b.items.length cx2), (.int .u64 (↑b.ver : Int)), (.int .i64 b.count), (.slice N2 b.nums.length cn2)]) rfl rfl) rfl rfl rfl ?_
  rintro v w2 ⟨g5, rfl, hb_g5, he5, hl5, hu5⟩
  replace hx := RdI.ext hx he5
  replace hn := hn.ext he5
  replace hx2 := RdI.ext hx2 he5
  replace hn2 := hn2.ext he5
  replace hE := hE.tr he5
  replace hb_g4 := hb_g4.ext he5
  have hz_he5 := he5.size
  refine va rfl rfl ?_
  refine q_nil (k_then (wc_seq (wc_seq (wc_regionL ?_))))
  refine wl_val (ov_loadBlk (cs := [(.int .i64 a.op), (.int .i64 a.err), (.slice X a.items.length cx), (.int .u64 (↑a.ver : Int)), (.int .i64 a.count), (.slice N a.nums.length cn)]) ag28_6 rfl hb_g4) rfl rfl rfl ?_
  refine wl_step (or_call0 cl8 rfl rfl (light8_any _ a xs hv _ _ X cx N cn hx hn hoka.len)) rfl rfl rfl ?_
  rintro v w3 ⟨rfl, he10⟩
  replace hx := RdI.ext hx he10
  replace hn := hn.ext he10
  replace hx2 := RdI.ext hx2 he10
  replace hn2 := hn2.ext he10
  replace hE := hE.tr he10
  replace hb_g4 := hb_g4.ext he10
  replace hb_g5 := hb_g5.ext he10
  have hz_he10 := he10.size
  refine wl_spell (d := 10) rfl (v' := (.bool false)) (by rw [ha]) ?_
  refine wl_val (ov_not (b := false) rfl) rfl rfl rfl ?_
  refine vm rfl rfl ?_
  iterate 3 refine wl_gskip rfl rfl rfl rfl rfl rfl ?_
  refine wl_val (ov_pick_t rfl rfl) rfl rfl rfl ?_
  refine q_nil (k_then ?_)
  refine wc_cond_t rfl ?_
  refine wc_seq (wc_regionL ?_)
  refine wl_step (or_call0 cl9 rfl rfl (known08_any _)) rfl rfl rfl ?_
  rintro v w4 ⟨rfl, he17⟩
  replace hx := RdI.ext hx he17
  replace hn := hn.ext he17
  replace hx2 := RdI.ext hx2 he17
  replace hn2 := hn2.ext he17
  replace hE := hE.tr he17
  replace hb_g4 := hb_g4.ext he17
  replace hb_g5 := hb_g5.ext he17
  have hz_he17 := he17.size
  refine va rfl rfl ?_
  refine q_nil (k_then (q_ret (k_thenR ?_)))
  refine e_ret rfl rfl ?_
  exact ⟨rfl, hE⟩

theorem rvalid8_b (w : World) (a : Rsp) (xs : List IT) (hv : vals xs = a.items) (lo hi : Nat) (X : Option Addr) (cx : Nat) (N : Option Addr) (cn : Nat) (hx : RdI w lo hi X cx xs) (hn : RdN w lo hi N cn a.nums) (b : Rsp) (xs2 : List IT) (hv2 : vals xs2 = b.items) (lo2 hi2 : Nat) (X2 : Option Addr) (cx2 : Nat) (N2 : Option Addr) (cn2 : Nat) (hx2 : RdI w lo2 hi2 X2 cx2 xs2) (hn2 : RdN w lo2 hi2 N2 cn2 b.nums) (op e : Int) (hoka : LawOk a) (hokb : LawOk b) (ha : lightR a = true) (hb : lightR b = false) :
    Fn Try.prog 5 #[(.agg #[(.int .i64 a.op), (.int .i64 a.err), (.slice X a.items.length cx), (.int .u64 (↑a.ver : Int)), (.int .i64 a.count), (.slice N a.nums.length cn)]), (.agg #[(.int .i64 b.op), (.int .i64 b.err), (.slice X2 b.items.length cx2), (.int .u64 (↑b.ver : Int)), (.int .i64 b.count), (.slice N2 b.nums.length cn2)]), (.int .i64 op), (.int .i64 e)] w (fun v w' => v = .bool true ∧ Ext w w')  := by
  replace hx := hx.top
  replace hn := Rd.top hn
  replace hx2 := hx2.top
  replace hn2 := Rd.top hn2
  have hE := ext_refl w
  refine fn_enter (args := [(.agg #[(.int .i64 a.op), (.int .i64 a.err), (.slice X a.items.length cx), (.int .u64 (↑a.ver : Int)), (.int .i64 a.count), (.slice N a.nums.length cn)]), (.agg #[(.int .i64 b.op), (.int .i64 b.err), (.slice X2 b.items.length cx2), (.int .u64 (↑b.ver : Int)), (.int .i64 b.count), (.slice N2 b.nums.length cn2)]), (.int .i64 op), (.int .i64 e)]) Try.func5 rfl rfl rfl ?_
  show WC _ _ _ _ [(0, (.agg #[(.int .i64 a.op), (.int .i64 a.err), (.slice X a.items.length cx), (.int .u64 (↑a.ver : Int)), (.int .i64 a.count), (.slice N a.nums.length cn)])), (1, (.agg #[(.int .i64 b.op), (.int .i64 b.err), (.slice X2 b.items.length cx2), (.int .u64 (↑b.ver : Int)), (.int .i64 b.count), (.slice N2 b.nums.length cn2)])), (2, (.int .i64 op)), (3, (.int .i64 e))] _
  refine wc_seq (wc_regionL ?_)
  refine wl_step (or_box (cs := [(.int .i64 a.op), (.int .i64 a.err), (.slice X a.items.length cx), (.int .u64 (↑a.ver : Int)), (.int .i64 a.count), (.slice N a.nums.length cn)]) rfl rfl) rfl rfl rfl ?_
  rintro v w1 ⟨g4, rfl, hb_g4, he4, hl4, hu4⟩
  replace hx := RdI.ext hx he4
  replace hn := hn.ext he4
  replace hx2 := RdI.ext hx2 he4
  replace hn2 := hn2.ext he4
  replace hE := hE.tr he4
  have hz_he4 := he4.size
  refine wl_step (or_box (cs := [(.int .i64 b.op), (.int .i64 b.err), (.slice X2 b.items.length cx2), (.int .u64 (↑b.ver : Int)), (.int .i64 b.count), (.slice N2 b.nums.length cn2)]) rfl rfl) rfl rfl rfl ?_
  rintro v w2 ⟨g5, rfl, hb_g5, he5, hl5, hu5⟩
  replace hx := RdI.ext hx he5
  replace hn := hn.ext he5
  replace hx2 := RdI.ext hx2 he5
  replace hn2 := hn2.ext he5
  replace hE := hE.tr he5
  replace hb_g4 := hb_g4.ext he5
  have hz_he5 := he5.size
  refine va rfl rfl ?_
  refine q_nil (k_then (wc_seq (wc_seq (wc_regionL ?_))))
  refine wl_val (ov_loadBlk (cs := [(.int .i64 a.op), (.int .i64 a.err), (.slice X a.items.length cx), (.int .u64 (↑a.ver : Int)), (.int .i64 a.count), (.slice N a.nums.length cn)]) ag28_6 rfl hb_g4) rfl rfl rfl ?_
  refine wl_step (or_call0 cl8 rfl rfl (light8_any _ a xs hv _ _ X cx N cn hx hn hoka.len)) rfl rfl rfl ?_
  rintro v w3 ⟨rfl, he10⟩
  replace hx := RdI.ext hx he10
  replace hn := hn.ext he10
  replace hx2 := RdI.ext hx2 he10
  replace hn2 := hn2.ext he10
  replace hE := hE.tr he10
  replace hb_g4 := hb_g4.ext he10
  replace hb_g5 := hb_g5.ext he10
  have hz_he10 := he10.size
  refine wl_spell (d := 10) rfl (v' := (.bool true)) (by rw [ha]) ?_
  refine wl_val (ov_not (b := true) rfl) rfl rfl rfl ?_
  refine vm rfl rfl ?_
  refine wl_gval (ov_loadBlk (cs := [(.int .i64 b.op), (.int .i64 b.err), (.slice X2 b.items.length cx2), (.int .u64 (↑b.ver : Int)), (.int .i64 b.count), (.slice N2 b.nums.length cn2)]) ag28_6 rfl hb_g5) rfl rfl rfl rfl rfl ?_
  refine wl_gstep (or_call0 cl8 rfl rfl (light8_any _ b xs2 hv2 _ _ X2 cx2 N2 cn2 hx2 hn2 hokb.len)) rfl rfl rfl rfl rfl ?_
  rintro v w4 ⟨rfl, he14⟩
  replace hx := RdI.ext hx he14
  replace hn := hn.ext he14
  replace hx2 := RdI.ext hx2 he14
  replace hn2 := hn2.ext he14
  replace hE := hE.tr he14
  replace hb_g4 := hb_g4.ext he14
  replace hb_g5 := hb_g5.ext he14
  have hz_he14 := he14.size
  refine wl_spell (d := 14) rfl (v' := (.bool false)) (by rw [hb]) ?_
  refine wl_gval (ov_not (b := false) rfl) rfl rfl rfl rfl rfl ?_
  refine wl_val (ov_pick_f rfl rfl) rfl rfl rfl ?_
  refine q_nil (k_then ?_)
  refine wc_cond_t rfl ?_
  refine wc_seq (wc_regionL ?_)
  refine wl_step (or_call0 cl9 rfl rfl (known08_any _)) rfl rfl rfl ?_
  rintro v w5 ⟨rfl, he17⟩
  replace hx := RdI.ext hx he17
  replace hn := hn.ext he17
  replace hx2 := RdI.ext hx2 he17
  replace hn2 := hn2.ext he17
  replace hE := hE.tr he17
  replace hb_g4 := hb_g4.ext he17
  replace hb_g5 := hb_g5.ext he17
  have hz_he17 := he17.size
  refine va rfl rfl ?_
  refine q_nil (k_then (q_ret (k_thenR ?_)))
  refine e_ret rfl rfl ?_
  exact ⟨rfl, hE⟩

theorem rvalid8_c (w : World) (a : Rsp) (xs : List IT) (hv : vals xs = a.items) (lo hi : Nat) (X : Option Addr) (cx : Nat) (N : Option Addr) (cn : Nat) (hx : RdI w lo hi X cx xs) (hn : RdN w lo hi N cn a.nums) (b : Rsp) (xs2 : List IT) (hv2 : vals xs2 = b.items) (lo2 hi2 : Nat) (X2 : Option Addr) (cx2 : Nat) (N2 : Option Addr) (cn2 : Nat) (hx2 : RdI w lo2 hi2 X2 cx2 xs2) (hn2 : RdN w lo2 hi2 N2 cn2 b.nums) (op e : Int) (hoka : LawOk a) (hokb : LawOk b) (ha : lightR a = true) (hb : lightR b = true) :
    Fn Try.prog 5 #[(.agg #[(.int .i64 a.op), (.int .i64 a.err), (.slice X a.items.length cx), (.int .u64 (↑a.ver : Int)), (.int .i64 a.count), (.slice N a.nums.length cn)]), (.agg #[(.int .i64 b.op), (.int .i64 b.err), (.slice X2 b.items.length cx2), (.int .u64 (↑b.ver : Int)), (.int .i64 b.count), (.slice N2 b.nums.length cn2)]), (.int .i64 op), (.int .i64 e)] w (fun v w' => v = .bool true ∧ Ext w w')  := by
  replace hx := hx.top
  replace hn := Rd.top hn
  replace hx2 := hx2.top
  replace hn2 := Rd.top hn2
  have hE := ext_refl w
  have hsz := lightR_rsz ha
  obtain ⟨hl1, hl2, hl3⟩ := light_facts ha
  refine fn_enter (args := [(.agg #[(.int .i64 a.op), (.int .i64 a.err), (.slice X a.items.length cx), (.int .u64 (↑a.ver : Int)), (.int .i64 a.count), (.slice N a.nums.length cn)]), (.agg #[(.int .i64 b.op), (.int .i64 b.err), (.slice X2 b.items.length cx2), (.int .u64 (↑b.ver : Int)), (.int .i64 b.count), (.slice N2 b.nums.length cn2)]), (.int .i64 op), (.int .i64 e)]) Try.func5 rfl rfl rfl ?_
  show WC _ _ _ _ [(0, (.agg #[(.int .i64 a.op), (.int .i64 a.err), (.slice X a.items.length cx), (.int .u64 (↑a.ver : Int)), (.int .i64 a.count), (.slice N a.nums.length cn)])), (1, (.agg #[(.int .i64 b.op), (.int .i64 b.err), (.slice X2 b.items.length cx2), (.int .u64 (↑b.ver : Int)), (.int .i64 b.count), (.slice N2 b.nums.length cn2)])), (2, (.int .i64 op)), (3, (.int .i64 e))] _
  refine wc_seq (wc_regionL ?_)
  refine wl_step (or_box (cs := [(.int .i64 a.op), (.int .i64 a.err), (.slice X a.items.length cx), (.int .u64 (↑a.ver : Int)), (.int .i64 a.count), (.slice N a.nums.length cn)]) rfl rfl) rfl rfl rfl ?_
  rintro v w1 ⟨g4, rfl, hb_g4, he4, hl4, hu4⟩
  replace hx := RdI.ext hx he4
  replace hn := hn.ext he4
  replace hx2 := RdI.ext hx2 he4
  replace hn2 := hn2.ext he4
  replace hE := hE.tr he4
  have hz_he4 := he4.size
  refine wl_step (or_box (cs := [(.int .i64 b.op), (.int .i64 b.err), (.slice X2 b.items.length cx2), (.int .u64 (↑b.ver : Int)), (.int .i64 b.count), (.slice N2 b.nums.length cn2)]) rfl rfl) rfl rfl rfl ?_
  rintro v w2 ⟨g5, rfl, hb_g5, he5, hl5, hu5⟩
  replace hx := RdI.ext hx he5
  replace hn := hn.ext he5
  replace hx2 := RdI.ext hx2 he5
  replace hn2 := hn2.ext he5
  replace hE := hE.tr he5
  replace hb_g4 := hb_g4.ext he5
  have hz_he5 := he5.size
  refine va rfl rfl ?_
  refine q_nil (k_then (wc_seq (wc_seq (wc_regionL ?_))))
  refine wl_val (ov_loadBlk (cs := [(.int .i64 a.op), (.int .i64 a.err), (.slice X a.items.length cx), (.int .u64 (↑a.ver : Int)), (.int .i64 a.count), (.slice N a.nums.length cn)]) ag28_6 rfl hb_g4) rfl rfl rfl ?_
  refine wl_step (or_call0 cl8 rfl rfl (light8_any _ a xs hv _ _ X cx N cn hx hn hoka.len)) rfl rfl rfl ?_
  rintro v w3 ⟨rfl, he10⟩
  replace hx := RdI.ext hx he10
  replace hn := hn.ext he10
  replace hx2 := RdI.ext hx2 he10
  replace hn2 := hn2.ext he10
  replace hE := hE.tr he10
  replace hb_g4 := hb_g4.ext he10
  replace hb_g5 := hb_g5.ext he10
  have hz_he10 := he10.size
  refine wl_spell (d := 10) rfl (v' := (.bool true)) (by rw [ha]) ?_
  refine wl_val (ov_not (b := true) rfl) rfl rfl rfl ?_
  refine vm rfl rfl ?_
  refine wl_gval (ov_loadBlk (cs := [(.int .i64 b.op), (.int .i64 b.err), (.slice X2 b.items.length cx2), (.int .u64 (↑b.ver : Int)), (.int .i64 b.count), (.slice N2 b.nums.length cn2)]) ag28_6 rfl hb_g5) rfl rfl rfl rfl rfl ?_
  refine wl_gstep (or_call0 cl8 rfl rfl (light8_any _ b xs2 hv2 _ _ X2 cx2 N2 cn2 hx2 hn2 hokb.len)) rfl rfl rfl rfl rfl ?_
  rintro v w4 ⟨rfl, he14⟩
  replace hx := RdI.ext hx he14
  replace hn := hn.ext he14
  replace hx2 := RdI.ext hx2 he14
  replace hn2 := hn2.ext he14
  replace hE := hE.tr he14
  replace hb_g4 := hb_g4.ext he14
  replace hb_g5 := hb_g5.ext he14
  have hz_he14 := he14.size
  refine wl_spell (d := 14) rfl (v' := (.bool true)) (by rw [hb]) ?_
  refine wl_gval (ov_not (b := true) rfl) rfl rfl rfl rfl rfl ?_
  refine wl_val (ov_pick_f rfl rfl) rfl rfl rfl ?_
  refine q_nil (k_then ?_)
  refine wc_cond_f rfl ?_
  refine q_skip (k_then (wc_seq ?_))
  refine wc_draw mixed 27 [(18, eqv (.agg #[(.int .i64 a.op), (.int .i64 a.err), (.slice X a.items.length cx), (.int .u64 (↑a.ver : Int)), (.int .i64 a.count), (.slice N a.nums.length cn)])), (19, eqv (.bool (decide (RV a)))), (20, eqv (.agg #[(.int .i64 a.op), (.int .i64 a.err), (.slice X a.items.length cx), (.int .u64 (↑a.ver : Int)), (.int .i64 a.count), (.slice N a.nums.length cn)])), (21, eqv (.bool (decide (RV a)))), (22, eqv (.bool true)), (23, eqv (.bool true)), (24, eqv (.agg #[(.int .i64 a.op), (.int .i64 a.err), (.slice X a.items.length cx), (.int .u64 (↑a.ver : Int)), (.int .i64 a.count), (.slice N a.nums.length cn)])), (25, eqv (.agg #[(.int .i64 b.op), (.int .i64 b.err), (.slice X2 b.items.length cx2), (.int .u64 (↑b.ver : Int)), (.int .i64 b.count), (.slice N2 b.nums.length cn2)])), (26, eqv (.bool (decide (a = b)))), (27, eqv (.agg #[(.int .i64 a.op), (.int .i64 a.err), (.slice X a.items.length cx), (.int .u64 (↑a.ver : Int)), (.int .i64 a.count), (.slice N a.nums.length cn)])), (28, eqv (.agg #[(.int .i64 b.op), (.int .i64 b.err), (.slice X2 b.items.length cx2), (.int .u64 (↑b.ver : Int)), (.int .i64 b.count), (.slice N2 b.nums.length cn2)])), (29, eqv (.bool (decide (a = b)))), (30, eqv (.bool true)), (31, eqv (.bool true)), (32, eqv (.bool true)), (33, eqv (.agg #[(.int .i64 a.op), (.int .i64 a.err), (.slice X a.items.length cx), (.int .u64 (↑a.ver : Int)), (.int .i64 a.count), (.slice N a.nums.length cn)])), (34, eqv (.agg #[(.int .i64 a.op), (.int .i64 a.err), (.slice X a.items.length cx), (.int .u64 (↑a.ver : Int)), (.int .i64 a.count), (.slice N a.nums.length cn)])), (35, (fun v w => ∃ xs35 X35 cx35 N35 cn35, v = .agg (rspc a X35 cx35 N35 cn35).toArray ∧ vals xs35 = a.items ∧ RdI w 0 w.heap.size X35 cx35 xs35 ∧ RdN w 0 w.heap.size N35 cn35 a.nums)), (36, eqv (.bool true)), (37, eqv (.bool true)), (38, eqv (.bool true)), (39, eqv (.int .i64 op)), (40, eqv (.int .i64 e)), (41, eqv (.agg #[(.int .i64 op), (.int .i64 e), (.slice none 0 0), (.int .u64 0), (.int .i64 0), (.slice none 0 0)])), (42, eqv (.int .i64 op)), (43, eqv (.int .i64 e)), (44, eqv (.agg #[(.int .i64 op), (.int .i64 e), (.slice none 0 0), (.int .u64 0), (.int .i64 0), (.slice none 0 0)]))] [[], [0], [], [2], [1, 3], [4], [5], [5], [5, 6, 7], [5], [5], [5, 9, 10], [5, 8, 11], [5, 12], [13], [14], [14], [14, 16], [14, 15, 17], [14, 18], [19], [20], [20], [20, 21, 22], [20], [20], [20, 24, 25]] _ [] [] (fun _ _ h => h) trivial (by kernel_rfl) rfl ⟨⟨stb_eqv _, fun _ he => by cases he⟩, ⟨stb_eqv _, fun _ he => by cases he⟩, ⟨stb_eqv _, fun _ he => by cases he⟩, ⟨stb_eqv _, fun _ he => by cases he⟩, ⟨stb_eqv _, fun _ he => by cases he⟩, ⟨stb_eqv _, fun _ he => by cases he⟩, ⟨stb_eqv _, fun _ he => by cases he⟩, ⟨stb_eqv _, fun _ he => by cases he⟩, ⟨stb_eqv _, fun _ he => by cases he⟩, ⟨stb_eqv _, fun _ he => by cases he⟩, ⟨stb_eqv _, fun _ he => by cases he⟩, ⟨stb_eqv _, fun _ he => by cases he⟩, ⟨stb_eqv _, fun _ he => by cases he⟩, ⟨stb_eqv _, fun _ he => by cases he⟩, ⟨stb_eqv _, fun _ he => by cases he⟩, ⟨stb_eqv _, fun _ he => by cases he⟩, ⟨stb_eqv _, fun _ he => by cases he⟩, ⟨(fun v w1 w2 ⟨a1, b, c, d, e, hv, h1, h2, h3⟩ he => ⟨a1, b, c, d, e, hv, h1, (h2.ext he).mono (Nat.le_refl _) he.size, (Rd.ext h3 he).mono (Nat.le_refl _) he.size⟩), fun _ he => by cases he⟩, ⟨stb_eqv _, fun _ he => by cases he⟩, ⟨stb_eqv _, fun _ he => by cases he⟩, ⟨stb_eqv _, fun _ he => by cases he⟩, ⟨stb_eqv _, fun _ he => by cases he⟩, ⟨stb_eqv _, fun _ he => by cases he⟩, ⟨stb_eqv _, fun _ he => by cases he⟩, ⟨stb_eqv _, fun _ he => by cases he⟩, ⟨stb_eqv _, fun _ he => by cases he⟩, ⟨stb_eqv _, fun _ he => by cases he⟩, trivial⟩ ⟨?_, ?_, ?_, ?_, ?_, ?_, ?_, ?_, ?_, ?_, ?_, ?_, ?_, ?_, ?_, ?_, ?_, ?_, ?_, ?_, ?_, ?_, ?_, ?_, ?_, ?_, ?_, trivial⟩ ?_
  · intro wd hxE
    replace hx := RdI.ext hx hxE
    replace hn := hn.ext hxE
    replace hx2 := RdI.ext hx2 hxE
    replace hn2 := hn2.ext hxE
    replace hE := hE.tr hxE
    replace hb_g4 := hb_g4.ext hxE
    replace hb_g5 := hb_g5.ext hxE
    have hz_hxE := hxE.size
    show OpG _ _ _ _ _ _
    exact og_plain rfl (ox_val (ov_loadBlk (cs := [(.int .i64 a.op), (.int .i64 a.err), (.slice X a.items.length cx), (.int .u64 (↑a.ver : Int)), (.int .i64 a.count), (.slice N a.nums.length cn)]) ag28_6 rfl hb_g4))
  · intro wd hxE
    replace hx := RdI.ext hx hxE
    replace hn := hn.ext hxE
    replace hx2 := RdI.ext hx2 hxE
    replace hn2 := hn2.ext hxE
    replace hE := hE.tr hxE
    replace hb_g4 := hb_g4.ext hxE
    replace hb_g5 := hb_g5.ext hxE
    have hz_hxE := hxE.size
    rintro _ rfl
    show OpG _ _ _ _ _ _
    refine og_plain rfl (OpRun.mono (or_call0 cl21 rfl rfl (vd8_ref _ a xs hv _ _ X cx N cn hx hn hoka.ok (by omega))) ?_)
    rintro v w5 ⟨rfl, he19⟩
    replace hx := RdI.ext hx he19
    replace hn := hn.ext he19
    replace hx2 := RdI.ext hx2 he19
    replace hn2 := hn2.ext he19
    replace hE := hE.tr he19
    replace hb_g4 := hb_g4.ext he19
    replace hb_g5 := hb_g5.ext he19
    have hz_he19 := he19.size
    exact ⟨rfl, he19⟩
  · intro wd hxE
    replace hx := RdI.ext hx hxE
    replace hn := hn.ext hxE
    replace hx2 := RdI.ext hx2 hxE
    replace hn2 := hn2.ext hxE
    replace hE := hE.tr hxE
    replace hb_g4 := hb_g4.ext hxE
    replace hb_g5 := hb_g5.ext hxE
    have hz_hxE := hxE.size
    show OpG _ _ _ _ _ _
    exact og_plain rfl (ox_val (ov_loadBlk (cs := [(.int .i64 a.op), (.int .i64 a.err), (.slice X a.items.length cx), (.int .u64 (↑a.ver : Int)), (.int .i64 a.count), (.slice N a.nums.length cn)]) ag28_6 rfl hb_g4))
  · intro wd hxE
    replace hx := RdI.ext hx hxE
    replace hn := hn.ext hxE
    replace hx2 := RdI.ext hx2 hxE
    replace hn2 := hn2.ext hxE
    replace hE := hE.tr hxE
    replace hb_g4 := hb_g4.ext hxE
    replace hb_g5 := hb_g5.ext hxE
    have hz_hxE := hxE.size
    rintro _ rfl
    show OpG _ _ _ _ _ _
    refine og_plain rfl (OpRun.mono (or_call0 cl10 rfl rfl (rv8_any _ a xs hv _ _ X cx N cn hx hn)) ?_)
    rintro v w5 ⟨rfl, he21⟩
    replace hx := RdI.ext hx he21
    replace hn := hn.ext he21
    replace hx2 := RdI.ext hx2 he21
    replace hn2 := hn2.ext he21
    replace hE := hE.tr he21
    replace hb_g4 := hb_g4.ext he21
    replace hb_g5 := hb_g5.ext he21
    have hz_he21 := he21.size
    exact ⟨rfl, he21⟩
  · intro wd hxE
    replace hx := RdI.ext hx hxE
    replace hn := hn.ext hxE
    replace hx2 := RdI.ext hx2 hxE
    replace hn2 := hn2.ext hxE
    replace hE := hE.tr hxE
    replace hb_g4 := hb_g4.ext hxE
    replace hb_g5 := hb_g5.ext hxE
    have hz_hxE := hxE.size
    rintro _ rfl
    rintro _ rfl
    show OpG _ _ _ _ _ _
    exact og_plain rfl (ox_spell (c := (.bool ((decide (RV a)) == (decide (RV a))))) (by simp) (ov_eqb Try.underlying4 rfl rfl))
  · intro wd hxE
    replace hx := RdI.ext hx hxE
    replace hn := hn.ext hxE
    replace hx2 := RdI.ext hx2 hxE
    replace hn2 := hn2.ext hxE
    replace hE := hE.tr hxE
    replace hb_g4 := hb_g4.ext hxE
    replace hb_g5 := hb_g5.ext hxE
    have hz_hxE := hxE.size
    rintro _ rfl
    show OpG _ _ _ _ _ _
    exact og_plain rfl (ox_val (ov_move rfl))
  · intro wd hxE
    replace hx := RdI.ext hx hxE
    replace hn := hn.ext hxE
    replace hx2 := RdI.ext hx2 hxE
    replace hn2 := hn2.ext hxE
    replace hE := hE.tr hxE
    replace hb_g4 := hb_g4.ext hxE
    replace hb_g5 := hb_g5.ext hxE
    have hz_hxE := hxE.size
    rintro _ rfl
    show OpG _ _ _ _ _ _
    exact og_on rfl rfl rfl (ox_val (ov_loadBlk (cs := [(.int .i64 a.op), (.int .i64 a.err), (.slice X a.items.length cx), (.int .u64 (↑a.ver : Int)), (.int .i64 a.count), (.slice N a.nums.length cn)]) ag28_6 rfl hb_g4))
  · intro wd hxE
    replace hx := RdI.ext hx hxE
    replace hn := hn.ext hxE
    replace hx2 := RdI.ext hx2 hxE
    replace hn2 := hn2.ext hxE
    replace hE := hE.tr hxE
    replace hb_g4 := hb_g4.ext hxE
    replace hb_g5 := hb_g5.ext hxE
    have hz_hxE := hxE.size
    rintro _ rfl
    show OpG _ _ _ _ _ _
    exact og_on rfl rfl rfl (ox_val (ov_loadBlk (cs := [(.int .i64 b.op), (.int .i64 b.err), (.slice X2 b.items.length cx2), (.int .u64 (↑b.ver : Int)), (.int .i64 b.count), (.slice N2 b.nums.length cn2)]) ag28_6 rfl hb_g5))
  · intro wd hxE
    replace hx := RdI.ext hx hxE
    replace hn := hn.ext hxE
    replace hx2 := RdI.ext hx2 hxE
    replace hn2 := hn2.ext hxE
    replace hE := hE.tr hxE
    replace hb_g4 := hb_g4.ext hxE
    replace hb_g5 := hb_g5.ext hxE
    have hz_hxE := hxE.size
    rintro _ rfl
    rintro _ rfl
    rintro _ rfl
    show OpG _ _ _ _ _ _
    refine og_on rfl rfl rfl (OpRun.mono (or_call0 cl22 rfl rfl (eq8_any _ a xs hv _ _ X cx N cn hx hn b xs2 hv2 _ _ X2 cx2 N2 cn2 hx2 hn2)) ?_)
    rintro v w5 ⟨rfl, he26⟩
    replace hx := RdI.ext hx he26
    replace hn := hn.ext he26
    replace hx2 := RdI.ext hx2 he26
    replace hn2 := hn2.ext he26
    replace hE := hE.tr he26
    replace hb_g4 := hb_g4.ext he26
    replace hb_g5 := hb_g5.ext he26
    have hz_he26 := he26.size
    exact ⟨rfl, he26⟩
  · intro wd hxE
    replace hx := RdI.ext hx hxE
    replace hn := hn.ext hxE
    replace hx2 := RdI.ext hx2 hxE
    replace hn2 := hn2.ext hxE
    replace hE := hE.tr hxE
    replace hb_g4 := hb_g4.ext hxE
    replace hb_g5 := hb_g5.ext hxE
    have hz_hxE := hxE.size
    rintro _ rfl
    show OpG _ _ _ _ _ _
    exact og_on rfl rfl rfl (ox_val (ov_loadBlk (cs := [(.int .i64 a.op), (.int .i64 a.err), (.slice X a.items.length cx), (.int .u64 (↑a.ver : Int)), (.int .i64 a.count), (.slice N a.nums.length cn)]) ag28_6 rfl hb_g4))
  · intro wd hxE
    replace hx := RdI.ext hx hxE
    replace hn := hn.ext hxE
    replace hx2 := RdI.ext hx2 hxE
    replace hn2 := hn2.ext hxE
    replace hE := hE.tr hxE
    replace hb_g4 := hb_g4.ext hxE
    replace hb_g5 := hb_g5.ext hxE
    have hz_hxE := hxE.size
    rintro _ rfl
    show OpG _ _ _ _ _ _
    exact og_on rfl rfl rfl (ox_val (ov_loadBlk (cs := [(.int .i64 b.op), (.int .i64 b.err), (.slice X2 b.items.length cx2), (.int .u64 (↑b.ver : Int)), (.int .i64 b.count), (.slice N2 b.nums.length cn2)]) ag28_6 rfl hb_g5))
  · intro wd hxE
    replace hx := RdI.ext hx hxE
    replace hn := hn.ext hxE
    replace hx2 := RdI.ext hx2 hxE
    replace hn2 := hn2.ext hxE
    replace hE := hE.tr hxE
    replace hb_g4 := hb_g4.ext hxE
    replace hb_g5 := hb_g5.ext hxE
    have hz_hxE := hxE.size
    rintro _ rfl
    rintro _ rfl
    rintro _ rfl
    show OpG _ _ _ _ _ _
    refine og_on rfl rfl rfl (OpRun.mono (or_call0 cl14 rfl rfl (req8_any _ a xs hv _ _ X cx N cn hx hn b xs2 hv2 _ _ X2 cx2 N2 cn2 hx2 hn2)) ?_)
    rintro v w5 ⟨rfl, he29⟩
    replace hx := RdI.ext hx he29
    replace hn := hn.ext he29
    replace hx2 := RdI.ext hx2 he29
    replace hn2 := hn2.ext he29
    replace hE := hE.tr he29
    replace hb_g4 := hb_g4.ext he29
    replace hb_g5 := hb_g5.ext he29
    have hz_he29 := he29.size
    exact ⟨rfl, he29⟩
  · intro wd hxE
    replace hx := RdI.ext hx hxE
    replace hn := hn.ext hxE
    replace hx2 := RdI.ext hx2 hxE
    replace hn2 := hn2.ext hxE
    replace hE := hE.tr hxE
    replace hb_g4 := hb_g4.ext hxE
    replace hb_g5 := hb_g5.ext hxE
    have hz_hxE := hxE.size
    rintro _ rfl
    rintro _ rfl
    rintro _ rfl
    show OpG _ _ _ _ _ _
    exact og_on rfl rfl rfl (ox_spell (c := (.bool ((decide (a = b)) == (decide (a = b))))) (by simp) (ov_eqb Try.underlying4 rfl rfl))
  · intro wd hxE
    replace hx := RdI.ext hx hxE
    replace hn := hn.ext hxE
    replace hx2 := RdI.ext hx2 hxE
    replace hn2 := hn2.ext hxE
    replace hE := hE.tr hxE
    replace hb_g4 := hb_g4.ext hxE
    replace hb_g5 := hb_g5.ext hxE
    have hz_hxE := hxE.size
    rintro _ rfl
    rintro _ rfl
    show OpG _ _ _ _ _ _
    exact og_plain rfl (ox_val (ov_pick_t rfl rfl))
  · intro wd hxE
    replace hx := RdI.ext hx hxE
    replace hn := hn.ext hxE
    replace hx2 := RdI.ext hx2 hxE
    replace hn2 := hn2.ext hxE
    replace hE := hE.tr hxE
    replace hb_g4 := hb_g4.ext hxE
    replace hb_g5 := hb_g5.ext hxE
    have hz_hxE := hxE.size
    rintro _ rfl
    show OpG _ _ _ _ _ _
    exact og_plain rfl (ox_val (ov_move rfl))
  · intro wd hxE
    replace hx := RdI.ext hx hxE
    replace hn := hn.ext hxE
    replace hx2 := RdI.ext hx2 hxE
    replace hn2 := hn2.ext hxE
    replace hE := hE.tr hxE
    replace hb_g4 := hb_g4.ext hxE
    replace hb_g5 := hb_g5.ext hxE
    have hz_hxE := hxE.size
    rintro _ rfl
    show OpG _ _ _ _ _ _
    exact og_on rfl rfl rfl (ox_val (ov_loadBlk (cs := [(.int .i64 a.op), (.int .i64 a.err), (.slice X a.items.length cx), (.int .u64 (↑a.ver : Int)), (.int .i64 a.count), (.slice N a.nums.length cn)]) ag28_6 rfl hb_g4))
  · intro wd hxE
    replace hx := RdI.ext hx hxE
    replace hn := hn.ext hxE
    replace hx2 := RdI.ext hx2 hxE
    replace hn2 := hn2.ext hxE
    replace hE := hE.tr hxE
    replace hb_g4 := hb_g4.ext hxE
    replace hb_g5 := hb_g5.ext hxE
    have hz_hxE := hxE.size
    rintro _ rfl
    show OpG _ _ _ _ _ _
    exact og_on rfl rfl rfl (ox_val (ov_loadBlk (cs := [(.int .i64 a.op), (.int .i64 a.err), (.slice X a.items.length cx), (.int .u64 (↑a.ver : Int)), (.int .i64 a.count), (.slice N a.nums.length cn)]) ag28_6 rfl hb_g4))
  · intro wd hxE
    replace hx := RdI.ext hx hxE
    replace hn := hn.ext hxE
    replace hx2 := RdI.ext hx2 hxE
    replace hn2 := hn2.ext hxE
    replace hE := hE.tr hxE
    replace hb_g4 := hb_g4.ext hxE
    replace hb_g5 := hb_g5.ext hxE
    have hz_hxE := hxE.size
    rintro _ rfl
    rintro _ rfl
    show OpG _ _ _ _ _ _
    refine og_on rfl rfl rfl (OpRun.mono (or_call0 cl12 rfl rfl (copies8_any _ a xs hv _ _ X cx N cn hx hn hl1 hl2 hl3)) ?_)
    rintro v w5 ⟨xs35, X35, cx35, N35, cn35, rfl, hc35, he35⟩
    replace hx := RdI.ext hx he35
    replace hn := hn.ext he35
    replace hx2 := RdI.ext hx2 he35
    replace hn2 := hn2.ext he35
    replace hE := hE.tr he35
    replace hb_g4 := hb_g4.ext he35
    replace hb_g5 := hb_g5.ext he35
    have hz_he35 := he35.size
    exact ⟨⟨xs35, X35, cx35, N35, cn35, rfl, hc35.v, hc35.hx.mono (Nat.zero_le _) (Nat.le_refl _), (Own.rd hc35.n).mono (Nat.zero_le _) (Nat.le_refl _)⟩, he35⟩
  · intro wd hxE
    replace hx := RdI.ext hx hxE
    replace hn := hn.ext hxE
    replace hx2 := RdI.ext hx2 hxE
    replace hn2 := hn2.ext hxE
    replace hE := hE.tr hxE
    replace hb_g4 := hb_g4.ext hxE
    replace hb_g5 := hb_g5.ext hxE
    have hz_hxE := hxE.size
    rintro _ rfl
    rintro _ rfl
    rintro _ ⟨xs35, X35, cx35, N35, cn35, rfl, hv35, hx35, hn35⟩
    show OpG _ _ _ _ _ _
    refine og_on rfl rfl rfl (OpRun.mono (or_call0 cl22 rfl rfl (eq8_any _ a xs hv _ _ X cx N cn hx hn a xs35 hv35 _ _ X35 cx35 N35 cn35 hx35 hn35)) ?_)
    rintro v w5 ⟨rfl, he36⟩
    replace hx := RdI.ext hx he36
    replace hn := hn.ext he36
    replace hx2 := RdI.ext hx2 he36
    replace hn2 := hn2.ext he36
    replace hE := hE.tr he36
    replace hb_g4 := hb_g4.ext he36
    replace hb_g5 := hb_g5.ext he36
    replace hx35 := RdI.ext hx35 he36
    replace hn35 := hn35.ext he36
    have hz_he36 := he36.size
    exact ⟨bt (rfl), he36⟩
  · intro wd hxE
    replace hx := RdI.ext hx hxE
    replace hn := hn.ext hxE
    replace hx2 := RdI.ext hx2 hxE
    replace hn2 := hn2.ext hxE
    replace hE := hE.tr hxE
    replace hb_g4 := hb_g4.ext hxE
    replace hb_g5 := hb_g5.ext hxE
    have hz_hxE := hxE.size
    rintro _ rfl
    rintro _ rfl
    show OpG _ _ _ _ _ _
    exact og_plain rfl (ox_val (ov_pick_t rfl rfl))
  · intro wd hxE
    replace hx := RdI.ext hx hxE
    replace hn := hn.ext hxE
    replace hx2 := RdI.ext hx2 hxE
    replace hn2 := hn2.ext hxE
    replace hE := hE.tr hxE
    replace hb_g4 := hb_g4.ext hxE
    replace hb_g5 := hb_g5.ext hxE
    have hz_hxE := hxE.size
    rintro _ rfl
    show OpG _ _ _ _ _ _
    exact og_plain rfl (ox_val (ov_move rfl))
  · intro wd hxE
    replace hx := RdI.ext hx hxE
    replace hn := hn.ext hxE
    replace hx2 := RdI.ext hx2 hxE
    replace hn2 := hn2.ext hxE
    replace hE := hE.tr hxE
    replace hb_g4 := hb_g4.ext hxE
    replace hb_g5 := hb_g5.ext hxE
    have hz_hxE := hxE.size
    rintro _ rfl
    show OpG _ _ _ _ _ _
    exact og_on rfl rfl rfl (ox_val (ov_move rfl))
  · intro wd hxE
    replace hx := RdI.ext hx hxE
    replace hn := hn.ext hxE
    replace hx2 := RdI.ext hx2 hxE
    replace hn2 := hn2.ext hxE
    replace hE := hE.tr hxE
    replace hb_g4 := hb_g4.ext hxE
    replace hb_g5 := hb_g5.ext hxE
    have hz_hxE := hxE.size
    rintro _ rfl
    show OpG _ _ _ _ _ _
    exact og_on rfl rfl rfl (ox_val (ov_move rfl))
  · intro wd hxE
    replace hx := RdI.ext hx hxE
    replace hn := hn.ext hxE
    replace hx2 := RdI.ext hx2 hxE
    replace hn2 := hn2.ext hxE
    replace hE := hE.tr hxE
    replace hb_g4 := hb_g4.ext hxE
    replace hb_g5 := hb_g5.ext hxE
    have hz_hxE := hxE.size
    rintro _ rfl
    rintro _ rfl
    rintro _ rfl
    show OpG _ _ _ _ _ _
    refine og_on rfl rfl rfl (OpRun.mono (or_call0 cl23 rfl rfl (fail8_any _ _ _)) ?_)
    rintro v w5 ⟨rfl, he41⟩
    replace hx := RdI.ext hx he41
    replace hn := hn.ext he41
    replace hx2 := RdI.ext hx2 he41
    replace hn2 := hn2.ext he41
    replace hE := hE.tr he41
    replace hb_g4 := hb_g4.ext he41
    replace hb_g5 := hb_g5.ext he41
    have hz_he41 := he41.size
    exact ⟨rfl, he41⟩
  · intro wd hxE
    replace hx := RdI.ext hx hxE
    replace hn := hn.ext hxE
    replace hx2 := RdI.ext hx2 hxE
    replace hn2 := hn2.ext hxE
    replace hE := hE.tr hxE
    replace hb_g4 := hb_g4.ext hxE
    replace hb_g5 := hb_g5.ext hxE
    have hz_hxE := hxE.size
    rintro _ rfl
    show OpG _ _ _ _ _ _
    exact og_on rfl rfl rfl (ox_val (ov_move rfl))
  · intro wd hxE
    replace hx := RdI.ext hx hxE
    replace hn := hn.ext hxE
    replace hx2 := RdI.ext hx2 hxE
    replace hn2 := hn2.ext hxE
    replace hE := hE.tr hxE
    replace hb_g4 := hb_g4.ext hxE
    replace hb_g5 := hb_g5.ext hxE
    have hz_hxE := hxE.size
    rintro _ rfl
    show OpG _ _ _ _ _ _
    exact og_on rfl rfl rfl (ox_val (ov_move rfl))
  · intro wd hxE
    replace hx := RdI.ext hx hxE
    replace hn := hn.ext hxE
    replace hx2 := RdI.ext hx2 hxE
    replace hn2 := hn2.ext hxE
    replace hE := hE.tr hxE
    replace hb_g4 := hb_g4.ext hxE
    replace hb_g5 := hb_g5.ext hxE
    have hz_hxE := hxE.size
    rintro _ rfl
    rintro _ rfl
    rintro _ rfl
    show OpG _ _ _ _ _ _
    exact og_on rfl rfl rfl (ox_val (ov_build (cs := [(.int .i64 op), (.int .i64 e), (.slice none 0 0), (.int .u64 0), (.int .i64 0), (.slice none 0 0)]) ze28 pl28 rfl rfl))
  · intro wf3 hf3
    replace hx := RdI.ext hx hf3
    replace hn := hn.ext hf3
    replace hx2 := RdI.ext hx2 hf3
    replace hn2 := hn2.ext hf3
    replace hE := hE.tr hf3
    replace hb_g4 := hb_g4.ext hf3
    replace hb_g5 := hb_g5.ext hf3
    have hz_hf3 := hf3.size
    rintro _ rfl
    rintro _ rfl
    rintro _ rfl
    rintro _ rfl
    rintro _ rfl
    rintro _ rfl
    rintro _ rfl
    rintro _ rfl
    rintro _ rfl
    rintro _ rfl
    rintro _ rfl
    rintro _ rfl
    rintro _ rfl
    rintro _ rfl
    rintro _ rfl
    rintro _ rfl
    rintro _ rfl
    rintro _ ⟨xs35, X35, cx35, N35, cn35, rfl, hv35, hx35, hn35⟩
    rintro _ rfl
    rintro _ rfl
    rintro _ rfl
    rintro _ rfl
    rintro _ rfl
    rintro _ rfl
    rintro _ rfl
    rintro _ rfl
    rintro _ rfl
    show WL _ _ _ [_, _, _, _, _, _] _ _ _
    refine wl_gstep (or_call0 cl14 rfl rfl (req8_any _ (⟨op, e, [], 0, 0, []⟩ : Rsp) [] rfl 0 0 none 0 none 0 (RdI.nil _ 0 0) (Rd.nil _ 0 0 _ _ _ (Nat.zero_le _)) (⟨op, e, [], 0, 0, []⟩ : Rsp) [] rfl 0 0 none 0 none 0 (RdI.nil _ 0 0) (Rd.nil _ 0 0 _ _ _ (Nat.zero_le _)))) rfl rfl rfl rfl rfl ?_
    rintro v w5 ⟨rfl, he45⟩
    replace hx := RdI.ext hx he45
    replace hn := hn.ext he45
    replace hx2 := RdI.ext hx2 he45
    replace hn2 := hn2.ext he45
    replace hE := hE.tr he45
    replace hb_g4 := hb_g4.ext he45
    replace hb_g5 := hb_g5.ext he45
    replace hx35 := RdI.ext hx35 he45
    replace hn35 := hn35.ext he45
    have hz_he45 := he45.size
    refine wl_spell (d := 45) rfl (bt (rfl)) ?_
    refine wl_val (ov_pick_t rfl rfl) rfl rfl rfl ?_
    refine vm rfl rfl ?_
    refine wl_gstep (or_call0 cl9 rfl rfl (known08_any _)) rfl rfl rfl rfl rfl ?_
    rintro v w6 ⟨rfl, he48⟩
    replace hx := RdI.ext hx he48
    replace hn := hn.ext he48
    replace hx2 := RdI.ext hx2 he48
    replace hn2 := hn2.ext he48
    replace hE := hE.tr he48
    replace hb_g4 := hb_g4.ext he48
    replace hb_g5 := hb_g5.ext he48
    replace hx35 := RdI.ext hx35 he48
    replace hn35 := hn35.ext he48
    have hz_he48 := he48.size
    refine wl_val (ov_pick_t rfl rfl) rfl rfl rfl ?_
    refine va rfl rfl ?_
    refine q_nil (k_then (q_ret ?_))
    refine e_ret rfl rfl ?_
    exact ⟨rfl, hE⟩

theorem responseValid_walk (w : World) (a : Rsp) (xs : List IT) (hv : vals xs = a.items) (lo hi : Nat) (X : Option Addr) (cx : Nat) (N : Option Addr) (cn : Nat) (hx : RdI w lo hi X cx xs) (hn : RdN w lo hi N cn a.nums) (b : Rsp) (xs2 : List IT) (hv2 : vals xs2 = b.items) (lo2 hi2 : Nat) (X2 : Option Addr) (cx2 : Nat) (N2 : Option Addr) (cn2 : Nat) (hx2 : RdI w lo2 hi2 X2 cx2 xs2) (hn2 : RdN w lo2 hi2 N2 cn2 b.nums) (op e : Int) (hoka : LawOk a) (hokb : LawOk b) :
    Fn Try.prog 5 #[.agg (rspc a X cx N cn).toArray, .agg (rspc b X2 cx2 N2 cn2).toArray, .int .i64 op, .int .i64 e] w (fun v w' => v = .bool true ∧ Ext w w') := by
  cases ha : lightR a
  · exact rvalid8_a w a xs hv lo hi X cx N cn hx hn b xs2 hv2 lo2 hi2 X2 cx2 N2 cn2 hx2 hn2 op e hoka hokb ha
  · cases hb : lightR b
    · exact rvalid8_b w a xs hv lo hi X cx N cn hx hn b xs2 hv2 lo2 hi2 X2 cx2 N2 cn2 hx2 hn2 op e hoka hokb ha hb
    · exact rvalid8_c w a xs hv lo hi X cx N cn hx hn b xs2 hv2 lo2 hi2 X2 cx2 N2 cn2 hx2 hn2 op e hoka hokb ha hb

end Go.Proofs.Ytohnkjjjejnkpaa
