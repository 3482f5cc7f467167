/-
  The checks that the laws of layer 8 are made of; the examples.
-/
import Derived.Test.YtohnkjjjejnkpaaRi
namespace Go.Proofs.Ytohnkjjjejnkpaa
open Go.RowKit
set_option linter.unusedVariables false
set_option maxRecDepth 4000
theorem cl11 : callable Try.prog 11 = true := by kernel_rfl
theorem cl14 : callable Try.prog 14 = true := by kernel_rfl
theorem cl16 : callable Try.prog 16 = true := by kernel_rfl
theorem cl19 : callable Try.prog 19 = true := by kernel_rfl
theorem cl23 : callable Try.prog 23 = true := by kernel_rfl
theorem sl62 : SliceTy Try.prog 62 34 2 32 (.agg #[(.int .u8 0), (.slice none 0 0)]) := sliceTy_mk Try.underlying62 (by kernel_rfl) rfl (by decide)

/-- Whether a response is light. -/
def vsum (xs : List Itm) : Nat := (xs.map fun x => x.value.length).sum
def lightR (r : Rsp) : Bool := decide (r.items.length ≤ 40) && decide (r.nums.length ≤ 100) && decide (vsum r.items ≤ 600)
theorem vsum_succ {xs : List Itm} {k : Nat} {x : Itm} (h : xs[k]? = some x) : vsum (xs.take (k + 1)) = vsum (xs.take k) + x.value.length := by
  unfold vsum; rw [List.take_add_one, h, List.map_append, List.sum_append_nat]; simp
theorem vsum_rsz (r : Rsp) : rsz r = vsum r.items + 40 * r.items.length + 10 * r.nums.length + 100 := by
  unfold rsz vsum
  have e : ∀ xs : List Itm, (xs.map isz).sum = (xs.map fun x => x.value.length).sum + 40 * xs.length := by
    intro xs
    induction xs with
    | nil => rfl
    | cons a r ih => rw [List.map_cons, List.sum_cons, ih, List.map_cons, List.sum_cons, List.length_cons]; unfold isz; omega
  rw [e]
theorem lightR_rsz {r : Rsp} (h : lightR r = true) : rsz r ≤ 3300 := by
  unfold lightR at h
  rw [Bool.and_eq_true, Bool.and_eq_true, decide_eq_true_eq, decide_eq_true_eq, decide_eq_true_eq] at h
  rw [vsum_rsz]; omega

structure LawOk (r : Rsp) : Prop where
  ok : RspOk r
  len : ∀ x ∈ r.items, x.value.length ≤ 140737488355328
theorem vsum_le {xs : List Itm} {M : Nat} (h : ∀ x ∈ xs, x.value.length ≤ M) : ∀ k, vsum (xs.take k) ≤ k * M
  | 0 => by simp [vsum]
  | k + 1 => by
    have ih := vsum_le h k
    cases hk : xs[k]? with
    | none =>
      have h1 := List.getElem?_eq_none_iff.1 hk
      rw [List.take_of_length_le (by omega)]
      rw [List.take_of_length_le h1] at ih
      rw [Nat.succ_mul]; omega
    | some x => rw [vsum_succ hk, Nat.succ_mul]; have := h x (List.mem_of_getElem? hk); omega
theorem rdI_blk {w : World} {g n : Nat} {xs : List IT} (h : Blk w g 53 (xs.flatMap itc)) (hn : n = xs.length) (h16 : n ≤ 16) (hv : VR w 0 xs) : RdI w 0 w.heap.size (some ⟨g, 0, none⟩) n xs :=
  rowI_rd (.inr ⟨g, rfl, hn, h16, Nat.zero_le _, h⟩) hv
theorem vr_one {w : World} {x : IT} (h : RdB w 0 w.heap.size x.2.1 x.2.2 x.1.value) : VR w 0 [x] := fun y hy => by rw [List.mem_singleton.1 hy]; exact h

theorem light8_any (w : World) (r : Rsp) (xs : List IT) (hv : vals xs = r.items) (lo hi : Nat) (X : Option Addr) (cx : Nat) (N : Option Addr) (cn : Nat) (hx : RdI w lo hi X cx xs) (hn : RdN w lo hi N cn r.nums) (hlen : ∀ x ∈ r.items, x.value.length ≤ 140737488355328) :
    Fn Try.prog 8 #[(.agg #[(.int .i64 r.op), (.int .i64 r.err), (.slice X r.items.length cx), (.int .u64 (↑r.ver : Int)), (.int .i64 r.count), (.slice N r.nums.length cn)])] w (fun v w' => v = .bool (lightR r) ∧ Ext w w')  := by
  replace hx := hx.top
  replace hn := Rd.top hn
  have hE := ext_refl w
  obtain ⟨hi, hh1⟩ : ∃ n, n = w.heap.size := ⟨_, rfl⟩
  rw [← hh1] at hx hn
  have hvl := vals_len xs
  rw [hv] at hvl
  refine fn_enter (args := [(.agg #[(.int .i64 r.op), (.int .i64 r.err), (.slice X r.items.length cx), (.int .u64 (↑r.ver : Int)), (.int .i64 r.count), (.slice N r.nums.length cn)])]) Try.func8 rfl rfl rfl ?_
  show WC _ _ _ _ [(0, (.agg #[(.int .i64 r.op), (.int .i64 r.err), (.slice X r.items.length cx), (.int .u64 (↑r.ver : Int)), (.int .i64 r.count), (.slice N r.nums.length cn)]))] _
  refine wc_seq (wc_regionL ?_)
  refine wl_step (or_box (cs := [(.int .i64 r.op), (.int .i64 r.err), (.slice X r.items.length cx), (.int .u64 (↑r.ver : Int)), (.int .i64 r.count), (.slice N r.nums.length cn)]) rfl rfl) rfl rfl rfl ?_
  rintro v w1 ⟨g1, rfl, hb_g1, he1, hl1, hu1⟩
  replace hx := RdI.ext hx he1
  replace hn := hn.ext he1
  replace hE := hE.tr he1
  have hz_he1 := he1.size
  refine va rfl rfl ?_
  refine q_nil (k_then (wc_seq (wc_seq (wc_regionL ?_))))
  refine wl_val (ov_field0 (off := 2) fo28_2 rfl) rfl rfl rfl ?_
  refine wl_val (ov_loadAt oc24 rfl hb_g1 rfl) rfl rfl rfl ?_
  refine wl_val (ov_len Try.underlying24 rfl) rfl rfl rfl ?_
  refine wl_val (ov_gtr rfl rfl) rfl rfl rfl ?_
  refine wl_case_d (d := 9) rfl (fun h9 => ?_) (fun h9 => ?_)
  · have hlf : lightR r = false := by unfold lightR; rw [decide_eq_false (show ¬ r.items.length ≤ 40 by omega)]; rfl
    refine vm rfl rfl ?_
    iterate 4 refine wl_gskip rfl rfl rfl rfl rfl rfl ?_
    refine wl_val (ov_pick_t rfl rfl) rfl rfl rfl ?_
    refine q_nil (k_then ?_)
    refine wc_cond_t rfl ?_
    refine wc_seq (wc_regionL ?_)
    refine va rfl rfl ?_
    refine q_nil (k_then (q_ret (k_thenR ?_)))
    refine e_ret rfl rfl ?_
    first | exact ⟨by rw [hlf], hE⟩ | exact ⟨by unfold lightR; rw [decide_eq_true (show r.items.length ≤ 40 by omega), decide_eq_true (show r.nums.length ≤ 100 by omega), Bool.and_self, Bool.true_and]; congr 1; rw [decide_eq_decide]; omega, hE⟩
  · refine vm rfl rfl ?_
    refine wl_gval (ov_field0 (off := 5) fo28_5 rfl) rfl rfl rfl rfl rfl ?_
    refine wl_gval (ov_loadAt oc26 rfl hb_g1 rfl) rfl rfl rfl rfl rfl ?_
    refine wl_gval (ov_len Try.underlying26 rfl) rfl rfl rfl rfl rfl ?_
    refine wl_gval (ov_gtr rfl rfl) rfl rfl rfl rfl rfl ?_
    refine wl_case_d (d := 14) rfl (fun h14 => ?_) (fun h14 => ?_)
    · have hlf : lightR r = false := by unfold lightR; rw [decide_eq_false (show ¬ r.nums.length ≤ 100 by omega), Bool.and_false]; rfl
      refine wl_val (ov_pick_f rfl rfl) rfl rfl rfl ?_
      refine q_nil (k_then ?_)
      refine wc_cond_t rfl ?_
      refine wc_seq (wc_regionL ?_)
      refine va rfl rfl ?_
      refine q_nil (k_then (q_ret (k_thenR ?_)))
      refine e_ret rfl rfl ?_
      first | exact ⟨by rw [hlf], hE⟩ | exact ⟨by unfold lightR; rw [decide_eq_true (show r.items.length ≤ 40 by omega), decide_eq_true (show r.nums.length ≤ 100 by omega), Bool.and_self, Bool.true_and]; congr 1; rw [decide_eq_decide]; omega, hE⟩
    · refine wl_val (ov_pick_f rfl rfl) rfl rfl rfl ?_
      refine q_nil (k_then ?_)
      refine wc_cond_f rfl ?_
      refine q_skip (k_then (wc_seq (wc_regionL ?_)))
      refine va rfl rfl ?_
      refine q_nil (k_then (wc_seq (wc_seq (wc_regionL ?_))))
      refine wl_val (ov_field0 (off := 2) fo28_2 rfl) rfl rfl rfl ?_
      refine wl_val (ov_loadAt oc24 rfl hb_g1 rfl) rfl rfl rfl ?_
      refine wl_spell (d := 17) rfl (v' := (.slice X xs.length cx)) (by rw [← hv, vals_len]) ?_
      refine wl_val (ov_len Try.underlying24 rfl) rfl rfl rfl ?_
      refine vm rfl rfl ?_
      refine q_nil (k_then (wc_block ?_))
      refine wc_loop (σ := Nat) (fun i => xs.length - i) (fun i => [(3, .int .i64 (vsum (r.items.take i) : Int)), (17, .slice X xs.length cx), (18, .int .i64 (xs.length : Int)), (19, .int .i64 (i : Int))]) (fun i w' => i ≤ xs.length ∧ RdI w' lo hi X cx xs ∧ Ext w w') (0) (⟨Nat.zero_le _, hx, hE⟩) (⟨rfl, rfl, rfl, rfl, trivial⟩) ?_
      rintro i wq ⟨hi0, hx, hE⟩
      show WC _ _ _ _ [(3, (.int .i64 (↑(vsum (r.items.take i)) : Int))), (17, (.slice X xs.length cx)), (18, (.int .i64 (↑xs.length : Int))), (19, (.int .i64 (↑i : Int)))] _
      have hz_E := hE.size
      have hvs := vsum_le hlen i
      refine wc_seq (wc_regionL ?_)
      refine wl_val (ov_lss rfl rfl) rfl rfl rfl ?_
      refine q_nil (k_then (wc_seq ?_))
      refine wc_cond_d rfl (fun hc2 => ?_) (fun hc2 => ?_)
      · obtain ⟨x, hk⟩ : ∃ s, xs[i]? = some s := ⟨_, List.getElem?_eq_getElem (by omega)⟩
        have hki := vals_at hv hk
        have hxl := hlen x.1 (List.mem_of_getElem? hki)
        refine q_skip (k_then (wc_seq (wc_block (wc_seq (wc_regionL ?_)))))
        refine wl_step (or_rindex (m := (i)) sl24 rfl rfl hx.1 (fun _ _ => rfl) hk) rfl rfl rfl ?_
        rintro v _ ⟨rfl, p21, rfl, hp21, hpl21, hph21⟩
        refine wl_val (ov_loadAgg (cs := [(.int .i64 x.1.mark), (.slice x.2.1 x.1.value.length x.2.2), (.int .u64 (↑x.1.ver : Int)), (.int .u64 (↑x.1.dead : Int))]) ag53_4 rfl rfl hp21) rfl rfl rfl ?_
        refine wl_step (or_alloc (cs := [(.int .i64 0), (.slice none 0 0), (.int .u64 0), (.int .u64 0)]) ze53 rfl) rfl rfl rfl ?_
        rintro v w202 ⟨g5, rfl, hb_g5, he5, hl5, hu5⟩
        replace hx := RdI.ext hx he5
        replace hE := hE.tr he5
        have hz_he5 := he5.size
        refine wl_step0 (or_storeBlk (vs := [(.int .i64 x.1.mark), (.slice x.2.1 x.1.value.length x.2.2), (.int .u64 (↑x.1.ver : Int)), (.int .u64 (↑x.1.dead : Int))]) sz53 rfl rfl (by simp [Value.oneCell']) hb_g5 rfl) rfl rfl ?_
        rintro _ w203 ⟨hN203, hg203⟩
        have hz_hg203 := hg203.size
        replace hx := RdI.gr hx hg203 (fun _ e => by cases e; omega)
        replace hE := hE.gr hg203 (fun _ e => by cases e; omega)
        replace hb_g5 := hN203
        refine q_nil (k_then (wc_regionL ?_))
        refine vm rfl rfl ?_
        refine wl_val (ov_field0 (off := 1) fo53_1 rfl) rfl rfl rfl ?_
        refine wl_val (ov_loadAt oc32 rfl hb_g5 rfl) rfl rfl rfl ?_
        refine wl_val (ov_len Try.underlying32 rfl) rfl rfl rfl ?_
        refine wl_val (ov_add rfl rfl (wi64 (by omega) (by omega))) rfl rfl rfl ?_
        refine va rfl rfl ?_
        refine q_nil (k_block (k_then (wc_regionL ?_)))
        refine wl_val (ov_add rfl rfl (wi64 (by omega) (by omega))) rfl rfl rfl ?_
        refine vm rfl rfl ?_
        refine q_nil ?_
        refine k_loop (i + 1) (by show xs.length - (i + 1) < xs.length - i; omega) (⟨by rw [vsum_succ hki]; rfl, rfl, rfl, rfl, trivial⟩) (⟨by omega, hx, hE⟩)
      · have hix : r.items.take i = r.items := List.take_of_length_le (by omega)
        rw [hix]
        refine q_exit (k_thenX (k_thenX (k_blockE (k_then (wc_seq (wc_regionL ?_))))))
        refine vm rfl rfl ?_
        refine wl_val (ov_leq rfl rfl) rfl rfl rfl ?_
        refine va rfl rfl ?_
        refine q_nil (k_then (q_ret ?_))
        refine e_ret rfl rfl ?_
        first | exact ⟨by rw [hlf], hE⟩ | exact ⟨by unfold lightR; rw [decide_eq_true (show r.items.length ≤ 40 by omega), decide_eq_true (show r.nums.length ≤ 100 by omega), Bool.and_self, Bool.true_and]; congr 1; rw [decide_eq_decide]; omega, hE⟩

theorem lw8 (w : World) (r : Rsp) (xs : List IT) (hv : vals xs = r.items) (lo hi : Nat) (X : Option Addr) (cx : Nat) (N : Option Addr) (cn : Nat) (hx : RdI w lo hi X cx xs) (hn : RdN w lo hi N cn r.nums) (lo2 hi2 : Nat) (x : UInt8) (A : Option Addr) (c : Nat) (p : List UInt8) (hr : RdB w lo2 hi2 A c p) (no : Int) (n : Nat) (hno : no = n) (hok : RspOk r) (hsz : rsz r ≤ 4398046511104) (hw : wrR r = ((x, p), n)) :
    Fn Try.prog 11 #[(.agg #[(.int .i64 r.op), (.int .i64 r.err), (.slice X r.items.length cx), (.int .u64 (↑r.ver : Int)), (.int .i64 r.count), (.slice N r.nums.length cn)]), (.agg #[(.int .u8 (↑x.toNat : Int)), (.slice A p.length c)]), (.int .i64 no)] w (fun v w' => v = .bool true ∧ Ext w w')  := by
  replace hx := hx.top
  replace hn := Rd.top hn
  replace hr := hr.top
  have hE := ext_refl w
  refine fn_enter (args := [(.agg #[(.int .i64 r.op), (.int .i64 r.err), (.slice X r.items.length cx), (.int .u64 (↑r.ver : Int)), (.int .i64 r.count), (.slice N r.nums.length cn)]), (.agg #[(.int .u8 (↑x.toNat : Int)), (.slice A p.length c)]), (.int .i64 no)]) Try.func11 rfl rfl rfl ?_
  show WC _ _ _ _ [(0, (.agg #[(.int .i64 r.op), (.int .i64 r.err), (.slice X r.items.length cx), (.int .u64 (↑r.ver : Int)), (.int .i64 r.count), (.slice N r.nums.length cn)])), (1, (.agg #[(.int .u8 (↑x.toNat : Int)), (.slice A p.length c)])), (2, (.int .i64 no))] _
  refine wc_seq (wc_regionL ?_)
  refine wl_step (or_box (cs := [(.int .i64 r.op), (.int .i64 r.err), (.slice X r.items.length cx), (.int .u64 (↑r.ver : Int)), (.int .i64 r.count), (.slice N r.nums.length cn)]) rfl rfl) rfl rfl rfl ?_
  rintro v w1 ⟨g3, rfl, hb_g3, he3, hl3, hu3⟩
  replace hx := RdI.ext hx he3
  replace hn := hn.ext he3
  replace hr := hr.ext he3
  replace hE := hE.tr he3
  have hz_he3 := he3.size
  refine wl_step (or_box (cs := [(.int .u8 (↑x.toNat : Int)), (.slice A p.length c)]) rfl rfl) rfl rfl rfl ?_
  rintro v w2 ⟨g4, rfl, hb_g4, he4, hl4, hu4⟩
  replace hx := RdI.ext hx he4
  replace hn := hn.ext he4
  replace hr := hr.ext he4
  replace hE := hE.tr he4
  replace hb_g3 := hb_g3.ext he4
  have hz_he4 := he4.size
  refine va rfl rfl ?_
  refine q_nil (k_then (wc_seq (wc_regionL ?_)))
  refine wl_val (ov_loadBlk (cs := [(.int .i64 r.op), (.int .i64 r.err), (.slice X r.items.length cx), (.int .u64 (↑r.ver : Int)), (.int .i64 r.count), (.slice N r.nums.length cn)]) ag28_6 rfl hb_g3) rfl rfl rfl ?_
  refine wl_step (or_call0 cl13 rfl rfl (wr8_write _ r xs hv _ _ X cx N cn hx hn hok hsz)) rfl rfl rfl ?_
  rintro v w3 ⟨A11, c11, rfl, ho11, he11⟩
  replace hx := RdI.ext hx he11
  replace hn := hn.ext he11
  replace hr := hr.ext he11
  replace hE := hE.tr he11
  replace hb_g3 := hb_g3.ext he11
  replace hb_g4 := hb_g4.ext he11
  have hz_he11 := he11.size
  have hq_ho11 := fun g e => Own.lt ho11 (g := g) e
  refine vm rfl rfl ?_
  iterate 2 refine vx rfl rfl rfl ?_
  refine wl_step (or_alloc (cs := [(.int .u8 0), (.slice none 0 0)]) ze34 rfl) rfl rfl rfl ?_
  rintro v w4 ⟨g7, rfl, hb_g7, he7, hl7, hu7⟩
  replace hx := RdI.ext hx he7
  replace hn := hn.ext he7
  replace hr := hr.ext he7
  replace hE := hE.tr he7
  replace hb_g3 := hb_g3.ext he7
  replace hb_g4 := hb_g4.ext he7
  replace ho11 := Own.ext ho11 he7
  have hz_he7 := he7.size
  refine wl_step0 (or_storeBlk (vs := [(.int .u8 (↑(wrR r).1.1.toNat : Int)), (.slice A11 (wrR r).1.2.length c11)]) sz34 rfl rfl (by simp [Value.oneCell']) hb_g7 rfl) rfl rfl ?_
  rintro _ w5 ⟨hN5, hg5⟩
  have hz_hg5 := hg5.size
  replace hx := RdI.gr hx hg5 (fun _ e => by cases e; omega)
  replace hn := hn.gr hg5 (fun _ e => by cases e; omega)
  replace hr := hr.gr hg5 (fun _ e => by cases e; omega)
  replace hE := hE.gr hg5 (fun _ e => by cases e; omega)
  replace hb_g3 := hb_g3.gr hg5 (by intro e; cases e; omega)
  replace hb_g4 := hb_g4.gr hg5 (by intro e; cases e; omega)
  replace ho11 := Own.gr ho11 hg5 (by first | exact .inl rfl | (right; intro e; first | (have := hq_ho11 _ e; omega) | (have := Own.lt ho11 e; omega) | exact own_blk_ne ho11 hb_g7 (by decide) e))
  replace hb_g7 := hN5
  refine va rfl rfl ?_
  refine q_nil (k_then (wc_seq (wc_regionL ?_)))
  refine wl_val (ov_loadBlk (cs := [(.int .u8 (↑(wrR r).1.1.toNat : Int)), (.slice A11 (wrR r).1.2.length c11)]) ag34_2 rfl hb_g7) rfl rfl rfl ?_
  refine wl_val (ov_loadBlk (cs := [(.int .u8 (↑x.toNat : Int)), (.slice A p.length c)]) ag34_2 rfl hb_g4) rfl rfl rfl ?_
  refine wl_step (or_call0 cl16 rfl rfl (rfequal_any _ _ _ _ _ ((wrR r).1.1) _ _ (wrR r).1.2 (x) _ _ p (OwnB.rd ho11) hr)) rfl rfl rfl ?_
  rintro v w6 ⟨rfl, he16⟩
  replace hx := RdI.ext hx he16
  replace hn := hn.ext he16
  replace hr := hr.ext he16
  replace hE := hE.tr he16
  replace hb_g3 := hb_g3.ext he16
  replace hb_g4 := hb_g4.ext he16
  replace ho11 := Own.ext ho11 he16
  replace hb_g7 := hb_g7.ext he16
  have hz_he16 := he16.size
  refine wl_spell (d := 16) rfl (bt (by rw [hw])) ?_
  refine vm rfl rfl ?_
  iterate 2 refine wl_gval (ov_move rfl) rfl rfl rfl rfl rfl ?_
  refine wl_gval (ov_eql rfl rfl) rfl rfl rfl rfl rfl ?_
  refine wl_spell (d := 20) rfl (bt (by rw [hw]; exact hno.symm)) ?_
  refine wl_val (ov_pick_t rfl rfl) rfl rfl rfl ?_
  refine va rfl rfl ?_
  refine q_nil (k_then (q_ret ?_))
  refine e_ret rfl rfl ?_
  exact ⟨rfl, hE⟩

theorem lr8 (w : World) (lo2 hi2 : Nat) (x : UInt8) (A : Option Addr) (c : Nat) (l : List UInt8) (hr : RdB w lo2 hi2 A c l) (hlen : l.length ≤ 140737488355328) (r : Rsp) (xs : List IT) (hv : vals xs = r.items) (lo hi : Nat) (X : Option Addr) (cx : Nat) (N : Option Addr) (cn : Nat) (hx : RdI w lo hi X cx xs) (hn : RdN w lo hi N cn r.nums) (no : Int) (n : Nat) (hno : no = n) (hrd : rdR ((x.toNat : Int) - 64) l = (r, n)) :
    Fn Try.prog 19 #[(.agg #[(.int .u8 (↑x.toNat : Int)), (.slice A l.length c)]), (.agg #[(.int .i64 r.op), (.int .i64 r.err), (.slice X r.items.length cx), (.int .u64 (↑r.ver : Int)), (.int .i64 r.count), (.slice N r.nums.length cn)]), (.int .i64 no)] w (fun v w' => v = .bool true ∧ Ext w w')  := by
  replace hx := hx.top
  replace hn := Rd.top hn
  replace hr := hr.top
  have hE := ext_refl w
  refine fn_enter (args := [(.agg #[(.int .u8 (↑x.toNat : Int)), (.slice A l.length c)]), (.agg #[(.int .i64 r.op), (.int .i64 r.err), (.slice X r.items.length cx), (.int .u64 (↑r.ver : Int)), (.int .i64 r.count), (.slice N r.nums.length cn)]), (.int .i64 no)]) Try.func19 rfl rfl rfl ?_
  show WC _ _ _ _ [(0, (.agg #[(.int .u8 (↑x.toNat : Int)), (.slice A l.length c)])), (1, (.agg #[(.int .i64 r.op), (.int .i64 r.err), (.slice X r.items.length cx), (.int .u64 (↑r.ver : Int)), (.int .i64 r.count), (.slice N r.nums.length cn)])), (2, (.int .i64 no))] _
  refine wc_seq (wc_regionL ?_)
  refine wl_step (or_box (cs := [(.int .u8 (↑x.toNat : Int)), (.slice A l.length c)]) rfl rfl) rfl rfl rfl ?_
  rintro v w1 ⟨g3, rfl, hb_g3, he3, hl3, hu3⟩
  replace hx := RdI.ext hx he3
  replace hn := hn.ext he3
  replace hr := hr.ext he3
  replace hE := hE.tr he3
  have hz_he3 := he3.size
  refine wl_step (or_box (cs := [(.int .i64 r.op), (.int .i64 r.err), (.slice X r.items.length cx), (.int .u64 (↑r.ver : Int)), (.int .i64 r.count), (.slice N r.nums.length cn)]) rfl rfl) rfl rfl rfl ?_
  rintro v w2 ⟨g4, rfl, hb_g4, he4, hl4, hu4⟩
  replace hx := RdI.ext hx he4
  replace hn := hn.ext he4
  replace hr := hr.ext he4
  replace hE := hE.tr he4
  replace hb_g3 := hb_g3.ext he4
  have hz_he4 := he4.size
  refine va rfl rfl ?_
  refine q_nil (k_then (wc_seq (wc_regionL ?_)))
  refine wl_val (ov_loadBlk (cs := [(.int .u8 (↑x.toNat : Int)), (.slice A l.length c)]) ag34_2 rfl hb_g3) rfl rfl rfl ?_
  refine wl_step (or_call0 cl20 rfl rfl (rd8_read _ x ((x.toNat : Int) - 64) rfl _ _ A c l hr (by first | omega | decide | (simp; done)))) rfl rfl rfl ?_
  rintro v w3 ⟨X11, cx11, N11, cn11, xs11, rfl, hv11, hx11, hn11, he11⟩
  replace hx := RdI.ext hx he11
  replace hn := hn.ext he11
  replace hr := hr.ext he11
  replace hE := hE.tr he11
  replace hb_g3 := hb_g3.ext he11
  replace hb_g4 := hb_g4.ext he11
  have hz_he11 := he11.size
  refine vm rfl rfl ?_
  iterate 2 refine vx rfl rfl rfl ?_
  refine wl_step (or_alloc (cs := [(.int .i64 0), (.int .i64 0), (.slice none 0 0), (.int .u64 0), (.int .i64 0), (.slice none 0 0)]) ze28 rfl) rfl rfl rfl ?_
  rintro v w4 ⟨g7, rfl, hb_g7, he7, hl7, hu7⟩
  replace hx := RdI.ext hx he7
  replace hn := hn.ext he7
  replace hr := hr.ext he7
  replace hE := hE.tr he7
  replace hb_g3 := hb_g3.ext he7
  replace hb_g4 := hb_g4.ext he7
  replace hx11 := RdI.ext hx11 he7
  replace hn11 := hn11.ext he7
  have hz_he7 := he7.size
  refine wl_step0 (or_storeBlk (vs := [(.int .i64 (rdR ((x.toNat : Int) - 64) l).1.op), (.int .i64 (rdR ((x.toNat : Int) - 64) l).1.err), (.slice X11 (rdR ((x.toNat : Int) - 64) l).1.items.length cx11), (.int .u64 (↑(rdR ((x.toNat : Int) - 64) l).1.ver : Int)), (.int .i64 (rdR ((x.toNat : Int) - 64) l).1.count), (.slice N11 (rdR ((x.toNat : Int) - 64) l).1.nums.length cn11)]) sz28 rfl rfl (by simp [Value.oneCell']) hb_g7 rfl) rfl rfl ?_
  rintro _ w5 ⟨hN5, hg5⟩
  have hz_hg5 := hg5.size
  replace hx := RdI.gr hx hg5 (fun _ e => by cases e; omega)
  replace hn := hn.gr hg5 (fun _ e => by cases e; omega)
  replace hr := hr.gr hg5 (fun _ e => by cases e; omega)
  replace hE := hE.gr hg5 (fun _ e => by cases e; omega)
  replace hb_g3 := hb_g3.gr hg5 (by intro e; cases e; omega)
  replace hb_g4 := hb_g4.gr hg5 (by intro e; cases e; omega)
  replace hx11 := RdI.gr hx11 hg5 (fun _ e => by cases e; omega)
  replace hn11 := hn11.gr hg5 (fun _ e => by cases e; omega)
  replace hb_g7 := hN5
  refine va rfl rfl ?_
  refine q_nil (k_then (wc_seq (wc_regionL ?_)))
  refine wl_val (ov_loadBlk (cs := [(.int .i64 (rdR ((x.toNat : Int) - 64) l).1.op), (.int .i64 (rdR ((x.toNat : Int) - 64) l).1.err), (.slice X11 (rdR ((x.toNat : Int) - 64) l).1.items.length cx11), (.int .u64 (↑(rdR ((x.toNat : Int) - 64) l).1.ver : Int)), (.int .i64 (rdR ((x.toNat : Int) - 64) l).1.count), (.slice N11 (rdR ((x.toNat : Int) - 64) l).1.nums.length cn11)]) ag28_6 rfl hb_g7) rfl rfl rfl ?_
  refine wl_val (ov_loadBlk (cs := [(.int .i64 r.op), (.int .i64 r.err), (.slice X r.items.length cx), (.int .u64 (↑r.ver : Int)), (.int .i64 r.count), (.slice N r.nums.length cn)]) ag28_6 rfl hb_g4) rfl rfl rfl ?_
  refine wl_step (or_call0 cl14 rfl rfl (req8_any _ (rdR ((x.toNat : Int) - 64) l).1 xs11 hv11 _ _ X11 cx11 N11 cn11 hx11 hn11 r xs hv _ _ X cx N cn hx hn)) rfl rfl rfl ?_
  rintro v w6 ⟨rfl, he16⟩
  replace hx := RdI.ext hx he16
  replace hn := hn.ext he16
  replace hr := hr.ext he16
  replace hE := hE.tr he16
  replace hb_g3 := hb_g3.ext he16
  replace hb_g4 := hb_g4.ext he16
  replace hx11 := RdI.ext hx11 he16
  replace hn11 := hn11.ext he16
  replace hb_g7 := hb_g7.ext he16
  have hz_he16 := he16.size
  refine wl_spell (d := 16) rfl (bt (by rw [hrd])) ?_
  refine vm rfl rfl ?_
  iterate 2 refine wl_gval (ov_move rfl) rfl rfl rfl rfl rfl ?_
  refine wl_gval (ov_eql rfl rfl) rfl rfl rfl rfl rfl ?_
  refine wl_spell (d := 20) rfl (bt (by rw [hrd]; exact hno.symm)) ?_
  refine wl_val (ov_pick_t rfl rfl) rfl rfl rfl ?_
  refine va rfl rfl ?_
  refine q_nil (k_then (q_ret ?_))
  refine e_ret rfl rfl ?_
  exact ⟨rfl, hE⟩

theorem kw1 : wrR (⟨1, 0, [], 300, 2, []⟩ : Rsp) = ((65, [0, 172, 2, 2]), 0) := by decide +kernel
theorem kw2 : wrR (⟨4, 2, [], 0, 0, []⟩ : Rsp) = ((68, [2]), 0) := by decide +kernel
theorem kw3 : wrR (⟨4, 0, [(⟨1, [120], 7, 18446744073709551615⟩ : Itm)], 0, 0, []⟩ : Rsp) = ((68, [0, 1, 7, 255, 255, 255, 255, 255, 255, 255, 255, 255, 1, 1, 120]), 0) := by decide +kernel
theorem kw4 : wrR (⟨5, 0, [⟨0, [], 0, 0⟩, ⟨2, [], 1, 5⟩], 0, 0, []⟩ : Rsp) = ((69, [0, 2, 0, 2, 1, 5, 0]), 0) := by decide +kernel
theorem kw5 : wrR (⟨15, 0, [], 0, 0, [1, 200]⟩ : Rsp) = ((79, [0, 2, 1, 200, 1]), 0) := by decide +kernel
theorem kw6 : wrR (⟨0, 6, [], 0, 0, []⟩ : Rsp) = ((64, [6]), 0) := by decide +kernel
theorem kw7 : wrR (⟨0, 0, [], 0, 0, []⟩ : Rsp) = ((0, []), 2) := by decide +kernel
theorem kw8 : wrR (⟨4, 0, [], 0, 0, []⟩ : Rsp) = ((0, []), 2) := by decide +kernel
theorem kw9 : wrR (⟨7, 0, [], 0, (-1), []⟩ : Rsp) = ((0, []), 2) := by decide +kernel
theorem kw10 : wrR (⟨4, 0, [⟨0, [], 1, 0⟩], 0, 0, []⟩ : Rsp) = ((0, []), 2) := by decide +kernel
theorem kr1 : rdR (((4 : UInt8).toNat : Int) - 64) [0] = (rspO 0 0, 6) := by decide +kernel
theorem kr2 : rdR (((68 : UInt8).toNat : Int) - 64) [] = (rspO 0 0, 6) := by decide +kernel
theorem kr3 : rdR (((68 : UInt8).toNat : Int) - 64) [0] = (rspO 0 0, 6) := by decide +kernel
theorem kr4 : rdR (((71 : UInt8).toNat : Int) - 64) [0, 5, 0] = (rspO 0 0, 6) := by decide +kernel
theorem kr5 : rdR (((68 : UInt8).toNat : Int) - 64) [0, 3, 1, 5, 0] = (rspO 0 0, 6) := by decide +kernel

/-- The bad frames of the examples. -/
structure BadF where
  code : UInt8
  A : Option Addr
  c : Nat
  l : List UInt8
def badc (b : BadF) : List Value := [.int .u8 (b.code.toNat : Int), .slice b.A b.l.length b.c]
def BadOk (w : World) (B : Nat) (b : BadF) : Prop := RdB w 0 B b.A b.c b.l ∧ b.l.length ≤ 5 ∧ rdR ((b.code.toNat : Int) - 64) b.l = (rspO 0 0, 6)
theorem badl_gr {w w' : World} {B : Nat} {bs : List BadF} {row : Option Nat} (h : ∀ b ∈ bs, BadOk w B b) (hg : Gr w w' row) (hr : ∀ g, row = some g → B ≤ g) : ∀ b ∈ bs, BadOk w' B b :=
  fun b hb => ⟨(h b hb).1.gr hg fun g e => .inr (hr g e), (h b hb).2⟩

set_option maxRecDepth 20000 in
set_option maxHeartbeats 4000000 in
theorem known08_any (w : World) :
    Fn Try.prog 9 #[] w (fun v w' => v = .bool true ∧ Ext w w')  := by
  have hE := ext_refl w
  refine fn_enter (args := []) Try.func9 rfl rfl rfl ?_
  show WC _ _ _ _ [] _
  refine wc_seq (wc_regionL ?_)
  refine va rfl rfl ?_
  refine q_nil (k_then (wc_seq (wc_regionL ?_)))
  refine wl_step (or_buildBytes (l := [120]) bt32 (os := [.const (.int .u8 120)]) rfl rfl rfl (by decide)) rfl rfl rfl ?_
  rintro v w1 ⟨A5, c5, rfl, ho5, he5⟩
  replace hE := hE.tr he5
  have hz_he5 := he5.size
  have hq_ho5 := fun g e => Own.lt ho5 (g := g) e
  refine wl_step (or_markBytes bt32 rfl ho5 (by simp)) rfl rfl rfl ?_
  rintro v w2 ⟨rfl, hr6, he6⟩
  have hz_he6 := he6.size
  replace hE := hE.gr he6 (fun g e => by have := hq_ho5 g e; omega)
  refine wl_val (ov_build (cs := [(.int .i64 1), (.slice A5 [120].length c5), (.int .u64 7), (.int .u64 18446744073709551615)]) ze53 pl53 rfl rfl) rfl rfl rfl ?_
  refine wl_step (or_alloc (cs := [(.int .i64 0), (.slice none 0 0), (.int .u64 0), (.int .u64 0)]) ze53 rfl) rfl rfl rfl ?_
  rintro v w3 ⟨g1, rfl, hb_g1, he1, hl1, hu1⟩
  replace hE := hE.tr he1
  replace hr6 := hr6.ext he1
  have hz_he1 := he1.size
  refine wl_step0 (or_storeBlk (vs := [(.int .i64 1), (.slice A5 [120].length c5), (.int .u64 7), (.int .u64 18446744073709551615)]) sz53 rfl rfl (by simp [Value.oneCell']) hb_g1 rfl) rfl rfl ?_
  rintro _ w4 ⟨hN4, hg4⟩
  have hz_hg4 := hg4.size
  replace hE := hE.gr hg4 (fun _ e => by cases e; omega)
  replace hr6 := hr6.gr hg4 (fun _ e => by cases e; omega)
  replace hb_g1 := hN4
  refine q_nil (k_then (wc_seq (wc_seq (wc_regionL ?_))))
  refine wl_val (ov_build (cs := [(.int .i64 1), (.int .i64 0), (.slice none 0 0), (.int .u64 300), (.int .i64 2), (.slice none 0 0)]) ze28 pl28 rfl rfl) rfl rfl rfl ?_
  refine wl_step (or_buildBytes (l := [0, 172, 2, 2]) bt32 (os := [.const (.int .u8 0), .const (.int .u8 172), .const (.int .u8 2), .const (.int .u8 2)]) rfl rfl rfl (by decide)) rfl rfl rfl ?_
  rintro v w5 ⟨A9, c9, rfl, ho9, he9⟩
  replace hE := hE.tr he9
  replace hr6 := hr6.ext he9
  replace hb_g1 := hb_g1.ext he9
  have hz_he9 := he9.size
  have hq_ho9 := fun g e => Own.lt ho9 (g := g) e
  refine wl_val (ov_build (cs := [(.int .u8 65), (.slice A9 [0, 172, 2, 2].length c9)]) ze34 pl34 rfl rfl) rfl rfl rfl ?_
  refine wl_step (or_call0 cl11 rfl rfl (lw8 _ (⟨1, 0, [], 300, 2, []⟩ : Rsp) [] rfl 0 0 none 0 none 0 (RdI.nil _ 0 _) (Rd.nil _ 0 _ _ _ _ (Nat.zero_le _)) _ _ (65) A9 c9 [0, 172, 2, 2] (OwnB.rd ho9) 0 _ (by rfl) ⟨by decide, by decide, by decide, by decide⟩ (by decide) kw1)) rfl rfl rfl ?_
  rintro v w6 ⟨rfl, he11⟩
  replace hE := hE.tr he11
  replace hr6 := hr6.ext he11
  replace hb_g1 := hb_g1.ext he11
  replace ho9 := Own.ext ho9 he11
  have hz_he11 := he11.size
  refine wl_val (ov_not (b := true) rfl) rfl rfl rfl ?_
  refine vm rfl rfl ?_
  refine wl_gstep (or_call0 cl23 rfl rfl (fail8_any _ _ _)) rfl rfl rfl rfl rfl ?_
  rintro v w7 ⟨rfl, he14⟩
  replace hE := hE.tr he14
  replace hr6 := hr6.ext he14
  replace hb_g1 := hb_g1.ext he14
  replace ho9 := Own.ext ho9 he14
  have hz_he14 := he14.size
  refine wl_gstep (or_buildBytes (l := [2]) bt32 (os := [.const (.int .u8 2)]) rfl rfl rfl (by decide)) rfl rfl rfl rfl rfl ?_
  rintro v w8 ⟨A15, c15, rfl, ho15, he15⟩
  replace hE := hE.tr he15
  replace hr6 := hr6.ext he15
  replace hb_g1 := hb_g1.ext he15
  replace ho9 := Own.ext ho9 he15
  have hz_he15 := he15.size
  have hq_ho15 := fun g e => Own.lt ho15 (g := g) e
  refine wl_gval (ov_build (cs := [(.int .u8 68), (.slice A15 [2].length c15)]) ze34 pl34 rfl rfl) rfl rfl rfl rfl rfl ?_
  refine wl_gstep (or_call0 cl11 rfl rfl (lw8 _ (⟨4, 2, [], 0, 0, []⟩ : Rsp) [] rfl 0 0 none 0 none 0 (RdI.nil _ 0 _) (Rd.nil _ 0 _ _ _ _ (Nat.zero_le _)) _ _ (68) A15 c15 [2] (OwnB.rd ho15) 0 _ (by rfl) ⟨by decide, by decide, by decide, by decide⟩ (by decide) kw2)) rfl rfl rfl rfl rfl ?_
  rintro v w9 ⟨rfl, he17⟩
  replace hE := hE.tr he17
  replace hr6 := hr6.ext he17
  replace hb_g1 := hb_g1.ext he17
  replace ho9 := Own.ext ho9 he17
  replace ho15 := Own.ext ho15 he17
  have hz_he17 := he17.size
  refine wl_gval (ov_not (b := true) rfl) rfl rfl rfl rfl rfl ?_
  refine wl_val (ov_pick_f rfl rfl) rfl rfl rfl ?_
  refine q_nil (k_then ?_)
  refine wc_cond_f rfl ?_
  refine q_skip (k_then (wc_seq (wc_seq (wc_regionL ?_))))
  refine wl_val (ov_loadBlk (cs := [(.int .i64 1), (.slice A5 [120].length c5), (.int .u64 7), (.int .u64 18446744073709551615)]) ag53_4 rfl hb_g1) rfl rfl rfl ?_
  refine wl_step (or_buildSliceF (cs := [.int .i64 1, .slice A5 1 c5, .int .u64 7, .int .u64 18446744073709551615]) sl24 rfl (by kernel_rfl) (by decide) (by decide)) rfl rfl rfl ?_
  rintro v w10 ⟨g21, rfl, hb_g21, he21, hl21, hu21⟩
  replace hE := hE.tr he21
  replace hr6 := hr6.ext he21
  replace hb_g1 := hb_g1.ext he21
  replace ho9 := Own.ext ho9 he21
  replace ho15 := Own.ext ho15 he21
  have hz_he21 := he21.size
  refine wl_val (ov_build (cs := [(.int .i64 4), (.int .i64 0), (.slice (some ⟨g21, 0, none⟩) 1 1), (.int .u64 0), (.int .i64 0), (.slice none 0 0)]) ze28 pl28 rfl rfl) rfl rfl rfl ?_
  refine wl_step (or_buildBytes (l := [0, 1, 7, 255, 255, 255, 255, 255, 255, 255, 255, 255, 1, 1, 120]) bt32 (os := [.const (.int .u8 0), .const (.int .u8 1), .const (.int .u8 7), .const (.int .u8 255), .const (.int .u8 255), .const (.int .u8 255), .const (.int .u8 255), .const (.int .u8 255), .const (.int .u8 255), .const (.int .u8 255), .const (.int .u8 255), .const (.int .u8 255), .const (.int .u8 1), .const (.int .u8 1), .const (.int .u8 120)]) rfl rfl rfl (by decide)) rfl rfl rfl ?_
  rintro v w11 ⟨A23, c23, rfl, ho23, he23⟩
  replace hE := hE.tr he23
  replace hr6 := hr6.ext he23
  replace hb_g1 := hb_g1.ext he23
  replace ho9 := Own.ext ho9 he23
  replace ho15 := Own.ext ho15 he23
  replace hb_g21 := hb_g21.ext he23
  have hz_he23 := he23.size
  have hq_ho23 := fun g e => Own.lt ho23 (g := g) e
  refine wl_val (ov_build (cs := [(.int .u8 68), (.slice A23 [0, 1, 7, 255, 255, 255, 255, 255, 255, 255, 255, 255, 1, 1, 120].length c23)]) ze34 pl34 rfl rfl) rfl rfl rfl ?_
  refine wl_step (or_call0 cl11 rfl rfl (lw8 _ (⟨4, 0, [(⟨1, [120], 7, 18446744073709551615⟩ : Itm)], 0, 0, []⟩ : Rsp) [((⟨1, [120], 7, 18446744073709551615⟩ : Itm), A5, c5)] rfl _ _ (some ⟨g21, 0, none⟩) 1 none 0 (rdI_blk (xs := [((⟨1, [120], 7, 18446744073709551615⟩ : Itm), A5, c5)]) hb_g21 rfl (by decide) (vr_one ((Rd.top hr6).mono (Nat.zero_le _) (Nat.le_refl _)))) (Rd.nil _ 0 _ _ _ _ (Nat.zero_le _)) _ _ (68) A23 c23 [0, 1, 7, 255, 255, 255, 255, 255, 255, 255, 255, 255, 1, 1, 120] (OwnB.rd ho23) 0 _ (by rfl) ⟨by decide, by decide, by decide, by decide⟩ (by decide) kw3)) rfl rfl rfl ?_
  rintro v w12 ⟨rfl, he25⟩
  replace hE := hE.tr he25
  replace hr6 := hr6.ext he25
  replace hb_g1 := hb_g1.ext he25
  replace ho9 := Own.ext ho9 he25
  replace ho15 := Own.ext ho15 he25
  replace hb_g21 := hb_g21.ext he25
  replace ho23 := Own.ext ho23 he25
  have hz_he25 := he25.size
  refine wl_val (ov_not (b := true) rfl) rfl rfl rfl ?_
  refine vm rfl rfl ?_
  refine wl_gval (ov_build (cs := [(.int .i64 0), (.slice none 0 0), (.int .u64 0), (.int .u64 0)]) ze53 pl53 rfl rfl) rfl rfl rfl rfl rfl ?_
  refine wl_gval (ov_build (cs := [(.int .i64 2), (.slice none 0 0), (.int .u64 1), (.int .u64 5)]) ze53 pl53 rfl rfl) rfl rfl rfl rfl rfl ?_
  refine wl_gstep (or_buildSliceF (cs := [.int .i64 0, .slice none 0 0, .int .u64 0, .int .u64 0, .int .i64 2, .slice none 0 0, .int .u64 1, .int .u64 5]) sl24 rfl (by kernel_rfl) (by decide) (by decide)) rfl rfl rfl rfl rfl ?_
  rintro v w13 ⟨g30, rfl, hb_g30, he30, hl30, hu30⟩
  replace hE := hE.tr he30
  replace hr6 := hr6.ext he30
  replace hb_g1 := hb_g1.ext he30
  replace ho9 := Own.ext ho9 he30
  replace ho15 := Own.ext ho15 he30
  replace hb_g21 := hb_g21.ext he30
  replace ho23 := Own.ext ho23 he30
  have hz_he30 := he30.size
  refine wl_gval (ov_build (cs := [(.int .i64 5), (.int .i64 0), (.slice (some ⟨g30, 0, none⟩) 2 2), (.int .u64 0), (.int .i64 0), (.slice none 0 0)]) ze28 pl28 rfl rfl) rfl rfl rfl rfl rfl ?_
  refine wl_gstep (or_buildBytes (l := [0, 2, 0, 2, 1, 5, 0]) bt32 (os := [.const (.int .u8 0), .const (.int .u8 2), .const (.int .u8 0), .const (.int .u8 2), .const (.int .u8 1), .const (.int .u8 5), .const (.int .u8 0)]) rfl rfl rfl (by decide)) rfl rfl rfl rfl rfl ?_
  rintro v w14 ⟨A32, c32, rfl, ho32, he32⟩
  replace hE := hE.tr he32
  replace hr6 := hr6.ext he32
  replace hb_g1 := hb_g1.ext he32
  replace ho9 := Own.ext ho9 he32
  replace ho15 := Own.ext ho15 he32
  replace hb_g21 := hb_g21.ext he32
  replace ho23 := Own.ext ho23 he32
  replace hb_g30 := hb_g30.ext he32
  have hz_he32 := he32.size
  have hq_ho32 := fun g e => Own.lt ho32 (g := g) e
  refine wl_gval (ov_build (cs := [(.int .u8 69), (.slice A32 [0, 2, 0, 2, 1, 5, 0].length c32)]) ze34 pl34 rfl rfl) rfl rfl rfl rfl rfl ?_
  refine wl_gstep (or_call0 cl11 rfl rfl (lw8 _ (⟨5, 0, [⟨0, [], 0, 0⟩, ⟨2, [], 1, 5⟩], 0, 0, []⟩ : Rsp) [((⟨0, [], 0, 0⟩ : Itm), none, 0), (⟨2, [], 1, 5⟩, none, 0)] rfl _ _ (some ⟨g30, 0, none⟩) 2 none 0 (rdI_blk (xs := [((⟨0, [], 0, 0⟩ : Itm), none, 0), (⟨2, [], 1, 5⟩, none, 0)]) hb_g30 rfl (by decide) (fun y hy => by simp only [List.mem_cons, List.not_mem_nil, or_false] at hy; rcases hy with rfl | rfl <;> exact RdB.nil _ _ _)) (Rd.nil _ 0 _ _ _ _ (Nat.zero_le _)) _ _ (69) A32 c32 [0, 2, 0, 2, 1, 5, 0] (OwnB.rd ho32) 0 _ (by rfl) ⟨by decide, by decide, by decide, by decide⟩ (by decide) kw4)) rfl rfl rfl rfl rfl ?_
  rintro v w15 ⟨rfl, he34⟩
  replace hE := hE.tr he34
  replace hr6 := hr6.ext he34
  replace hb_g1 := hb_g1.ext he34
  replace ho9 := Own.ext ho9 he34
  replace ho15 := Own.ext ho15 he34
  replace hb_g21 := hb_g21.ext he34
  replace ho23 := Own.ext ho23 he34
  replace hb_g30 := hb_g30.ext he34
  replace ho32 := Own.ext ho32 he34
  have hz_he34 := he34.size
  refine wl_gval (ov_not (b := true) rfl) rfl rfl rfl rfl rfl ?_
  refine wl_val (ov_pick_f rfl rfl) rfl rfl rfl ?_
  refine q_nil (k_then ?_)
  refine wc_cond_f rfl ?_
  refine q_skip (k_then (wc_seq (wc_seq (wc_regionL ?_))))
  refine wl_step (or_buildSlice1 (os := [.const (.int .u64 1), .const (.int .u64 200)]) sl26 rfl rfl rfl (by simp [Value.oneCell']) (by decide)) rfl rfl rfl ?_
  rintro v w16 ⟨g37, rfl, hb_g37, he37, hl37, hu37, _⟩
  replace hE := hE.tr he37
  replace hr6 := hr6.ext he37
  replace hb_g1 := hb_g1.ext he37
  replace ho9 := Own.ext ho9 he37
  replace ho15 := Own.ext ho15 he37
  replace hb_g21 := hb_g21.ext he37
  replace ho23 := Own.ext ho23 he37
  replace hb_g30 := hb_g30.ext he37
  replace ho32 := Own.ext ho32 he37
  have hz_he37 := he37.size
  refine wl_val (ov_build (cs := [(.int .i64 15), (.int .i64 0), (.slice none 0 0), (.int .u64 0), (.int .i64 0), (.slice (some ⟨g37, 0, none⟩) 2 2)]) ze28 pl28 rfl rfl) rfl rfl rfl ?_
  refine wl_step (or_buildBytes (l := [0, 2, 1, 200, 1]) bt32 (os := [.const (.int .u8 0), .const (.int .u8 2), .const (.int .u8 1), .const (.int .u8 200), .const (.int .u8 1)]) rfl rfl rfl (by decide)) rfl rfl rfl ?_
  rintro v w17 ⟨A39, c39, rfl, ho39, he39⟩
  replace hE := hE.tr he39
  replace hr6 := hr6.ext he39
  replace hb_g1 := hb_g1.ext he39
  replace ho9 := Own.ext ho9 he39
  replace ho15 := Own.ext ho15 he39
  replace hb_g21 := hb_g21.ext he39
  replace ho23 := Own.ext ho23 he39
  replace hb_g30 := hb_g30.ext he39
  replace ho32 := Own.ext ho32 he39
  replace hb_g37 := hb_g37.ext he39
  have hz_he39 := he39.size
  have hq_ho39 := fun g e => Own.lt ho39 (g := g) e
  refine wl_val (ov_build (cs := [(.int .u8 79), (.slice A39 [0, 2, 1, 200, 1].length c39)]) ze34 pl34 rfl rfl) rfl rfl rfl ?_
  refine wl_step (or_call0 cl11 rfl rfl (lw8 _ (⟨15, 0, [], 0, 0, [1, 200]⟩ : Rsp) [] rfl _ _ none 0 (some ⟨g37, 0, none⟩) 2 (RdI.nil _ 0 _) (Blk.rdF hb_g37 rfl (by decide)) _ _ (79) A39 c39 [0, 2, 1, 200, 1] (OwnB.rd ho39) 0 _ (by rfl) ⟨by decide, by decide, by decide, by decide⟩ (by decide) kw5)) rfl rfl rfl ?_
  rintro v w18 ⟨rfl, he41⟩
  replace hE := hE.tr he41
  replace hr6 := hr6.ext he41
  replace hb_g1 := hb_g1.ext he41
  replace ho9 := Own.ext ho9 he41
  replace ho15 := Own.ext ho15 he41
  replace hb_g21 := hb_g21.ext he41
  replace ho23 := Own.ext ho23 he41
  replace hb_g30 := hb_g30.ext he41
  replace ho32 := Own.ext ho32 he41
  replace hb_g37 := hb_g37.ext he41
  replace ho39 := Own.ext ho39 he41
  have hz_he41 := he41.size
  refine wl_val (ov_not (b := true) rfl) rfl rfl rfl ?_
  refine vm rfl rfl ?_
  refine wl_gstep (or_call0 cl23 rfl rfl (fail8_any _ _ _)) rfl rfl rfl rfl rfl ?_
  rintro v w19 ⟨rfl, he44⟩
  replace hE := hE.tr he44
  replace hr6 := hr6.ext he44
  replace hb_g1 := hb_g1.ext he44
  replace ho9 := Own.ext ho9 he44
  replace ho15 := Own.ext ho15 he44
  replace hb_g21 := hb_g21.ext he44
  replace ho23 := Own.ext ho23 he44
  replace hb_g30 := hb_g30.ext he44
  replace ho32 := Own.ext ho32 he44
  replace hb_g37 := hb_g37.ext he44
  replace ho39 := Own.ext ho39 he44
  have hz_he44 := he44.size
  refine wl_gstep (or_buildBytes (l := [6]) bt32 (os := [.const (.int .u8 6)]) rfl rfl rfl (by decide)) rfl rfl rfl rfl rfl ?_
  rintro v w20 ⟨A45, c45, rfl, ho45, he45⟩
  replace hE := hE.tr he45
  replace hr6 := hr6.ext he45
  replace hb_g1 := hb_g1.ext he45
  replace ho9 := Own.ext ho9 he45
  replace ho15 := Own.ext ho15 he45
  replace hb_g21 := hb_g21.ext he45
  replace ho23 := Own.ext ho23 he45
  replace hb_g30 := hb_g30.ext he45
  replace ho32 := Own.ext ho32 he45
  replace hb_g37 := hb_g37.ext he45
  replace ho39 := Own.ext ho39 he45
  have hz_he45 := he45.size
  have hq_ho45 := fun g e => Own.lt ho45 (g := g) e
  refine wl_gval (ov_build (cs := [(.int .u8 64), (.slice A45 [6].length c45)]) ze34 pl34 rfl rfl) rfl rfl rfl rfl rfl ?_
  refine wl_gstep (or_call0 cl11 rfl rfl (lw8 _ (⟨0, 6, [], 0, 0, []⟩ : Rsp) [] rfl 0 0 none 0 none 0 (RdI.nil _ 0 _) (Rd.nil _ 0 _ _ _ _ (Nat.zero_le _)) _ _ (64) A45 c45 [6] (OwnB.rd ho45) 0 _ (by rfl) ⟨by decide, by decide, by decide, by decide⟩ (by decide) kw6)) rfl rfl rfl rfl rfl ?_
  rintro v w21 ⟨rfl, he47⟩
  replace hE := hE.tr he47
  replace hr6 := hr6.ext he47
  replace hb_g1 := hb_g1.ext he47
  replace ho9 := Own.ext ho9 he47
  replace ho15 := Own.ext ho15 he47
  replace hb_g21 := hb_g21.ext he47
  replace ho23 := Own.ext ho23 he47
  replace hb_g30 := hb_g30.ext he47
  replace ho32 := Own.ext ho32 he47
  replace hb_g37 := hb_g37.ext he47
  replace ho39 := Own.ext ho39 he47
  replace ho45 := Own.ext ho45 he47
  have hz_he47 := he47.size
  refine wl_gval (ov_not (b := true) rfl) rfl rfl rfl rfl rfl ?_
  refine wl_val (ov_pick_f rfl rfl) rfl rfl rfl ?_
  refine q_nil (k_then ?_)
  refine wc_cond_f rfl ?_
  refine q_skip (k_then (wc_seq (wc_regionL ?_)))
  refine wl_val (ov_build (cs := [(.int .u8 0), (.slice none 0 0)]) ze34 pl34 rfl rfl) rfl rfl rfl ?_
  refine wl_step (or_alloc (cs := [(.int .u8 0), (.slice none 0 0)]) ze34 rfl) rfl rfl rfl ?_
  rintro v w22 ⟨g2, rfl, hb_g2, he2, hl2, hu2⟩
  replace hE := hE.tr he2
  replace hr6 := hr6.ext he2
  replace hb_g1 := hb_g1.ext he2
  replace ho9 := Own.ext ho9 he2
  replace ho15 := Own.ext ho15 he2
  replace hb_g21 := hb_g21.ext he2
  replace ho23 := Own.ext ho23 he2
  replace hb_g30 := hb_g30.ext he2
  replace ho32 := Own.ext ho32 he2
  replace hb_g37 := hb_g37.ext he2
  replace ho39 := Own.ext ho39 he2
  replace ho45 := Own.ext ho45 he2
  have hz_he2 := he2.size
  refine wl_step0 (or_storeBlk (vs := [(.int .u8 0), (.slice none 0 0)]) sz34 rfl rfl (by simp [Value.oneCell']) hb_g2 rfl) rfl rfl ?_
  rintro _ w23 ⟨hN23, hg23⟩
  have hz_hg23 := hg23.size
  replace hE := hE.gr hg23 (fun _ e => by cases e; omega)
  replace hr6 := hr6.gr hg23 (fun _ e => by cases e; omega)
  replace hb_g1 := hb_g1.gr hg23 (by intro e; cases e; omega)
  replace ho9 := Own.gr ho9 hg23 (by first | exact .inl rfl | (right; intro e; first | (have := hq_ho9 _ e; omega) | (have := Own.lt ho9 e; omega) | exact own_blk_ne ho9 hb_g2 (by decide) e))
  replace ho15 := Own.gr ho15 hg23 (by first | exact .inl rfl | (right; intro e; first | (have := hq_ho15 _ e; omega) | (have := Own.lt ho15 e; omega) | exact own_blk_ne ho15 hb_g2 (by decide) e))
  replace hb_g21 := hb_g21.gr hg23 (by intro e; cases e; omega)
  replace ho23 := Own.gr ho23 hg23 (by first | exact .inl rfl | (right; intro e; first | (have := hq_ho23 _ e; omega) | (have := Own.lt ho23 e; omega) | exact own_blk_ne ho23 hb_g2 (by decide) e))
  replace hb_g30 := hb_g30.gr hg23 (by intro e; cases e; omega)
  replace ho32 := Own.gr ho32 hg23 (by first | exact .inl rfl | (right; intro e; first | (have := hq_ho32 _ e; omega) | (have := Own.lt ho32 e; omega) | exact own_blk_ne ho32 hb_g2 (by decide) e))
  replace hb_g37 := hb_g37.gr hg23 (by intro e; cases e; omega)
  replace ho39 := Own.gr ho39 hg23 (by first | exact .inl rfl | (right; intro e; first | (have := hq_ho39 _ e; omega) | (have := Own.lt ho39 e; omega) | exact own_blk_ne ho39 hb_g2 (by decide) e))
  replace ho45 := Own.gr ho45 hg23 (by first | exact .inl rfl | (right; intro e; first | (have := hq_ho45 _ e; omega) | (have := Own.lt ho45 e; omega) | exact own_blk_ne ho45 hb_g2 (by decide) e))
  replace hb_g2 := hN23
  refine q_nil (k_then (wc_seq (wc_seq ?_)))
  refine wc_draw mixed 21 [(51, eqv (.agg #[(.int .i64 0), (.int .i64 0), (.slice none 0 0), (.int .u64 0), (.int .i64 0), (.slice none 0 0)])), (52, eqv (.agg #[(.int .u8 0), (.slice none 0 0)])), (53, eqv (.bool true)), (54, eqv (.bool false)), (55, eqv (.bool false)), (56, eqv (.agg #[(.int .i64 4), (.int .i64 0), (.slice none 0 0), (.int .u64 0), (.int .i64 0), (.slice none 0 0)])), (57, eqv (.agg #[(.int .u8 0), (.slice none 0 0)])), (58, eqv (.bool true)), (59, eqv (.bool false)), (60, eqv (.bool false)), (61, eqv (.bool false)), (62, eqv (.agg #[(.int .i64 7), (.int .i64 0), (.slice none 0 0), (.int .u64 0), (.int .i64 (-1)), (.slice none 0 0)])), (63, eqv (.agg #[(.int .u8 0), (.slice none 0 0)])), (64, eqv (.bool true)), (65, eqv (.bool false)), (66, eqv (.bool false)), (67, eqv (.bool false)), (68, eqv (.agg #[(.int .i64 0), (.slice none 0 0), (.int .u64 1), (.int .u64 0)])), (69, (fun v w => ∃ g69, v = .slice (some ⟨g69, 0, none⟩) 1 1 ∧ Blk w g69 53 [.int .i64 0, .slice none 0 0, .int .u64 1, .int .u64 0])), (70, (fun v w => ∃ g69, v = .agg #[.int .i64 4, .int .i64 0, .slice (some ⟨g69, 0, none⟩) 1 1, .int .u64 0, .int .i64 0, .slice none 0 0] ∧ Blk w g69 53 [.int .i64 0, .slice none 0 0, .int .u64 1, .int .u64 0])), (71, eqv (.agg #[(.int .u8 0), (.slice none 0 0)]))] [[], [], [0, 1], [2], [3], [4], [4], [4, 5, 6], [4, 7], [4, 8], [9], [10], [10], [10, 11, 12], [10, 13], [10, 14], [15], [16], [16, 17], [16, 18], [16]] _ [] [] (fun _ _ h => h) trivial (by kernel_rfl) rfl ⟨⟨stb_eqv _, fun _ he => by cases he⟩, ⟨stb_eqv _, fun _ he => by cases he⟩, ⟨stb_eqv _, fun _ he => by cases he⟩, ⟨stb_eqv _, fun _ he => by cases he⟩, ⟨stb_eqv _, fun _ he => by cases he⟩, ⟨stb_eqv _, fun _ he => by cases he⟩, ⟨stb_eqv _, fun _ he => by cases he⟩, ⟨stb_eqv _, fun _ he => by cases he⟩, ⟨stb_eqv _, fun _ he => by cases he⟩, ⟨stb_eqv _, fun _ he => by cases he⟩, ⟨stb_eqv _, fun _ he => by cases he⟩, ⟨stb_eqv _, fun _ he => by cases he⟩, ⟨stb_eqv _, fun _ he => by cases he⟩, ⟨stb_eqv _, fun _ he => by cases he⟩, ⟨stb_eqv _, fun _ he => by cases he⟩, ⟨stb_eqv _, fun _ he => by cases he⟩, ⟨stb_eqv _, fun _ he => by cases he⟩, ⟨stb_eqv _, fun _ he => by cases he⟩, ⟨(fun v w1 w2 ⟨g, hv, hb⟩ he => ⟨g, hv, hb.ext he⟩), fun _ he => by cases he⟩, ⟨(fun v w1 w2 ⟨g, hv, hb⟩ he => ⟨g, hv, hb.ext he⟩), fun _ he => by cases he⟩, ⟨stb_eqv _, fun _ he => by cases he⟩, trivial⟩ ⟨?_, ?_, ?_, ?_, ?_, ?_, ?_, ?_, ?_, ?_, ?_, ?_, ?_, ?_, ?_, ?_, ?_, ?_, ?_, ?_, ?_, trivial⟩ ?_
  · intro wd hxE
    replace hE := hE.tr hxE
    replace hr6 := hr6.ext hxE
    replace hb_g1 := hb_g1.ext hxE
    replace ho9 := Own.ext ho9 hxE
    replace ho15 := Own.ext ho15 hxE
    replace hb_g21 := hb_g21.ext hxE
    replace ho23 := Own.ext ho23 hxE
    replace hb_g30 := hb_g30.ext hxE
    replace ho32 := Own.ext ho32 hxE
    replace hb_g37 := hb_g37.ext hxE
    replace ho39 := Own.ext ho39 hxE
    replace ho45 := Own.ext ho45 hxE
    replace hb_g2 := hb_g2.ext hxE
    have hz_hxE := hxE.size
    show OpG _ _ _ _ _ _
    refine og_plain rfl (OpRun.mono (or_call0 cl23 rfl rfl (fail8_any _ _ _)) ?_)
    rintro v w24 ⟨rfl, he51⟩
    replace hE := hE.tr he51
    replace hr6 := hr6.ext he51
    replace hb_g1 := hb_g1.ext he51
    replace ho9 := Own.ext ho9 he51
    replace ho15 := Own.ext ho15 he51
    replace hb_g21 := hb_g21.ext he51
    replace ho23 := Own.ext ho23 he51
    replace hb_g30 := hb_g30.ext he51
    replace ho32 := Own.ext ho32 he51
    replace hb_g37 := hb_g37.ext he51
    replace ho39 := Own.ext ho39 he51
    replace ho45 := Own.ext ho45 he51
    replace hb_g2 := hb_g2.ext he51
    have hz_he51 := he51.size
    exact ⟨rfl, he51⟩
  · intro wd hxE
    replace hE := hE.tr hxE
    replace hr6 := hr6.ext hxE
    replace hb_g1 := hb_g1.ext hxE
    replace ho9 := Own.ext ho9 hxE
    replace ho15 := Own.ext ho15 hxE
    replace hb_g21 := hb_g21.ext hxE
    replace ho23 := Own.ext ho23 hxE
    replace hb_g30 := hb_g30.ext hxE
    replace ho32 := Own.ext ho32 hxE
    replace hb_g37 := hb_g37.ext hxE
    replace ho39 := Own.ext ho39 hxE
    replace ho45 := Own.ext ho45 hxE
    replace hb_g2 := hb_g2.ext hxE
    have hz_hxE := hxE.size
    show OpG _ _ _ _ _ _
    exact og_plain rfl (ox_val (ov_loadBlk (cs := [(.int .u8 0), (.slice none 0 0)]) ag34_2 rfl hb_g2))
  · intro wd hxE
    replace hE := hE.tr hxE
    replace hr6 := hr6.ext hxE
    replace hb_g1 := hb_g1.ext hxE
    replace ho9 := Own.ext ho9 hxE
    replace ho15 := Own.ext ho15 hxE
    replace hb_g21 := hb_g21.ext hxE
    replace ho23 := Own.ext ho23 hxE
    replace hb_g30 := hb_g30.ext hxE
    replace ho32 := Own.ext ho32 hxE
    replace hb_g37 := hb_g37.ext hxE
    replace ho39 := Own.ext ho39 hxE
    replace ho45 := Own.ext ho45 hxE
    replace hb_g2 := hb_g2.ext hxE
    have hz_hxE := hxE.size
    rintro _ rfl
    rintro _ rfl
    show OpG _ _ _ _ _ _
    refine og_plain rfl (OpRun.mono (or_call0 cl11 rfl rfl (lw8 _ (⟨0, 0, [], 0, 0, []⟩ : Rsp) [] rfl 0 0 none 0 none 0 (RdI.nil _ 0 _) (Rd.nil _ 0 _ _ _ _ (Nat.zero_le _)) _ _ (0) none 0 [] (RdB.nil _ 0 0) 2 _ (by rfl) ⟨by decide, by decide, by decide, by decide⟩ (by decide) kw7)) ?_)
    rintro v w24 ⟨rfl, he53⟩
    replace hE := hE.tr he53
    replace hr6 := hr6.ext he53
    replace hb_g1 := hb_g1.ext he53
    replace ho9 := Own.ext ho9 he53
    replace ho15 := Own.ext ho15 he53
    replace hb_g21 := hb_g21.ext he53
    replace ho23 := Own.ext ho23 he53
    replace hb_g30 := hb_g30.ext he53
    replace ho32 := Own.ext ho32 he53
    replace hb_g37 := hb_g37.ext he53
    replace ho39 := Own.ext ho39 he53
    replace ho45 := Own.ext ho45 he53
    replace hb_g2 := hb_g2.ext he53
    have hz_he53 := he53.size
    exact ⟨rfl, he53⟩
  · intro wd hxE
    replace hE := hE.tr hxE
    replace hr6 := hr6.ext hxE
    replace hb_g1 := hb_g1.ext hxE
    replace ho9 := Own.ext ho9 hxE
    replace ho15 := Own.ext ho15 hxE
    replace hb_g21 := hb_g21.ext hxE
    replace ho23 := Own.ext ho23 hxE
    replace hb_g30 := hb_g30.ext hxE
    replace ho32 := Own.ext ho32 hxE
    replace hb_g37 := hb_g37.ext hxE
    replace ho39 := Own.ext ho39 hxE
    replace ho45 := Own.ext ho45 hxE
    replace hb_g2 := hb_g2.ext hxE
    have hz_hxE := hxE.size
    rintro _ rfl
    show OpG _ _ _ _ _ _
    exact og_plain rfl (ox_val (ov_not (b := true) rfl))
  · intro wd hxE
    replace hE := hE.tr hxE
    replace hr6 := hr6.ext hxE
    replace hb_g1 := hb_g1.ext hxE
    replace ho9 := Own.ext ho9 hxE
    replace ho15 := Own.ext ho15 hxE
    replace hb_g21 := hb_g21.ext hxE
    replace ho23 := Own.ext ho23 hxE
    replace hb_g30 := hb_g30.ext hxE
    replace ho32 := Own.ext ho32 hxE
    replace hb_g37 := hb_g37.ext hxE
    replace ho39 := Own.ext ho39 hxE
    replace ho45 := Own.ext ho45 hxE
    replace hb_g2 := hb_g2.ext hxE
    have hz_hxE := hxE.size
    rintro _ rfl
    show OpG _ _ _ _ _ _
    exact og_plain rfl (ox_val (ov_move rfl))
  · intro wd hxE
    replace hE := hE.tr hxE
    replace hr6 := hr6.ext hxE
    replace hb_g1 := hb_g1.ext hxE
    replace ho9 := Own.ext ho9 hxE
    replace ho15 := Own.ext ho15 hxE
    replace hb_g21 := hb_g21.ext hxE
    replace ho23 := Own.ext ho23 hxE
    replace hb_g30 := hb_g30.ext hxE
    replace ho32 := Own.ext ho32 hxE
    replace hb_g37 := hb_g37.ext hxE
    replace ho39 := Own.ext ho39 hxE
    replace ho45 := Own.ext ho45 hxE
    replace hb_g2 := hb_g2.ext hxE
    have hz_hxE := hxE.size
    rintro _ rfl
    show OpG _ _ _ _ _ _
    exact og_on rfl rfl rfl (ox_val (ov_build (cs := [(.int .i64 4), (.int .i64 0), (.slice none 0 0), (.int .u64 0), (.int .i64 0), (.slice none 0 0)]) ze28 pl28 rfl rfl))
  · intro wd hxE
    replace hE := hE.tr hxE
    replace hr6 := hr6.ext hxE
    replace hb_g1 := hb_g1.ext hxE
    replace ho9 := Own.ext ho9 hxE
    replace ho15 := Own.ext ho15 hxE
    replace hb_g21 := hb_g21.ext hxE
    replace ho23 := Own.ext ho23 hxE
    replace hb_g30 := hb_g30.ext hxE
    replace ho32 := Own.ext ho32 hxE
    replace hb_g37 := hb_g37.ext hxE
    replace ho39 := Own.ext ho39 hxE
    replace ho45 := Own.ext ho45 hxE
    replace hb_g2 := hb_g2.ext hxE
    have hz_hxE := hxE.size
    rintro _ rfl
    show OpG _ _ _ _ _ _
    exact og_on rfl rfl rfl (ox_val (ov_loadBlk (cs := [(.int .u8 0), (.slice none 0 0)]) ag34_2 rfl hb_g2))
  · intro wd hxE
    replace hE := hE.tr hxE
    replace hr6 := hr6.ext hxE
    replace hb_g1 := hb_g1.ext hxE
    replace ho9 := Own.ext ho9 hxE
    replace ho15 := Own.ext ho15 hxE
    replace hb_g21 := hb_g21.ext hxE
    replace ho23 := Own.ext ho23 hxE
    replace hb_g30 := hb_g30.ext hxE
    replace ho32 := Own.ext ho32 hxE
    replace hb_g37 := hb_g37.ext hxE
    replace ho39 := Own.ext ho39 hxE
    replace ho45 := Own.ext ho45 hxE
    replace hb_g2 := hb_g2.ext hxE
    have hz_hxE := hxE.size
    rintro _ rfl
    rintro _ rfl
    rintro _ rfl
    show OpG _ _ _ _ _ _
    refine og_on rfl rfl rfl (OpRun.mono (or_call0 cl11 rfl rfl (lw8 _ (⟨4, 0, [], 0, 0, []⟩ : Rsp) [] rfl 0 0 none 0 none 0 (RdI.nil _ 0 _) (Rd.nil _ 0 _ _ _ _ (Nat.zero_le _)) _ _ (0) none 0 [] (RdB.nil _ 0 0) 2 _ (by rfl) ⟨by decide, by decide, by decide, by decide⟩ (by decide) kw8)) ?_)
    rintro v w24 ⟨rfl, he58⟩
    replace hE := hE.tr he58
    replace hr6 := hr6.ext he58
    replace hb_g1 := hb_g1.ext he58
    replace ho9 := Own.ext ho9 he58
    replace ho15 := Own.ext ho15 he58
    replace hb_g21 := hb_g21.ext he58
    replace ho23 := Own.ext ho23 he58
    replace hb_g30 := hb_g30.ext he58
    replace ho32 := Own.ext ho32 he58
    replace hb_g37 := hb_g37.ext he58
    replace ho39 := Own.ext ho39 he58
    replace ho45 := Own.ext ho45 he58
    replace hb_g2 := hb_g2.ext he58
    have hz_he58 := he58.size
    exact ⟨rfl, he58⟩
  · intro wd hxE
    replace hE := hE.tr hxE
    replace hr6 := hr6.ext hxE
    replace hb_g1 := hb_g1.ext hxE
    replace ho9 := Own.ext ho9 hxE
    replace ho15 := Own.ext ho15 hxE
    replace hb_g21 := hb_g21.ext hxE
    replace ho23 := Own.ext ho23 hxE
    replace hb_g30 := hb_g30.ext hxE
    replace ho32 := Own.ext ho32 hxE
    replace hb_g37 := hb_g37.ext hxE
    replace ho39 := Own.ext ho39 hxE
    replace ho45 := Own.ext ho45 hxE
    replace hb_g2 := hb_g2.ext hxE
    have hz_hxE := hxE.size
    rintro _ rfl
    rintro _ rfl
    show OpG _ _ _ _ _ _
    exact og_on rfl rfl rfl (ox_val (ov_not (b := true) rfl))
  · intro wd hxE
    replace hE := hE.tr hxE
    replace hr6 := hr6.ext hxE
    replace hb_g1 := hb_g1.ext hxE
    replace ho9 := Own.ext ho9 hxE
    replace ho15 := Own.ext ho15 hxE
    replace hb_g21 := hb_g21.ext hxE
    replace ho23 := Own.ext ho23 hxE
    replace hb_g30 := hb_g30.ext hxE
    replace ho32 := Own.ext ho32 hxE
    replace hb_g37 := hb_g37.ext hxE
    replace ho39 := Own.ext ho39 hxE
    replace ho45 := Own.ext ho45 hxE
    replace hb_g2 := hb_g2.ext hxE
    have hz_hxE := hxE.size
    rintro _ rfl
    rintro _ rfl
    show OpG _ _ _ _ _ _
    exact og_plain rfl (ox_val (ov_pick_f rfl rfl))
  · intro wd hxE
    replace hE := hE.tr hxE
    replace hr6 := hr6.ext hxE
    replace hb_g1 := hb_g1.ext hxE
    replace ho9 := Own.ext ho9 hxE
    replace ho15 := Own.ext ho15 hxE
    replace hb_g21 := hb_g21.ext hxE
    replace ho23 := Own.ext ho23 hxE
    replace hb_g30 := hb_g30.ext hxE
    replace ho32 := Own.ext ho32 hxE
    replace hb_g37 := hb_g37.ext hxE
    replace ho39 := Own.ext ho39 hxE
    replace ho45 := Own.ext ho45 hxE
    replace hb_g2 := hb_g2.ext hxE
    have hz_hxE := hxE.size
    rintro _ rfl
    show OpG _ _ _ _ _ _
    exact og_plain rfl (ox_val (ov_move rfl))
  · intro wd hxE
    replace hE := hE.tr hxE
    replace hr6 := hr6.ext hxE
    replace hb_g1 := hb_g1.ext hxE
    replace ho9 := Own.ext ho9 hxE
    replace ho15 := Own.ext ho15 hxE
    replace hb_g21 := hb_g21.ext hxE
    replace ho23 := Own.ext ho23 hxE
    replace hb_g30 := hb_g30.ext hxE
    replace ho32 := Own.ext ho32 hxE
    replace hb_g37 := hb_g37.ext hxE
    replace ho39 := Own.ext ho39 hxE
    replace ho45 := Own.ext ho45 hxE
    replace hb_g2 := hb_g2.ext hxE
    have hz_hxE := hxE.size
    rintro _ rfl
    show OpG _ _ _ _ _ _
    exact og_on rfl rfl rfl (ox_val (ov_build (cs := [(.int .i64 7), (.int .i64 0), (.slice none 0 0), (.int .u64 0), (.int .i64 (-1)), (.slice none 0 0)]) ze28 pl28 rfl rfl))
  · intro wd hxE
    replace hE := hE.tr hxE
    replace hr6 := hr6.ext hxE
    replace hb_g1 := hb_g1.ext hxE
    replace ho9 := Own.ext ho9 hxE
    replace ho15 := Own.ext ho15 hxE
    replace hb_g21 := hb_g21.ext hxE
    replace ho23 := Own.ext ho23 hxE
    replace hb_g30 := hb_g30.ext hxE
    replace ho32 := Own.ext ho32 hxE
    replace hb_g37 := hb_g37.ext hxE
    replace ho39 := Own.ext ho39 hxE
    replace ho45 := Own.ext ho45 hxE
    replace hb_g2 := hb_g2.ext hxE
    have hz_hxE := hxE.size
    rintro _ rfl
    show OpG _ _ _ _ _ _
    exact og_on rfl rfl rfl (ox_val (ov_loadBlk (cs := [(.int .u8 0), (.slice none 0 0)]) ag34_2 rfl hb_g2))
  · intro wd hxE
    replace hE := hE.tr hxE
    replace hr6 := hr6.ext hxE
    replace hb_g1 := hb_g1.ext hxE
    replace ho9 := Own.ext ho9 hxE
    replace ho15 := Own.ext ho15 hxE
    replace hb_g21 := hb_g21.ext hxE
    replace ho23 := Own.ext ho23 hxE
    replace hb_g30 := hb_g30.ext hxE
    replace ho32 := Own.ext ho32 hxE
    replace hb_g37 := hb_g37.ext hxE
    replace ho39 := Own.ext ho39 hxE
    replace ho45 := Own.ext ho45 hxE
    replace hb_g2 := hb_g2.ext hxE
    have hz_hxE := hxE.size
    rintro _ rfl
    rintro _ rfl
    rintro _ rfl
    show OpG _ _ _ _ _ _
    refine og_on rfl rfl rfl (OpRun.mono (or_call0 cl11 rfl rfl (lw8 _ (⟨7, 0, [], 0, (-1), []⟩ : Rsp) [] rfl 0 0 none 0 none 0 (RdI.nil _ 0 _) (Rd.nil _ 0 _ _ _ _ (Nat.zero_le _)) _ _ (0) none 0 [] (RdB.nil _ 0 0) 2 _ (by rfl) ⟨by decide, by decide, by decide, by decide⟩ (by decide) kw9)) ?_)
    rintro v w24 ⟨rfl, he64⟩
    replace hE := hE.tr he64
    replace hr6 := hr6.ext he64
    replace hb_g1 := hb_g1.ext he64
    replace ho9 := Own.ext ho9 he64
    replace ho15 := Own.ext ho15 he64
    replace hb_g21 := hb_g21.ext he64
    replace ho23 := Own.ext ho23 he64
    replace hb_g30 := hb_g30.ext he64
    replace ho32 := Own.ext ho32 he64
    replace hb_g37 := hb_g37.ext he64
    replace ho39 := Own.ext ho39 he64
    replace ho45 := Own.ext ho45 he64
    replace hb_g2 := hb_g2.ext he64
    have hz_he64 := he64.size
    exact ⟨rfl, he64⟩
  · intro wd hxE
    replace hE := hE.tr hxE
    replace hr6 := hr6.ext hxE
    replace hb_g1 := hb_g1.ext hxE
    replace ho9 := Own.ext ho9 hxE
    replace ho15 := Own.ext ho15 hxE
    replace hb_g21 := hb_g21.ext hxE
    replace ho23 := Own.ext ho23 hxE
    replace hb_g30 := hb_g30.ext hxE
    replace ho32 := Own.ext ho32 hxE
    replace hb_g37 := hb_g37.ext hxE
    replace ho39 := Own.ext ho39 hxE
    replace ho45 := Own.ext ho45 hxE
    replace hb_g2 := hb_g2.ext hxE
    have hz_hxE := hxE.size
    rintro _ rfl
    rintro _ rfl
    show OpG _ _ _ _ _ _
    exact og_on rfl rfl rfl (ox_val (ov_not (b := true) rfl))
  · intro wd hxE
    replace hE := hE.tr hxE
    replace hr6 := hr6.ext hxE
    replace hb_g1 := hb_g1.ext hxE
    replace ho9 := Own.ext ho9 hxE
    replace ho15 := Own.ext ho15 hxE
    replace hb_g21 := hb_g21.ext hxE
    replace ho23 := Own.ext ho23 hxE
    replace hb_g30 := hb_g30.ext hxE
    replace ho32 := Own.ext ho32 hxE
    replace hb_g37 := hb_g37.ext hxE
    replace ho39 := Own.ext ho39 hxE
    replace ho45 := Own.ext ho45 hxE
    replace hb_g2 := hb_g2.ext hxE
    have hz_hxE := hxE.size
    rintro _ rfl
    rintro _ rfl
    show OpG _ _ _ _ _ _
    exact og_plain rfl (ox_val (ov_pick_f rfl rfl))
  · intro wd hxE
    replace hE := hE.tr hxE
    replace hr6 := hr6.ext hxE
    replace hb_g1 := hb_g1.ext hxE
    replace ho9 := Own.ext ho9 hxE
    replace ho15 := Own.ext ho15 hxE
    replace hb_g21 := hb_g21.ext hxE
    replace ho23 := Own.ext ho23 hxE
    replace hb_g30 := hb_g30.ext hxE
    replace ho32 := Own.ext ho32 hxE
    replace hb_g37 := hb_g37.ext hxE
    replace ho39 := Own.ext ho39 hxE
    replace ho45 := Own.ext ho45 hxE
    replace hb_g2 := hb_g2.ext hxE
    have hz_hxE := hxE.size
    rintro _ rfl
    show OpG _ _ _ _ _ _
    exact og_plain rfl (ox_val (ov_move rfl))
  · intro wd hxE
    replace hE := hE.tr hxE
    replace hr6 := hr6.ext hxE
    replace hb_g1 := hb_g1.ext hxE
    replace ho9 := Own.ext ho9 hxE
    replace ho15 := Own.ext ho15 hxE
    replace hb_g21 := hb_g21.ext hxE
    replace ho23 := Own.ext ho23 hxE
    replace hb_g30 := hb_g30.ext hxE
    replace ho32 := Own.ext ho32 hxE
    replace hb_g37 := hb_g37.ext hxE
    replace ho39 := Own.ext ho39 hxE
    replace ho45 := Own.ext ho45 hxE
    replace hb_g2 := hb_g2.ext hxE
    have hz_hxE := hxE.size
    rintro _ rfl
    show OpG _ _ _ _ _ _
    exact og_on rfl rfl rfl (ox_val (ov_build (cs := [(.int .i64 0), (.slice none 0 0), (.int .u64 1), (.int .u64 0)]) ze53 pl53 rfl rfl))
  · intro wd hxE
    replace hE := hE.tr hxE
    replace hr6 := hr6.ext hxE
    replace hb_g1 := hb_g1.ext hxE
    replace ho9 := Own.ext ho9 hxE
    replace ho15 := Own.ext ho15 hxE
    replace hb_g21 := hb_g21.ext hxE
    replace ho23 := Own.ext ho23 hxE
    replace hb_g30 := hb_g30.ext hxE
    replace ho32 := Own.ext ho32 hxE
    replace hb_g37 := hb_g37.ext hxE
    replace ho39 := Own.ext ho39 hxE
    replace ho45 := Own.ext ho45 hxE
    replace hb_g2 := hb_g2.ext hxE
    have hz_hxE := hxE.size
    rintro _ rfl
    rintro _ rfl
    show OpG _ _ _ _ _ _
    refine og_on rfl rfl rfl (OpRun.mono (or_buildSliceF (cs := [.int .i64 0, .slice none 0 0, .int .u64 1, .int .u64 0]) sl24 rfl (by kernel_rfl) (by decide) (by decide)) ?_)
    rintro v w24 ⟨g69, rfl, hb_g69, he69, hl69, hu69⟩
    replace hE := hE.tr he69
    replace hr6 := hr6.ext he69
    replace hb_g1 := hb_g1.ext he69
    replace ho9 := Own.ext ho9 he69
    replace ho15 := Own.ext ho15 he69
    replace hb_g21 := hb_g21.ext he69
    replace ho23 := Own.ext ho23 he69
    replace hb_g30 := hb_g30.ext he69
    replace ho32 := Own.ext ho32 he69
    replace hb_g37 := hb_g37.ext he69
    replace ho39 := Own.ext ho39 he69
    replace ho45 := Own.ext ho45 he69
    replace hb_g2 := hb_g2.ext he69
    have hz_he69 := he69.size
    exact ⟨⟨g69, rfl, hb_g69⟩, he69⟩
  · intro wd hxE
    replace hE := hE.tr hxE
    replace hr6 := hr6.ext hxE
    replace hb_g1 := hb_g1.ext hxE
    replace ho9 := Own.ext ho9 hxE
    replace ho15 := Own.ext ho15 hxE
    replace hb_g21 := hb_g21.ext hxE
    replace ho23 := Own.ext ho23 hxE
    replace hb_g30 := hb_g30.ext hxE
    replace ho32 := Own.ext ho32 hxE
    replace hb_g37 := hb_g37.ext hxE
    replace ho39 := Own.ext ho39 hxE
    replace ho45 := Own.ext ho45 hxE
    replace hb_g2 := hb_g2.ext hxE
    have hz_hxE := hxE.size
    rintro _ rfl
    rintro _ ⟨g69, rfl, hb_g69⟩
    show OpG _ _ _ _ _ _
    refine og_on rfl rfl rfl (OpRun.mono (ov_build (cs := [(.int .i64 4), (.int .i64 0), (.slice (some ⟨g69, 0, none⟩) 1 1), (.int .u64 0), (.int .i64 0), (.slice none 0 0)]) ze28 pl28 rfl rfl) ?_)
    rintro v _ ⟨rfl, rfl⟩
    exact ⟨⟨g69, rfl, hb_g69⟩, ext_refl _⟩
  · intro wd hxE
    replace hE := hE.tr hxE
    replace hr6 := hr6.ext hxE
    replace hb_g1 := hb_g1.ext hxE
    replace ho9 := Own.ext ho9 hxE
    replace ho15 := Own.ext ho15 hxE
    replace hb_g21 := hb_g21.ext hxE
    replace ho23 := Own.ext ho23 hxE
    replace hb_g30 := hb_g30.ext hxE
    replace ho32 := Own.ext ho32 hxE
    replace hb_g37 := hb_g37.ext hxE
    replace ho39 := Own.ext ho39 hxE
    replace ho45 := Own.ext ho45 hxE
    replace hb_g2 := hb_g2.ext hxE
    have hz_hxE := hxE.size
    rintro _ rfl
    show OpG _ _ _ _ _ _
    exact og_on rfl rfl rfl (ox_val (ov_loadBlk (cs := [(.int .u8 0), (.slice none 0 0)]) ag34_2 rfl hb_g2))
  · intro wf9 hf9
    replace hE := hE.tr hf9
    replace hr6 := hr6.ext hf9
    replace hb_g1 := hb_g1.ext hf9
    replace ho9 := Own.ext ho9 hf9
    replace ho15 := Own.ext ho15 hf9
    replace hb_g21 := hb_g21.ext hf9
    replace ho23 := Own.ext ho23 hf9
    replace hb_g30 := hb_g30.ext hf9
    replace ho32 := Own.ext ho32 hf9
    replace hb_g37 := hb_g37.ext hf9
    replace ho39 := Own.ext ho39 hf9
    replace ho45 := Own.ext ho45 hf9
    replace hb_g2 := hb_g2.ext hf9
    have hz_hf9 := hf9.size
    rintro _ rfl
    rintro _ rfl
    rintro _ rfl
    rintro _ rfl
    rintro _ rfl
    rintro _ rfl
    rintro _ rfl
    rintro _ rfl
    rintro _ rfl
    rintro _ rfl
    rintro _ rfl
    rintro _ rfl
    rintro _ rfl
    rintro _ rfl
    rintro _ rfl
    rintro _ rfl
    rintro _ rfl
    rintro _ rfl
    rintro _ ⟨g69, rfl, hb_g69⟩
    rintro _ ⟨g69, rfl, hb_g69⟩
    rintro _ rfl
    show WL _ _ _ [_, _, _] _ _ _
    refine wl_gstep (or_call0 cl11 rfl rfl (lw8 _ (⟨4, 0, [⟨0, [], 1, 0⟩], 0, 0, []⟩ : Rsp) [((⟨0, [], 1, 0⟩ : Itm), none, 0)] rfl _ _ (some ⟨g69, 0, none⟩) 1 none 0 (rdI_blk (xs := [((⟨0, [], 1, 0⟩ : Itm), none, 0)]) hb_g69 rfl (by decide) (fun y hy => by simp only [List.mem_cons, List.not_mem_nil, or_false] at hy; subst hy; exact RdB.nil _ _ _)) (Rd.nil _ 0 _ _ _ _ (Nat.zero_le _)) _ _ (0) none 0 [] (RdB.nil _ 0 0) 2 _ (by rfl) ⟨by decide, by decide, by decide, by decide⟩ (by decide) kw10)) rfl rfl rfl rfl rfl ?_
    rintro v w24 ⟨rfl, he72⟩
    replace hE := hE.tr he72
    replace hr6 := hr6.ext he72
    replace hb_g1 := hb_g1.ext he72
    replace ho9 := Own.ext ho9 he72
    replace ho15 := Own.ext ho15 he72
    replace hb_g21 := hb_g21.ext he72
    replace ho23 := Own.ext ho23 he72
    replace hb_g30 := hb_g30.ext he72
    replace ho32 := Own.ext ho32 he72
    replace hb_g37 := hb_g37.ext he72
    replace ho39 := Own.ext ho39 he72
    replace ho45 := Own.ext ho45 he72
    replace hb_g2 := hb_g2.ext he72
    replace hb_g69 := hb_g69.ext he72
    have hz_he72 := he72.size
    refine wl_gval (ov_not (b := true) rfl) rfl rfl rfl rfl rfl ?_
    refine wl_val (ov_pick_f rfl rfl) rfl rfl rfl ?_
    refine q_nil (k_then ?_)
    refine wc_cond_f rfl ?_
    refine q_skip (k_then (wc_seq (wc_seq (wc_regionL ?_))))
    refine wl_step (or_buildBytes (l := [0]) bt32 (os := [.const (.int .u8 0)]) rfl rfl rfl (by decide)) rfl rfl rfl ?_
    rintro v w25 ⟨A75, c75, rfl, ho75, he75⟩
    replace hE := hE.tr he75
    replace hr6 := hr6.ext he75
    replace hb_g1 := hb_g1.ext he75
    replace ho9 := Own.ext ho9 he75
    replace ho15 := Own.ext ho15 he75
    replace hb_g21 := hb_g21.ext he75
    replace ho23 := Own.ext ho23 he75
    replace hb_g30 := hb_g30.ext he75
    replace ho32 := Own.ext ho32 he75
    replace hb_g37 := hb_g37.ext he75
    replace ho39 := Own.ext ho39 he75
    replace ho45 := Own.ext ho45 he75
    replace hb_g2 := hb_g2.ext he75
    replace hb_g69 := hb_g69.ext he75
    have hz_he75 := he75.size
    have hq_ho75 := fun g e => Own.lt ho75 (g := g) e
    refine wl_val (ov_build (cs := [(.int .u8 4), (.slice A75 [0].length c75)]) ze34 pl34 rfl rfl) rfl rfl rfl ?_
    refine wl_val (ov_build (cs := [(.int .u8 68), (.slice none 0 0)]) ze34 pl34 rfl rfl) rfl rfl rfl ?_
    refine wl_step (or_buildBytes (l := [0]) bt32 (os := [.const (.int .u8 0)]) rfl rfl rfl (by decide)) rfl rfl rfl ?_
    rintro v w26 ⟨A78, c78, rfl, ho78, he78⟩
    replace hE := hE.tr he78
    replace hr6 := hr6.ext he78
    replace hb_g1 := hb_g1.ext he78
    replace ho9 := Own.ext ho9 he78
    replace ho15 := Own.ext ho15 he78
    replace hb_g21 := hb_g21.ext he78
    replace ho23 := Own.ext ho23 he78
    replace hb_g30 := hb_g30.ext he78
    replace ho32 := Own.ext ho32 he78
    replace hb_g37 := hb_g37.ext he78
    replace ho39 := Own.ext ho39 he78
    replace ho45 := Own.ext ho45 he78
    replace hb_g2 := hb_g2.ext he78
    replace hb_g69 := hb_g69.ext he78
    replace ho75 := Own.ext ho75 he78
    have hz_he78 := he78.size
    have hq_ho78 := fun g e => Own.lt ho78 (g := g) e
    refine wl_val (ov_build (cs := [(.int .u8 68), (.slice A78 [0].length c78)]) ze34 pl34 rfl rfl) rfl rfl rfl ?_
    refine wl_step (or_buildBytes (l := [0, 5, 0]) bt32 (os := [.const (.int .u8 0), .const (.int .u8 5), .const (.int .u8 0)]) rfl rfl rfl (by decide)) rfl rfl rfl ?_
    rintro v w27 ⟨A80, c80, rfl, ho80, he80⟩
    replace hE := hE.tr he80
    replace hr6 := hr6.ext he80
    replace hb_g1 := hb_g1.ext he80
    replace ho9 := Own.ext ho9 he80
    replace ho15 := Own.ext ho15 he80
    replace hb_g21 := hb_g21.ext he80
    replace ho23 := Own.ext ho23 he80
    replace hb_g30 := hb_g30.ext he80
    replace ho32 := Own.ext ho32 he80
    replace hb_g37 := hb_g37.ext he80
    replace ho39 := Own.ext ho39 he80
    replace ho45 := Own.ext ho45 he80
    replace hb_g2 := hb_g2.ext he80
    replace hb_g69 := hb_g69.ext he80
    replace ho75 := Own.ext ho75 he80
    replace ho78 := Own.ext ho78 he80
    have hz_he80 := he80.size
    have hq_ho80 := fun g e => Own.lt ho80 (g := g) e
    refine wl_val (ov_build (cs := [(.int .u8 71), (.slice A80 [0, 5, 0].length c80)]) ze34 pl34 rfl rfl) rfl rfl rfl ?_
    refine wl_step (or_buildBytes (l := [0, 3, 1, 5, 0]) bt32 (os := [.const (.int .u8 0), .const (.int .u8 3), .const (.int .u8 1), .const (.int .u8 5), .const (.int .u8 0)]) rfl rfl rfl (by decide)) rfl rfl rfl ?_
    rintro v w28 ⟨A82, c82, rfl, ho82, he82⟩
    replace hE := hE.tr he82
    replace hr6 := hr6.ext he82
    replace hb_g1 := hb_g1.ext he82
    replace ho9 := Own.ext ho9 he82
    replace ho15 := Own.ext ho15 he82
    replace hb_g21 := hb_g21.ext he82
    replace ho23 := Own.ext ho23 he82
    replace hb_g30 := hb_g30.ext he82
    replace ho32 := Own.ext ho32 he82
    replace hb_g37 := hb_g37.ext he82
    replace ho39 := Own.ext ho39 he82
    replace ho45 := Own.ext ho45 he82
    replace hb_g2 := hb_g2.ext he82
    replace hb_g69 := hb_g69.ext he82
    replace ho75 := Own.ext ho75 he82
    replace ho78 := Own.ext ho78 he82
    replace ho80 := Own.ext ho80 he82
    have hz_he82 := he82.size
    have hq_ho82 := fun g e => Own.lt ho82 (g := g) e
    refine wl_val (ov_build (cs := [(.int .u8 68), (.slice A82 [0, 3, 1, 5, 0].length c82)]) ze34 pl34 rfl rfl) rfl rfl rfl ?_
    refine wl_step (or_buildSliceF (cs := [.int .u8 4, .slice A75 1 c75, .int .u8 68, .slice none 0 0, .int .u8 68, .slice A78 1 c78, .int .u8 71, .slice A80 3 c80, .int .u8 68, .slice A82 5 c82]) sl62 rfl (by kernel_rfl) (by decide) (by decide)) rfl rfl rfl ?_
    rintro v w29 ⟨g84, rfl, hb_g84, he84, hl84, hu84⟩
    replace hE := hE.tr he84
    replace hr6 := hr6.ext he84
    replace hb_g1 := hb_g1.ext he84
    replace ho9 := Own.ext ho9 he84
    replace ho15 := Own.ext ho15 he84
    replace hb_g21 := hb_g21.ext he84
    replace ho23 := Own.ext ho23 he84
    replace hb_g30 := hb_g30.ext he84
    replace ho32 := Own.ext ho32 he84
    replace hb_g37 := hb_g37.ext he84
    replace ho39 := Own.ext ho39 he84
    replace ho45 := Own.ext ho45 he84
    replace hb_g2 := hb_g2.ext he84
    replace hb_g69 := hb_g69.ext he84
    replace ho75 := Own.ext ho75 he84
    replace ho78 := Own.ext ho78 he84
    replace ho80 := Own.ext ho80 he84
    replace ho82 := Own.ext ho82 he84
    have hz_he84 := he84.size
    obtain ⟨B0, hB0⟩ : ∃ n, n = w29.heap.size := ⟨_, rfl⟩
    have hbl : ∀ b ∈ [(⟨4, A75, c75, [0]⟩ : BadF), ⟨68, none, 0, []⟩, ⟨68, A78, c78, [0]⟩, ⟨71, A80, c80, [0, 5, 0]⟩, ⟨68, A82, c82, [0, 3, 1, 5, 0]⟩], BadOk w29 B0 b := by
      rw [hB0]
      intro b hb
      simp only [List.mem_cons, List.not_mem_nil, or_false] at hb
      rcases hb with rfl | rfl | rfl | rfl | rfl
      · exact ⟨(Rd.top (OwnB.rd ho75)).mono (Nat.zero_le _) (Nat.le_refl _), (by show List.length ([0] : List UInt8) ≤ 5; decide), kr1⟩
      · exact ⟨RdB.nil _ _ _, (by show List.length ([] : List UInt8) ≤ 5; decide), kr2⟩
      · exact ⟨(Rd.top (OwnB.rd ho78)).mono (Nat.zero_le _) (Nat.le_refl _), (by show List.length ([0] : List UInt8) ≤ 5; decide), kr3⟩
      · exact ⟨(Rd.top (OwnB.rd ho80)).mono (Nat.zero_le _) (Nat.le_refl _), (by show List.length ([0, 5, 0] : List UInt8) ≤ 5; decide), kr4⟩
      · exact ⟨(Rd.top (OwnB.rd ho82)).mono (Nat.zero_le _) (Nat.le_refl _), (by show List.length ([0, 3, 1, 5, 0] : List UInt8) ≤ 5; decide), kr5⟩
    refine wl_val (ov_len Try.underlying62 rfl) rfl rfl rfl ?_
    refine vm rfl rfl ?_
    refine q_nil (k_then (wc_block ?_))
    refine wc_loop (σ := Nat) (fun k => 5 - k) (fun k => [(84, .slice (some ⟨g84, 0, none⟩) 5 5), (85, .int .i64 5), (86, .int .i64 (k : Int))]) (fun k w' => k ≤ 5 ∧ Blk w' g84 34 [.int .u8 4, .slice A75 1 c75, .int .u8 68, .slice none 0 0, .int .u8 68, .slice A78 1 c78, .int .u8 71, .slice A80 3 c80, .int .u8 68, .slice A82 5 c82] ∧ (∀ b ∈ [(⟨4, A75, c75, [0]⟩ : BadF), ⟨68, none, 0, []⟩, ⟨68, A78, c78, [0]⟩, ⟨71, A80, c80, [0, 5, 0]⟩, ⟨68, A82, c82, [0, 3, 1, 5, 0]⟩], BadOk w' B0 b) ∧ B0 ≤ w'.heap.size ∧ Ext w w') (0) (⟨Nat.zero_le _, hb_g84, hbl, by omega, hE⟩) (⟨rfl, rfl, rfl, trivial⟩) ?_
    rintro k wq ⟨hk0, hb_g84, hbl, hB1, hE⟩
    show WC _ _ _ _ [(84, (.slice (some ⟨g84, 0, none⟩) [(⟨4, A75, c75, [0]⟩ : BadF), ⟨68, none, 0, []⟩, ⟨68, A78, c78, [0]⟩, ⟨71, A80, c80, [0, 5, 0]⟩, ⟨68, A82, c82, [0, 3, 1, 5, 0]⟩].length 5)), (85, (.int .i64 5)), (86, (.int .i64 (↑k : Int)))] _
    have hz84 := hb_g84.lt
    have hz_E := hE.size
    refine wc_seq (wc_regionL ?_)
    refine wl_val (ov_lss rfl rfl) rfl rfl rfl ?_
    refine q_nil (k_then (wc_seq ?_))
    refine wc_cond_d rfl (fun hc5 => ?_) (fun hc5 => ?_)
    · obtain ⟨b, hk⟩ : ∃ b, [(⟨4, A75, c75, [0]⟩ : BadF), ⟨68, none, 0, []⟩, ⟨68, A78, c78, [0]⟩, ⟨71, A80, c80, [0, 5, 0]⟩, ⟨68, A82, c82, [0, 3, 1, 5, 0]⟩][k]? = some b := ⟨_, List.getElem?_eq_getElem (by show k < 5; omega)⟩
      obtain ⟨hrb, hlb, hwb⟩ := hbl b (List.mem_of_getElem? hk)
      refine q_skip (k_then (wc_seq (wc_block (wc_seq (wc_regionL ?_)))))
      refine wl_step (or_rindex (m := (k)) sl62 rfl rfl (show RdR _ 0 _ 2 badc _ 5 [(⟨4, A75, c75, [0]⟩ : BadF), ⟨68, none, 0, []⟩, ⟨68, A78, c78, [0]⟩, ⟨71, A80, c80, [0, 5, 0]⟩, ⟨68, A82, c82, [0, 3, 1, 5, 0]⟩] from Blk.rdF hb_g84 rfl (by show 5 ≤ maxLen; decide)) (fun _ _ => rfl) hk) rfl rfl rfl ?_
      rintro v _ ⟨rfl, p88, rfl, hp88, hpl88, hph88⟩
      refine wl_val (ov_loadAgg (cs := [(.int .u8 (↑b.code.toNat : Int)), (.slice b.A b.l.length b.c)]) ag34_2 rfl rfl hp88) rfl rfl rfl ?_
      refine wl_step (or_alloc (cs := [(.int .u8 0), (.slice none 0 0)]) ze34 rfl) rfl rfl rfl ?_
      rintro v w30 ⟨g4, rfl, hb_g4, he4, hl4, hu4⟩
      replace hb_g84 := hb_g84.ext he4
      replace hbl := badl_gr hbl he4 (fun _ e => by cases e)
      replace hE := hE.tr he4
      replace hrb := hrb.ext he4
      have hz_he4 := he4.size
      refine wl_step0 (or_storeBlk (vs := [(.int .u8 (↑b.code.toNat : Int)), (.slice b.A b.l.length b.c)]) sz34 rfl rfl (by simp [Value.oneCell']) hb_g4 rfl) rfl rfl ?_
      rintro _ w31 ⟨hN31, hg31⟩
      have hz_hg31 := hg31.size
      replace hb_g84 := hb_g84.gr hg31 (by intro e; cases e; omega)
      replace hbl := badl_gr hbl hg31 (fun _ e => by cases e; omega)
      replace hE := hE.gr hg31 (fun _ e => by cases e; omega)
      replace hrb := hrb.gr hg31 (fun _ e => by cases e; omega)
      replace hb_g4 := hN31
      refine q_nil (k_then (wc_seq (wc_regionL ?_)))
      refine wl_val (ov_loadBlk (cs := [(.int .u8 (↑b.code.toNat : Int)), (.slice b.A b.l.length b.c)]) ag34_2 rfl hb_g4) rfl rfl rfl ?_
      refine wl_val (ov_build (cs := [(.int .i64 0), (.int .i64 0), (.slice none 0 0), (.int .u64 0), (.int .i64 0), (.slice none 0 0)]) ze28 pl28 rfl rfl) rfl rfl rfl ?_
      refine wl_step (or_call0 cl19 rfl rfl (lr8 _ _ _ (b.code) b.A b.c b.l hrb (by omega) (rspO 0 0) [] rfl 0 0 none 0 none 0 (RdI.nil _ 0 _) (Rd.nil _ 0 _ _ _ _ (Nat.zero_le _)) 6 _ (by rfl) hwb)) rfl rfl rfl ?_
      rintro v w32 ⟨rfl, he92⟩
      replace hb_g84 := hb_g84.ext he92
      replace hbl := badl_gr hbl he92 (fun _ e => by cases e)
      replace hE := hE.tr he92
      replace hrb := hrb.ext he92
      replace hb_g4 := hb_g4.ext he92
      have hz_he92 := he92.size
      refine wl_val (ov_not (b := true) rfl) rfl rfl rfl ?_
      refine q_nil (k_then ?_)
      refine wc_cond_f rfl ?_
      refine q_skip (k_block (k_then (wc_regionL ?_)))
      refine wl_val (ov_add rfl rfl (wi64 (by omega) (by omega))) rfl rfl rfl ?_
      refine vm rfl rfl ?_
      refine q_nil ?_
      refine k_loop (k + 1) (by show 5 - (k + 1) < 5 - k; omega) (⟨rfl, rfl, rfl, trivial⟩) (⟨by omega, hb_g84, hbl, by omega, hE⟩)
    · refine q_exit (k_thenX (k_thenX (k_blockE (k_then (wc_seq (wc_regionL ?_))))))
      refine va rfl rfl ?_
      refine q_nil (k_then (q_ret ?_))
      refine e_ret rfl rfl ?_
      exact ⟨rfl, hE⟩

end Go.Proofs.Ytohnkjjjejnkpaa
