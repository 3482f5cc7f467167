/-
  The walk of ResponseHolds.
-/
import Derived.Test.YtohnkjjjejnkpaaRj
import Derived.Test.YtohnkjjjejnkpaaRspP
import Derived.Test.YtohnkjjjejnkpaaQg
namespace Go.Proofs.Ytohnkjjjejnkpaa
open Go.RowKit
set_option linter.unusedVariables false
set_option maxRecDepth 4000
theorem cl21 : callable Try.prog 21 = true := by kernel_rfl
theorem cl24 : callable Try.prog 24 = true := by kernel_rfl
theorem cl8 : callable Try.prog 8 = true := by kernel_rfl
theorem cl9 : callable Try.prog 9 = true := by kernel_rfl

theorem wr_inv {r : Rsp} (h : (wrR r).2 = 0) : WrOk r := by
  by_cases hq : WrOk r
  · exact hq
  · rw [wrR_bad hq] at h; cases h
theorem wbytes_len {r : Rsp} (h : WrOk r) : (wbytes r).length ≤ 10 + 2 * rsz r := by
  by_cases h0 : r.err = 0
  · rw [← wpre_end h0]; exact wpre_len3 (pl_len _) (by rw [List.take_length]; exact h.2.2.2.2.2.1 h0)
  · rw [wbytes_e h0]; have := enc_len r.err.toNat; omega
theorem wr_rd {r : Rsp} (h : (wrR r).2 = 0) : rdR (((wrR r).1.1.toNat : Int) - 64) (wrR r).1.2 = (r, 0) ∧ (wrR r).1.2.length ≤ 10 + 2 * rsz r := by
  have hq := wr_inv h
  rw [wrR_ok hq]
  refine ⟨?_, wbytes_len hq⟩
  show rdR (((codeR r).toNat : Int) - 64) (wbytes r) = (r, 0)
  rw [codeR_sub hq.1 hq.2.1]
  exact Prod.ext hq.2.2.2.2.2.2.2 hq.2.2.2.2.2.2.1
theorem rd_wr_eq {x : UInt8} {l : List UInt8} (h : (rdR ((x.toNat : Int) - 64) l).2 = 0) : wrR (rdR ((x.toNat : Int) - 64) l).1 = ((x, l), 0) := by
  have H := rd_wr h
  rw [wrR_ok H.wr, H.bytes]
  have e : codeR (rdR ((x.toNat : Int) - 64) l).1 = x := by
    have h1 := H.o1
    have h2 := H.o2
    have h3 := codeR_nat (r := (rdR ((x.toNat : Int) - 64) l).1) (by rw [H.hop]; exact h1) (by rw [H.hop]; exact h2)
    rw [H.hop] at h3
    have h4 : (codeR (rdR ((x.toNat : Int) - 64) l).1).toNat = x.toNat := by omega
    exact UInt8.toNat_inj.1 h4
  rw [e]

theorem rholds_a (w : World) (r : Rsp) (xs : List IT) (hv : vals xs = r.items) (lo hi : Nat) (X : Option Addr) (cx : Nat) (N : Option Addr) (cn : Nat) (hx : RdI w lo hi X cx xs) (hn : RdN w lo hi N cn r.nums) (lo2 hi2 : Nat) (x : UInt8) (A : Option Addr) (c : Nat) (l : List UInt8) (hr : RdB w lo2 hi2 A c l) (hok : LawOk r) (ha : lightR r = false) :
    Fn Try.prog 7 #[(.agg #[(.int .i64 r.op), (.int .i64 r.err), (.slice X r.items.length cx), (.int .u64 (↑r.ver : Int)), (.int .i64 r.count), (.slice N r.nums.length cn)]), (.agg #[(.int .u8 (↑x.toNat : Int)), (.slice A l.length c)])] w (fun v w' => v = .bool true ∧ Ext w w')  := by
  replace hx := hx.top
  replace hn := Rd.top hn
  replace hr := hr.top
  have hE := ext_refl w
  refine fn_enter (args := [(.agg #[(.int .i64 r.op), (.int .i64 r.err), (.slice X r.items.length cx), (.int .u64 (↑r.ver : Int)), (.int .i64 r.count), (.slice N r.nums.length cn)]), (.agg #[(.int .u8 (↑x.toNat : Int)), (.slice A l.length c)])]) Try.func7 rfl rfl rfl ?_
  show WC _ _ _ _ [(0, (.agg #[(.int .i64 r.op), (.int .i64 r.err), (.slice X r.items.length cx), (.int .u64 (↑r.ver : Int)), (.int .i64 r.count), (.slice N r.nums.length cn)])), (1, (.agg #[(.int .u8 (↑x.toNat : Int)), (.slice A l.length c)]))] _
  refine wc_seq (wc_regionL ?_)
  refine wl_step (or_box (cs := [(.int .i64 r.op), (.int .i64 r.err), (.slice X r.items.length cx), (.int .u64 (↑r.ver : Int)), (.int .i64 r.count), (.slice N r.nums.length cn)]) rfl rfl) rfl rfl rfl ?_
  rintro v w1 ⟨g2, rfl, hb_g2, he2, hl2, hu2⟩
  replace hx := RdI.ext hx he2
  replace hn := hn.ext he2
  replace hr := hr.ext he2
  replace hE := hE.tr he2
  have hz_he2 := he2.size
  refine wl_step (or_box (cs := [(.int .u8 (↑x.toNat : Int)), (.slice A l.length c)]) rfl rfl) rfl rfl rfl ?_
  rintro v w2 ⟨g3, rfl, hb_g3, he3, hl3, hu3⟩
  replace hx := RdI.ext hx he3
  replace hn := hn.ext he3
  replace hr := hr.ext he3
  replace hE := hE.tr he3
  replace hb_g2 := hb_g2.ext he3
  have hz_he3 := he3.size
  refine va rfl rfl ?_
  refine q_nil (k_then (wc_seq (wc_seq (wc_regionL ?_))))
  refine wl_val (ov_loadBlk (cs := [(.int .i64 r.op), (.int .i64 r.err), (.slice X r.items.length cx), (.int .u64 (↑r.ver : Int)), (.int .i64 r.count), (.slice N r.nums.length cn)]) ag28_6 rfl hb_g2) rfl rfl rfl ?_
  refine wl_step (or_call0 cl8 rfl rfl (light8_any _ r xs hv _ _ X cx N cn hx hn hok.len)) rfl rfl rfl ?_
  rintro v w3 ⟨rfl, he11⟩
  replace hx := RdI.ext hx he11
  replace hn := hn.ext he11
  replace hr := hr.ext he11
  replace hE := hE.tr he11
  replace hb_g2 := hb_g2.ext he11
  replace hb_g3 := hb_g3.ext he11
  have hz_he11 := he11.size
  refine wl_spell (d := 11) rfl (v' := (.bool false)) (by rw [ha]) ?_
  refine wl_val (ov_not (b := false) rfl) rfl rfl rfl ?_
  refine vm rfl rfl ?_
  iterate 4 refine wl_gskip rfl rfl rfl rfl rfl rfl ?_
  refine wl_val (ov_pick_t rfl rfl) rfl rfl rfl ?_
  refine q_nil (k_then ?_)
  refine wc_cond_t rfl ?_
  refine wc_seq (wc_regionL ?_)
  refine wl_step (or_call0 cl9 rfl rfl (known08_any _)) rfl rfl rfl ?_
  rintro v w4 ⟨rfl, he19⟩
  replace hx := RdI.ext hx he19
  replace hn := hn.ext he19
  replace hr := hr.ext he19
  replace hE := hE.tr he19
  replace hb_g2 := hb_g2.ext he19
  replace hb_g3 := hb_g3.ext he19
  have hz_he19 := he19.size
  refine va rfl rfl ?_
  refine q_nil (k_then (q_ret (k_thenR ?_)))
  refine e_ret rfl rfl ?_
  exact ⟨rfl, hE⟩

theorem rholds_b (w : World) (r : Rsp) (xs : List IT) (hv : vals xs = r.items) (lo hi : Nat) (X : Option Addr) (cx : Nat) (N : Option Addr) (cn : Nat) (hx : RdI w lo hi X cx xs) (hn : RdN w lo hi N cn r.nums) (lo2 hi2 : Nat) (x : UInt8) (A : Option Addr) (c : Nat) (l : List UInt8) (hr : RdB w lo2 hi2 A c l) (hok : LawOk r) (ha : lightR r = true) (hl : 1000 < l.length) :
    Fn Try.prog 7 #[(.agg #[(.int .i64 r.op), (.int .i64 r.err), (.slice X r.items.length cx), (.int .u64 (↑r.ver : Int)), (.int .i64 r.count), (.slice N r.nums.length cn)]), (.agg #[(.int .u8 (↑x.toNat : Int)), (.slice A l.length c)])] w (fun v w' => v = .bool true ∧ Ext w w')  := by
  replace hx := hx.top
  replace hn := Rd.top hn
  replace hr := hr.top
  have hE := ext_refl w
  refine fn_enter (args := [(.agg #[(.int .i64 r.op), (.int .i64 r.err), (.slice X r.items.length cx), (.int .u64 (↑r.ver : Int)), (.int .i64 r.count), (.slice N r.nums.length cn)]), (.agg #[(.int .u8 (↑x.toNat : Int)), (.slice A l.length c)])]) Try.func7 rfl rfl rfl ?_
  show WC _ _ _ _ [(0, (.agg #[(.int .i64 r.op), (.int .i64 r.err), (.slice X r.items.length cx), (.int .u64 (↑r.ver : Int)), (.int .i64 r.count), (.slice N r.nums.length cn)])), (1, (.agg #[(.int .u8 (↑x.toNat : Int)), (.slice A l.length c)]))] _
  refine wc_seq (wc_regionL ?_)
  refine wl_step (or_box (cs := [(.int .i64 r.op), (.int .i64 r.err), (.slice X r.items.length cx), (.int .u64 (↑r.ver : Int)), (.int .i64 r.count), (.slice N r.nums.length cn)]) rfl rfl) rfl rfl rfl ?_
  rintro v w1 ⟨g2, rfl, hb_g2, he2, hl2, hu2⟩
  replace hx := RdI.ext hx he2
  replace hn := hn.ext he2
  replace hr := hr.ext he2
  replace hE := hE.tr he2
  have hz_he2 := he2.size
  refine wl_step (or_box (cs := [(.int .u8 (↑x.toNat : Int)), (.slice A l.length c)]) rfl rfl) rfl rfl rfl ?_
  rintro v w2 ⟨g3, rfl, hb_g3, he3, hl3, hu3⟩
  replace hx := RdI.ext hx he3
  replace hn := hn.ext he3
  replace hr := hr.ext he3
  replace hE := hE.tr he3
  replace hb_g2 := hb_g2.ext he3
  have hz_he3 := he3.size
  refine va rfl rfl ?_
  refine q_nil (k_then (wc_seq (wc_seq (wc_regionL ?_))))
  refine wl_val (ov_loadBlk (cs := [(.int .i64 r.op), (.int .i64 r.err), (.slice X r.items.length cx), (.int .u64 (↑r.ver : Int)), (.int .i64 r.count), (.slice N r.nums.length cn)]) ag28_6 rfl hb_g2) rfl rfl rfl ?_
  refine wl_step (or_call0 cl8 rfl rfl (light8_any _ r xs hv _ _ X cx N cn hx hn hok.len)) rfl rfl rfl ?_
  rintro v w3 ⟨rfl, he11⟩
  replace hx := RdI.ext hx he11
  replace hn := hn.ext he11
  replace hr := hr.ext he11
  replace hE := hE.tr he11
  replace hb_g2 := hb_g2.ext he11
  replace hb_g3 := hb_g3.ext he11
  have hz_he11 := he11.size
  refine wl_spell (d := 11) rfl (v' := (.bool true)) (by rw [ha]) ?_
  refine wl_val (ov_not (b := true) rfl) rfl rfl rfl ?_
  refine vm rfl rfl ?_
  refine wl_gval (ov_field0 (off := 1) fo34_1 rfl) rfl rfl rfl rfl rfl ?_
  refine wl_gval (ov_loadAt oc32 rfl hb_g3 rfl) rfl rfl rfl rfl rfl ?_
  refine wl_gval (ov_len Try.underlying32 rfl) rfl rfl rfl rfl rfl ?_
  refine wl_gval (ov_gtr rfl rfl) rfl rfl rfl rfl rfl ?_
  refine wl_spell (d := 17) rfl (bt (by omega)) ?_
  refine wl_val (ov_pick_f rfl rfl) rfl rfl rfl ?_
  refine q_nil (k_then ?_)
  refine wc_cond_t rfl ?_
  refine wc_seq (wc_regionL ?_)
  refine wl_step (or_call0 cl9 rfl rfl (known08_any _)) rfl rfl rfl ?_
  rintro v w4 ⟨rfl, he19⟩
  replace hx := RdI.ext hx he19
  replace hn := hn.ext he19
  replace hr := hr.ext he19
  replace hE := hE.tr he19
  replace hb_g2 := hb_g2.ext he19
  replace hb_g3 := hb_g3.ext he19
  have hz_he19 := he19.size
  refine va rfl rfl ?_
  refine q_nil (k_then (q_ret (k_thenR ?_)))
  refine e_ret rfl rfl ?_
  exact ⟨rfl, hE⟩

theorem rholds_c (w : World) (r : Rsp) (xs : List IT) (hv : vals xs = r.items) (lo hi : Nat) (X : Option Addr) (cx : Nat) (N : Option Addr) (cn : Nat) (hx : RdI w lo hi X cx xs) (hn : RdN w lo hi N cn r.nums) (lo2 hi2 : Nat) (x : UInt8) (A : Option Addr) (c : Nat) (l : List UInt8) (hr : RdB w lo2 hi2 A c l) (hok : LawOk r) (ha : lightR r = true) (hl : l.length ≤ 1000) :
    Fn Try.prog 7 #[(.agg #[(.int .i64 r.op), (.int .i64 r.err), (.slice X r.items.length cx), (.int .u64 (↑r.ver : Int)), (.int .i64 r.count), (.slice N r.nums.length cn)]), (.agg #[(.int .u8 (↑x.toNat : Int)), (.slice A l.length c)])] w (fun v w' => v = .bool true ∧ Ext w w')  := by
  replace hx := hx.top
  replace hn := Rd.top hn
  replace hr := hr.top
  have hE := ext_refl w
  have hsz := lightR_rsz ha
  refine fn_enter (args := [(.agg #[(.int .i64 r.op), (.int .i64 r.err), (.slice X r.items.length cx), (.int .u64 (↑r.ver : Int)), (.int .i64 r.count), (.slice N r.nums.length cn)]), (.agg #[(.int .u8 (↑x.toNat : Int)), (.slice A l.length c)])]) Try.func7 rfl rfl rfl ?_
  show WC _ _ _ _ [(0, (.agg #[(.int .i64 r.op), (.int .i64 r.err), (.slice X r.items.length cx), (.int .u64 (↑r.ver : Int)), (.int .i64 r.count), (.slice N r.nums.length cn)])), (1, (.agg #[(.int .u8 (↑x.toNat : Int)), (.slice A l.length c)]))] _
  refine wc_seq (wc_regionL ?_)
  refine wl_step (or_box (cs := [(.int .i64 r.op), (.int .i64 r.err), (.slice X r.items.length cx), (.int .u64 (↑r.ver : Int)), (.int .i64 r.count), (.slice N r.nums.length cn)]) rfl rfl) rfl rfl rfl ?_
  rintro v w1 ⟨g2, rfl, hb_g2, he2, hl2, hu2⟩
  replace hx := RdI.ext hx he2
  replace hn := hn.ext he2
  replace hr := hr.ext he2
  replace hE := hE.tr he2
  have hz_he2 := he2.size
  refine wl_step (or_box (cs := [(.int .u8 (↑x.toNat : Int)), (.slice A l.length c)]) rfl rfl) rfl rfl rfl ?_
  rintro v w2 ⟨g3, rfl, hb_g3, he3, hl3, hu3⟩
  replace hx := RdI.ext hx he3
  replace hn := hn.ext he3
  replace hr := hr.ext he3
  replace hE := hE.tr he3
  replace hb_g2 := hb_g2.ext he3
  have hz_he3 := he3.size
  refine va rfl rfl ?_
  refine q_nil (k_then (wc_seq (wc_seq (wc_regionL ?_))))
  refine wl_val (ov_loadBlk (cs := [(.int .i64 r.op), (.int .i64 r.err), (.slice X r.items.length cx), (.int .u64 (↑r.ver : Int)), (.int .i64 r.count), (.slice N r.nums.length cn)]) ag28_6 rfl hb_g2) rfl rfl rfl ?_
  refine wl_step (or_call0 cl8 rfl rfl (light8_any _ r xs hv _ _ X cx N cn hx hn hok.len)) rfl rfl rfl ?_
  rintro v w3 ⟨rfl, he11⟩
  replace hx := RdI.ext hx he11
  replace hn := hn.ext he11
  replace hr := hr.ext he11
  replace hE := hE.tr he11
  replace hb_g2 := hb_g2.ext he11
  replace hb_g3 := hb_g3.ext he11
  have hz_he11 := he11.size
  refine wl_spell (d := 11) rfl (v' := (.bool true)) (by rw [ha]) ?_
  refine wl_val (ov_not (b := true) rfl) rfl rfl rfl ?_
  refine vm rfl rfl ?_
  refine wl_gval (ov_field0 (off := 1) fo34_1 rfl) rfl rfl rfl rfl rfl ?_
  refine wl_gval (ov_loadAt oc32 rfl hb_g3 rfl) rfl rfl rfl rfl rfl ?_
  refine wl_gval (ov_len Try.underlying32 rfl) rfl rfl rfl rfl rfl ?_
  refine wl_gval (ov_gtr rfl rfl) rfl rfl rfl rfl rfl ?_
  refine wl_spell (d := 17) rfl (bf (by omega)) ?_
  refine wl_val (ov_pick_f rfl rfl) rfl rfl rfl ?_
  refine q_nil (k_then ?_)
  refine wc_cond_f rfl ?_
  refine q_skip (k_then (wc_seq (wc_regionL ?_)))
  refine wl_val (ov_loadBlk (cs := [(.int .i64 r.op), (.int .i64 r.err), (.slice X r.items.length cx), (.int .u64 (↑r.ver : Int)), (.int .i64 r.count), (.slice N r.nums.length cn)]) ag28_6 rfl hb_g2) rfl rfl rfl ?_
  refine wl_step (or_call0 cl13 rfl rfl (wr8_write _ r xs hv _ _ X cx N cn hx hn hok.ok (by omega))) rfl rfl rfl ?_
  rintro v w4 ⟨A22, c22, rfl, ho22, he22⟩
  replace hx := RdI.ext hx he22
  replace hn := hn.ext he22
  replace hr := hr.ext he22
  replace hE := hE.tr he22
  replace hb_g2 := hb_g2.ext he22
  replace hb_g3 := hb_g3.ext he22
  have hz_he22 := he22.size
  have hq_ho22 := fun g e => Own.lt ho22 (g := g) e
  refine vm rfl rfl ?_
  iterate 2 refine vx rfl rfl rfl ?_
  refine wl_step (or_alloc (cs := [(.int .u8 0), (.slice none 0 0)]) ze34 rfl) rfl rfl rfl ?_
  rintro v w5 ⟨g5, rfl, hb_g5, he5, hl5, hu5⟩
  replace hx := RdI.ext hx he5
  replace hn := hn.ext he5
  replace hr := hr.ext he5
  replace hE := hE.tr he5
  replace hb_g2 := hb_g2.ext he5
  replace hb_g3 := hb_g3.ext he5
  replace ho22 := Own.ext ho22 he5
  have hz_he5 := he5.size
  refine wl_step0 (or_storeBlk (vs := [(.int .u8 (↑(wrR r).1.1.toNat : Int)), (.slice A22 (wrR r).1.2.length c22)]) sz34 rfl rfl (by simp [Value.oneCell']) hb_g5 rfl) rfl rfl ?_
  rintro _ w6 ⟨hN6, hg6⟩
  have hz_hg6 := hg6.size
  replace hx := RdI.gr hx hg6 (fun _ e => by cases e; omega)
  replace hn := hn.gr hg6 (fun _ e => by cases e; omega)
  replace hr := hr.gr hg6 (fun _ e => by cases e; omega)
  replace hE := hE.gr hg6 (fun _ e => by cases e; omega)
  replace hb_g2 := hb_g2.gr hg6 (by intro e; cases e; omega)
  replace hb_g3 := hb_g3.gr hg6 (by intro e; cases e; omega)
  replace ho22 := Own.gr ho22 hg6 (by first | exact .inl rfl | (right; intro e; first | (have := hq_ho22 _ e; omega) | (have := Own.lt ho22 e; omega) | exact own_blk_ne ho22 hb_g5 (by decide) e))
  replace hb_g5 := hN6
  refine va rfl rfl ?_
  refine q_nil (k_then (wc_seq (wc_seq (wc_regionL ?_))))
  refine vm rfl rfl ?_
  refine ve rfl rfl rfl ?_
  refine wl_case_d (d := 26) rfl (fun h26 => ?_) (fun h26 => ?_)
  · have h280 : (wrR r).2 = 0 := by omega
    obtain ⟨hrd, hwl⟩ := wr_rd h280
    refine wl_val (ov_loadBlk (cs := [(.int .i64 r.op), (.int .i64 r.err), (.slice X r.items.length cx), (.int .u64 (↑r.ver : Int)), (.int .i64 r.count), (.slice N r.nums.length cn)]) ag28_6 rfl hb_g2) rfl rfl rfl ?_
    refine wl_step (or_call0 cl21 rfl rfl (vd8_any _ r xs hv _ _ X cx N cn hx hn hok.ok (by omega))) rfl rfl rfl ?_
    rintro v w7 ⟨rfl, he28⟩
    replace hx := RdI.ext hx he28
    replace hn := hn.ext he28
    replace hr := hr.ext he28
    replace hE := hE.tr he28
    replace hb_g2 := hb_g2.ext he28
    replace hb_g3 := hb_g3.ext he28
    replace ho22 := Own.ext ho22 he28
    replace hb_g5 := hb_g5.ext he28
    have hz_he28 := he28.size
    refine wl_spell (d := 28) rfl (bt (h280)) ?_
    refine wl_val (ov_neb Try.underlying4 rfl rfl) rfl rfl rfl ?_
    refine wl_spell (d := 29) rfl (v' := (.bool false)) (rfl) ?_
    refine vm rfl rfl ?_
    refine wl_gval (ov_move rfl) rfl rfl rfl rfl rfl ?_
    refine wl_gval (ov_eql rfl rfl) rfl rfl rfl rfl rfl ?_
    refine wl_spell (d := 32) rfl (bt (h26)) ?_
    refine wl_gval (ov_move rfl) rfl rfl rfl rfl rfl ?_
    refine wl_gval (ov_loadBlk (cs := [(.int .u8 (↑(wrR r).1.1.toNat : Int)), (.slice A22 (wrR r).1.2.length c22)]) ag34_2 rfl hb_g5) rfl rfl rfl rfl rfl ?_
    refine wl_gval (ov_loadBlk (cs := [(.int .i64 r.op), (.int .i64 r.err), (.slice X r.items.length cx), (.int .u64 (↑r.ver : Int)), (.int .i64 r.count), (.slice N r.nums.length cn)]) ag28_6 rfl hb_g2) rfl rfl rfl rfl rfl ?_
    refine wl_gstep (or_call0 cl19 rfl rfl (lr8 _ _ _ ((wrR r).1.1) A22 c22 (wrR r).1.2 (OwnB.rd ho22) (by omega) r xs hv _ _ X cx N cn hx hn 0 _ (by rfl) hrd)) rfl rfl rfl rfl rfl ?_
    rintro v w8 ⟨rfl, he36⟩
    replace hx := RdI.ext hx he36
    replace hn := hn.ext he36
    replace hr := hr.ext he36
    replace hE := hE.tr he36
    replace hb_g2 := hb_g2.ext he36
    replace hb_g3 := hb_g3.ext he36
    replace ho22 := Own.ext ho22 he36
    replace hb_g5 := hb_g5.ext he36
    have hz_he36 := he36.size
    refine wl_gval (ov_not (b := true) rfl) rfl rfl rfl rfl rfl ?_
    refine wl_gval (ov_pick_t rfl rfl) rfl rfl rfl rfl rfl ?_
    refine wl_val (ov_pick_f rfl rfl) rfl rfl rfl ?_
    refine q_nil (k_then ?_)
    refine wc_cond_f rfl ?_
    refine q_skip (k_then (wc_seq (wc_regionL ?_)))
    refine wl_val (ov_loadBlk (cs := [(.int .u8 (↑x.toNat : Int)), (.slice A l.length c)]) ag34_2 rfl hb_g3) rfl rfl rfl ?_
    refine wl_step (or_call0 cl20 rfl rfl (rd8_read _ x ((x.toNat : Int) - 64) rfl _ _ A c l hr (by first | omega | decide | (simp; done)))) rfl rfl rfl ?_
    rintro v w9 ⟨X42, cx42, N42, cn42, xs42, rfl, hv42, hx42, hn42, he42⟩
    replace hx := RdI.ext hx he42
    replace hn := hn.ext he42
    replace hr := hr.ext he42
    replace hE := hE.tr he42
    replace hb_g2 := hb_g2.ext he42
    replace hb_g3 := hb_g3.ext he42
    replace ho22 := Own.ext ho22 he42
    replace hb_g5 := hb_g5.ext he42
    have hz_he42 := he42.size
    refine vm rfl rfl ?_
    iterate 2 refine vx rfl rfl rfl ?_
    refine wl_step (or_alloc (cs := [(.int .i64 0), (.int .i64 0), (.slice none 0 0), (.int .u64 0), (.int .i64 0), (.slice none 0 0)]) ze28 rfl) rfl rfl rfl ?_
    rintro v w10 ⟨g7, rfl, hb_g7, he7, hl7, hu7⟩
    replace hx := RdI.ext hx he7
    replace hn := hn.ext he7
    replace hr := hr.ext he7
    replace hE := hE.tr he7
    replace hb_g2 := hb_g2.ext he7
    replace hb_g3 := hb_g3.ext he7
    replace ho22 := Own.ext ho22 he7
    replace hb_g5 := hb_g5.ext he7
    replace hx42 := RdI.ext hx42 he7
    replace hn42 := hn42.ext he7
    have hz_he7 := he7.size
    refine wl_step0 (or_storeBlk (vs := [(.int .i64 (rdR ((x.toNat : Int) - 64) l).1.op), (.int .i64 (rdR ((x.toNat : Int) - 64) l).1.err), (.slice X42 (rdR ((x.toNat : Int) - 64) l).1.items.length cx42), (.int .u64 (↑(rdR ((x.toNat : Int) - 64) l).1.ver : Int)), (.int .i64 (rdR ((x.toNat : Int) - 64) l).1.count), (.slice N42 (rdR ((x.toNat : Int) - 64) l).1.nums.length cn42)]) sz28 rfl rfl (by simp [Value.oneCell']) hb_g7 rfl) rfl rfl ?_
    rintro _ w11 ⟨hN11, hg11⟩
    have hz_hg11 := hg11.size
    replace hx := RdI.gr hx hg11 (fun _ e => by cases e; omega)
    replace hn := hn.gr hg11 (fun _ e => by cases e; omega)
    replace hr := hr.gr hg11 (fun _ e => by cases e; omega)
    replace hE := hE.gr hg11 (fun _ e => by cases e; omega)
    replace hb_g2 := hb_g2.gr hg11 (by intro e; cases e; omega)
    replace hb_g3 := hb_g3.gr hg11 (by intro e; cases e; omega)
    replace ho22 := Own.gr ho22 hg11 (by first | exact .inl rfl | (right; intro e; first | (have := hq_ho22 _ e; omega) | (have := Own.lt ho22 e; omega) | exact own_blk_ne ho22 hb_g7 (by decide) e))
    replace hb_g5 := hb_g5.gr hg11 (by intro e; cases e; omega)
    replace hx42 := RdI.gr hx42 hg11 (fun _ e => by cases e; omega)
    replace hn42 := hn42.gr hg11 (fun _ e => by cases e; omega)
    replace hb_g7 := hN11
    refine va rfl rfl ?_
    refine q_nil (k_then (wc_seq (wc_seq (wc_regionL ?_))))
    refine vm rfl rfl ?_
    refine ve rfl rfl rfl ?_
    refine wl_case_d (d := 46) rfl (fun h46 => ?_) (fun h46 => ?_)
    · have h460 : (rdR ((x.toNat : Int) - 64) l).2 = 0 := by omega
      have hrw := rd_wr h460
      have hrs := hrw.sz
      have hr1 := hrw.o1
      refine vm rfl rfl ?_
      refine wl_gval (ov_loadBlk (cs := [(.int .i64 (rdR ((x.toNat : Int) - 64) l).1.op), (.int .i64 (rdR ((x.toNat : Int) - 64) l).1.err), (.slice X42 (rdR ((x.toNat : Int) - 64) l).1.items.length cx42), (.int .u64 (↑(rdR ((x.toNat : Int) - 64) l).1.ver : Int)), (.int .i64 (rdR ((x.toNat : Int) - 64) l).1.count), (.slice N42 (rdR ((x.toNat : Int) - 64) l).1.nums.length cn42)]) ag28_6 rfl hb_g7) rfl rfl rfl rfl rfl ?_
      refine wl_gstep (or_call0 cl21 rfl rfl (vd8_any _ (rdR ((x.toNat : Int) - 64) l).1 xs42 hv42 _ _ X42 cx42 N42 cn42 hx42 hn42 hrw.ok (by omega))) rfl rfl rfl rfl rfl ?_
      rintro v w12 ⟨rfl, he49⟩
      replace hx := RdI.ext hx he49
      replace hn := hn.ext he49
      replace hr := hr.ext he49
      replace hE := hE.tr he49
      replace hb_g2 := hb_g2.ext he49
      replace hb_g3 := hb_g3.ext he49
      replace ho22 := Own.ext ho22 he49
      replace hb_g5 := hb_g5.ext he49
      replace hx42 := RdI.ext hx42 he49
      replace hn42 := hn42.ext he49
      replace hb_g7 := hb_g7.ext he49
      have hz_he49 := he49.size
      refine wl_spell (d := 49) rfl (bt (by rw [wrR_ok hrw.wr])) ?_
      refine wl_gval (ov_not (b := true) rfl) rfl rfl rfl rfl rfl ?_
      refine wl_gval (ov_move rfl) rfl rfl rfl rfl rfl ?_
      refine wl_gval (ov_loadBlk (cs := [(.int .i64 (rdR ((x.toNat : Int) - 64) l).1.op), (.int .i64 (rdR ((x.toNat : Int) - 64) l).1.err), (.slice X42 (rdR ((x.toNat : Int) - 64) l).1.items.length cx42), (.int .u64 (↑(rdR ((x.toNat : Int) - 64) l).1.ver : Int)), (.int .i64 (rdR ((x.toNat : Int) - 64) l).1.count), (.slice N42 (rdR ((x.toNat : Int) - 64) l).1.nums.length cn42)]) ag28_6 rfl hb_g7) rfl rfl rfl rfl rfl ?_
      refine wl_gval (ov_loadBlk (cs := [(.int .u8 (↑x.toNat : Int)), (.slice A l.length c)]) ag34_2 rfl hb_g3) rfl rfl rfl rfl rfl ?_
      refine wl_gstep (or_call0 cl11 rfl rfl (lw8 _ (rdR ((x.toNat : Int) - 64) l).1 xs42 hv42 _ _ X42 cx42 N42 cn42 hx42 hn42 _ _ (x) A c l hr 0 _ (by rfl) hrw.ok (by omega) (rd_wr_eq h460))) rfl rfl rfl rfl rfl ?_
      rintro v w13 ⟨rfl, he54⟩
      replace hx := RdI.ext hx he54
      replace hn := hn.ext he54
      replace hr := hr.ext he54
      replace hE := hE.tr he54
      replace hb_g2 := hb_g2.ext he54
      replace hb_g3 := hb_g3.ext he54
      replace ho22 := Own.ext ho22 he54
      replace hb_g5 := hb_g5.ext he54
      replace hx42 := RdI.ext hx42 he54
      replace hn42 := hn42.ext he54
      replace hb_g7 := hb_g7.ext he54
      have hz_he54 := he54.size
      refine wl_gval (ov_not (b := true) rfl) rfl rfl rfl rfl rfl ?_
      refine wl_gval (ov_pick_f rfl rfl) rfl rfl rfl rfl rfl ?_
      refine wl_val (ov_pick_t rfl rfl) rfl rfl rfl ?_
      refine q_nil (k_then ?_)
      refine wc_cond_f rfl ?_
      refine q_skip (k_then (wc_seq (wc_regionL ?_)))
      refine wl_val (ov_loadBlk (cs := [(.int .u8 (↑x.toNat : Int)), (.slice A l.length c)]) ag34_2 rfl hb_g3) rfl rfl rfl ?_
      refine wl_step (or_call0 cl24 rfl rfl (rread_any _ x _ _ A c l hr (by first | omega | decide | (simp; done)))) rfl rfl rfl ?_
      rintro v w14 ⟨K60, ck60, V60, cv60, T60, ct60, rfl, hK60, hV60, hT60, he60⟩
      replace hx := RdI.ext hx he60
      replace hn := hn.ext he60
      replace hr := hr.ext he60
      replace hE := hE.tr he60
      replace hb_g2 := hb_g2.ext he60
      replace hb_g3 := hb_g3.ext he60
      replace ho22 := Own.ext ho22 he60
      replace hb_g5 := hb_g5.ext he60
      replace hx42 := RdI.ext hx42 he60
      replace hn42 := hn42.ext he60
      replace hb_g7 := hb_g7.ext he60
      have hz_he60 := he60.size
      refine vm rfl rfl ?_
      iterate 2 refine vx rfl rfl rfl ?_
      refine wl_step (or_alloc (cs := [(.int .i64 0), (.string (strB [])), (.slice none 0 0), (.slice none 0 0), (.slice none 0 0), (.int .u64 0), (.int .u64 0), (.string (strB [])), (.string (strB [])), (.string (strB []))]) ze58 rfl) rfl rfl rfl ?_
      rintro v w15 ⟨g8, rfl, hb_g8, he8, hl8, hu8⟩
      replace hx := RdI.ext hx he8
      replace hn := hn.ext he8
      replace hr := hr.ext he8
      replace hE := hE.tr he8
      replace hb_g2 := hb_g2.ext he8
      replace hb_g3 := hb_g3.ext he8
      replace ho22 := Own.ext ho22 he8
      replace hb_g5 := hb_g5.ext he8
      replace hx42 := RdI.ext hx42 he8
      replace hn42 := hn42.ext he8
      replace hb_g7 := hb_g7.ext he8
      replace hK60 := hK60.ext he8
      replace hV60 := hV60.ext he8
      replace hT60 := hT60.ext he8
      have hz_he8 := he8.size
      refine wl_step0 (or_storeBlk (vs := [(.int .i64 (rdC x l).1.op), (.string (strB (rdC x l).1.key)), (.slice K60 (rdC x l).1.keys.length ck60), (.slice V60 (rdC x l).1.value.length cv60), (.slice T60 (rdC x l).1.tags.length ct60), (.int .u64 (↑(rdC x l).1.life : Int)), (.int .u64 (↑(rdC x l).1.ver : Int)), (.string (strB (rdC x l).1.tag)), (.string (strB (rdC x l).1.pre)), (.string (strB (rdC x l).1.child))]) sz58 rfl rfl (by simp [Value.oneCell']) hb_g8 rfl) rfl rfl ?_
      rintro _ w16 ⟨hN16, hg16⟩
      have hz_hg16 := hg16.size
      replace hx := RdI.gr hx hg16 (fun _ e => by cases e; omega)
      replace hn := hn.gr hg16 (fun _ e => by cases e; omega)
      replace hr := hr.gr hg16 (fun _ e => by cases e; omega)
      replace hE := hE.gr hg16 (fun _ e => by cases e; omega)
      replace hb_g2 := hb_g2.gr hg16 (by intro e; cases e; omega)
      replace hb_g3 := hb_g3.gr hg16 (by intro e; cases e; omega)
      replace ho22 := Own.gr ho22 hg16 (by first | exact .inl rfl | (right; intro e; first | (have := hq_ho22 _ e; omega) | (have := Own.lt ho22 e; omega) | exact own_blk_ne ho22 hb_g8 (by decide) e))
      replace hb_g5 := hb_g5.gr hg16 (by intro e; cases e; omega)
      replace hx42 := RdI.gr hx42 hg16 (fun _ e => by cases e; omega)
      replace hn42 := hn42.gr hg16 (fun _ e => by cases e; omega)
      replace hb_g7 := hb_g7.gr hg16 (by intro e; cases e; omega)
      replace hK60 := hK60.gr hg16 (fun _ e => by cases e; omega)
      replace hV60 := hV60.gr hg16 (fun _ e => by cases e; omega)
      replace hT60 := hT60.gr hg16 (fun _ e => by cases e; omega)
      replace hb_g8 := hN16
      refine va rfl rfl ?_
      refine q_nil (k_then (wc_seq (wc_regionL ?_)))
      refine vm rfl rfl ?_
      refine wl_val (ov_neq rfl rfl) rfl rfl rfl ?_
      refine wl_spell (d := 64) rfl (bf (by omega)) ?_
      refine vm rfl rfl ?_
      refine wl_gval (ov_move rfl) rfl rfl rfl rfl rfl ?_
      refine wl_gval (ov_neq rfl rfl) rfl rfl rfl rfl rfl ?_
      refine wl_spell (d := 67) rfl (bt (by rw [rdC_bad (by rintro ⟨_, h, _⟩; omega)]; decide)) ?_
      refine wl_val (ov_pick_f rfl rfl) rfl rfl rfl ?_
      refine vm rfl rfl ?_
      refine wl_gstep (or_call0 cl9 rfl rfl (known08_any _)) rfl rfl rfl rfl rfl ?_
      rintro v w17 ⟨rfl, he70⟩
      replace hx := RdI.ext hx he70
      replace hn := hn.ext he70
      replace hr := hr.ext he70
      replace hE := hE.tr he70
      replace hb_g2 := hb_g2.ext he70
      replace hb_g3 := hb_g3.ext he70
      replace ho22 := Own.ext ho22 he70
      replace hb_g5 := hb_g5.ext he70
      replace hx42 := RdI.ext hx42 he70
      replace hn42 := hn42.ext he70
      replace hb_g7 := hb_g7.ext he70
      replace hK60 := hK60.ext he70
      replace hV60 := hV60.ext he70
      replace hT60 := hT60.ext he70
      replace hb_g8 := hb_g8.ext he70
      have hz_he70 := he70.size
      refine wl_val (ov_pick_t rfl rfl) rfl rfl rfl ?_
      refine va rfl rfl ?_
      refine q_nil (k_then (q_ret ?_))
      refine e_ret rfl rfl ?_
      exact ⟨rfl, hE⟩
    · refine vm rfl rfl ?_
      iterate 4 refine wl_gskip rfl rfl rfl rfl rfl rfl ?_
      iterate 4 refine wl_gskipU rfl rfl rfl rfl rfl ?_
      refine wl_gskip rfl rfl rfl rfl rfl rfl ?_
      refine wl_val (ov_pick_f rfl rfl) rfl rfl rfl ?_
      refine q_nil (k_then ?_)
      refine wc_cond_f rfl ?_
      refine q_skip (k_then (wc_seq (wc_regionL ?_)))
      refine wl_val (ov_loadBlk (cs := [(.int .u8 (↑x.toNat : Int)), (.slice A l.length c)]) ag34_2 rfl hb_g3) rfl rfl rfl ?_
      refine wl_step (or_call0 cl24 rfl rfl (rread_any _ x _ _ A c l hr (by first | omega | decide | (simp; done)))) rfl rfl rfl ?_
      rintro v w212 ⟨K60, ck60, V60, cv60, T60, ct60, rfl, hK60, hV60, hT60, he60⟩
      replace hx := RdI.ext hx he60
      replace hn := hn.ext he60
      replace hr := hr.ext he60
      replace hE := hE.tr he60
      replace hb_g2 := hb_g2.ext he60
      replace hb_g3 := hb_g3.ext he60
      replace ho22 := Own.ext ho22 he60
      replace hb_g5 := hb_g5.ext he60
      replace hx42 := RdI.ext hx42 he60
      replace hn42 := hn42.ext he60
      replace hb_g7 := hb_g7.ext he60
      have hz_he60 := he60.size
      refine vm rfl rfl ?_
      iterate 2 refine vx rfl rfl rfl ?_
      refine wl_step (or_alloc (cs := [(.int .i64 0), (.string (strB [])), (.slice none 0 0), (.slice none 0 0), (.slice none 0 0), (.int .u64 0), (.int .u64 0), (.string (strB [])), (.string (strB [])), (.string (strB []))]) ze58 rfl) rfl rfl rfl ?_
      rintro v w213 ⟨g8, rfl, hb_g8, he8, hl8, hu8⟩
      replace hx := RdI.ext hx he8
      replace hn := hn.ext he8
      replace hr := hr.ext he8
      replace hE := hE.tr he8
      replace hb_g2 := hb_g2.ext he8
      replace hb_g3 := hb_g3.ext he8
      replace ho22 := Own.ext ho22 he8
      replace hb_g5 := hb_g5.ext he8
      replace hx42 := RdI.ext hx42 he8
      replace hn42 := hn42.ext he8
      replace hb_g7 := hb_g7.ext he8
      replace hK60 := hK60.ext he8
      replace hV60 := hV60.ext he8
      replace hT60 := hT60.ext he8
      have hz_he8 := he8.size
      refine wl_step0 (or_storeBlk (vs := [(.int .i64 (rdC x l).1.op), (.string (strB (rdC x l).1.key)), (.slice K60 (rdC x l).1.keys.length ck60), (.slice V60 (rdC x l).1.value.length cv60), (.slice T60 (rdC x l).1.tags.length ct60), (.int .u64 (↑(rdC x l).1.life : Int)), (.int .u64 (↑(rdC x l).1.ver : Int)), (.string (strB (rdC x l).1.tag)), (.string (strB (rdC x l).1.pre)), (.string (strB (rdC x l).1.child))]) sz58 rfl rfl (by simp [Value.oneCell']) hb_g8 rfl) rfl rfl ?_
      rintro _ w214 ⟨hN214, hg214⟩
      have hz_hg214 := hg214.size
      replace hx := RdI.gr hx hg214 (fun _ e => by cases e; omega)
      replace hn := hn.gr hg214 (fun _ e => by cases e; omega)
      replace hr := hr.gr hg214 (fun _ e => by cases e; omega)
      replace hE := hE.gr hg214 (fun _ e => by cases e; omega)
      replace hb_g2 := hb_g2.gr hg214 (by intro e; cases e; omega)
      replace hb_g3 := hb_g3.gr hg214 (by intro e; cases e; omega)
      replace ho22 := Own.gr ho22 hg214 (by first | exact .inl rfl | (right; intro e; first | (have := hq_ho22 _ e; omega) | (have := Own.lt ho22 e; omega) | exact own_blk_ne ho22 hb_g8 (by decide) e))
      replace hb_g5 := hb_g5.gr hg214 (by intro e; cases e; omega)
      replace hx42 := RdI.gr hx42 hg214 (fun _ e => by cases e; omega)
      replace hn42 := hn42.gr hg214 (fun _ e => by cases e; omega)
      replace hb_g7 := hb_g7.gr hg214 (by intro e; cases e; omega)
      replace hK60 := hK60.gr hg214 (fun _ e => by cases e; omega)
      replace hV60 := hV60.gr hg214 (fun _ e => by cases e; omega)
      replace hT60 := hT60.gr hg214 (fun _ e => by cases e; omega)
      replace hb_g8 := hN214
      refine va rfl rfl ?_
      refine q_nil (k_then (wc_seq (wc_regionL ?_)))
      refine vm rfl rfl ?_
      refine wl_val (ov_neq rfl rfl) rfl rfl rfl ?_
      refine wl_spell (d := 64) rfl (bt (by omega)) ?_
      refine vm rfl rfl ?_
      iterate 2 refine wl_gskip rfl rfl rfl rfl rfl rfl ?_
      refine wl_val (ov_pick_t rfl rfl) rfl rfl rfl ?_
      refine vm rfl rfl ?_
      refine wl_gstep (or_call0 cl9 rfl rfl (known08_any _)) rfl rfl rfl rfl rfl ?_
      rintro v w215 ⟨rfl, he70⟩
      replace hx := RdI.ext hx he70
      replace hn := hn.ext he70
      replace hr := hr.ext he70
      replace hE := hE.tr he70
      replace hb_g2 := hb_g2.ext he70
      replace hb_g3 := hb_g3.ext he70
      replace ho22 := Own.ext ho22 he70
      replace hb_g5 := hb_g5.ext he70
      replace hx42 := RdI.ext hx42 he70
      replace hn42 := hn42.ext he70
      replace hb_g7 := hb_g7.ext he70
      replace hK60 := hK60.ext he70
      replace hV60 := hV60.ext he70
      replace hT60 := hT60.ext he70
      replace hb_g8 := hb_g8.ext he70
      have hz_he70 := he70.size
      refine wl_val (ov_pick_t rfl rfl) rfl rfl rfl ?_
      refine va rfl rfl ?_
      refine q_nil (k_then (q_ret ?_))
      refine e_ret rfl rfl ?_
      exact ⟨rfl, hE⟩
  · have h280 : ¬ (wrR r).2 = 0 := by omega
    refine wl_val (ov_loadBlk (cs := [(.int .i64 r.op), (.int .i64 r.err), (.slice X r.items.length cx), (.int .u64 (↑r.ver : Int)), (.int .i64 r.count), (.slice N r.nums.length cn)]) ag28_6 rfl hb_g2) rfl rfl rfl ?_
    refine wl_step (or_call0 cl21 rfl rfl (vd8_any _ r xs hv _ _ X cx N cn hx hn hok.ok (by omega))) rfl rfl rfl ?_
    rintro v w207 ⟨rfl, he28⟩
    replace hx := RdI.ext hx he28
    replace hn := hn.ext he28
    replace hr := hr.ext he28
    replace hE := hE.tr he28
    replace hb_g2 := hb_g2.ext he28
    replace hb_g3 := hb_g3.ext he28
    replace ho22 := Own.ext ho22 he28
    replace hb_g5 := hb_g5.ext he28
    have hz_he28 := he28.size
    refine wl_spell (d := 28) rfl (bf (h280)) ?_
    refine wl_val (ov_neb Try.underlying4 rfl rfl) rfl rfl rfl ?_
    refine wl_spell (d := 29) rfl (v' := (.bool false)) (rfl) ?_
    refine vm rfl rfl ?_
    refine wl_gval (ov_move rfl) rfl rfl rfl rfl rfl ?_
    refine wl_gval (ov_eql rfl rfl) rfl rfl rfl rfl rfl ?_
    refine wl_spell (d := 32) rfl (bf (h26)) ?_
    refine wl_gval (ov_move rfl) rfl rfl rfl rfl rfl ?_
    iterate 4 refine wl_gskip rfl rfl rfl rfl rfl rfl ?_
    refine wl_gval (ov_pick_f rfl rfl) rfl rfl rfl rfl rfl ?_
    refine wl_val (ov_pick_f rfl rfl) rfl rfl rfl ?_
    refine q_nil (k_then ?_)
    refine wc_cond_f rfl ?_
    refine q_skip (k_then (wc_seq (wc_regionL ?_)))
    refine wl_val (ov_loadBlk (cs := [(.int .u8 (↑x.toNat : Int)), (.slice A l.length c)]) ag34_2 rfl hb_g3) rfl rfl rfl ?_
    refine wl_step (or_call0 cl20 rfl rfl (rd8_read _ x ((x.toNat : Int) - 64) rfl _ _ A c l hr (by first | omega | decide | (simp; done)))) rfl rfl rfl ?_
    rintro v w208 ⟨X42, cx42, N42, cn42, xs42, rfl, hv42, hx42, hn42, he42⟩
    replace hx := RdI.ext hx he42
    replace hn := hn.ext he42
    replace hr := hr.ext he42
    replace hE := hE.tr he42
    replace hb_g2 := hb_g2.ext he42
    replace hb_g3 := hb_g3.ext he42
    replace ho22 := Own.ext ho22 he42
    replace hb_g5 := hb_g5.ext he42
    have hz_he42 := he42.size
    refine vm rfl rfl ?_
    iterate 2 refine vx rfl rfl rfl ?_
    refine wl_step (or_alloc (cs := [(.int .i64 0), (.int .i64 0), (.slice none 0 0), (.int .u64 0), (.int .i64 0), (.slice none 0 0)]) ze28 rfl) rfl rfl rfl ?_
    rintro v w209 ⟨g7, rfl, hb_g7, he7, hl7, hu7⟩
    replace hx := RdI.ext hx he7
    replace hn := hn.ext he7
    replace hr := hr.ext he7
    replace hE := hE.tr he7
    replace hb_g2 := hb_g2.ext he7
    replace hb_g3 := hb_g3.ext he7
    replace ho22 := Own.ext ho22 he7
    replace hb_g5 := hb_g5.ext he7
    replace hx42 := RdI.ext hx42 he7
    replace hn42 := hn42.ext he7
    have hz_he7 := he7.size
    refine wl_step0 (or_storeBlk (vs := [(.int .i64 (rdR ((x.toNat : Int) - 64) l).1.op), (.int .i64 (rdR ((x.toNat : Int) - 64) l).1.err), (.slice X42 (rdR ((x.toNat : Int) - 64) l).1.items.length cx42), (.int .u64 (↑(rdR ((x.toNat : Int) - 64) l).1.ver : Int)), (.int .i64 (rdR ((x.toNat : Int) - 64) l).1.count), (.slice N42 (rdR ((x.toNat : Int) - 64) l).1.nums.length cn42)]) sz28 rfl rfl (by simp [Value.oneCell']) hb_g7 rfl) rfl rfl ?_
    rintro _ w210 ⟨hN210, hg210⟩
    have hz_hg210 := hg210.size
    replace hx := RdI.gr hx hg210 (fun _ e => by cases e; omega)
    replace hn := hn.gr hg210 (fun _ e => by cases e; omega)
    replace hr := hr.gr hg210 (fun _ e => by cases e; omega)
    replace hE := hE.gr hg210 (fun _ e => by cases e; omega)
    replace hb_g2 := hb_g2.gr hg210 (by intro e; cases e; omega)
    replace hb_g3 := hb_g3.gr hg210 (by intro e; cases e; omega)
    replace ho22 := Own.gr ho22 hg210 (by first | exact .inl rfl | (right; intro e; first | (have := hq_ho22 _ e; omega) | (have := Own.lt ho22 e; omega) | exact own_blk_ne ho22 hb_g7 (by decide) e))
    replace hb_g5 := hb_g5.gr hg210 (by intro e; cases e; omega)
    replace hx42 := RdI.gr hx42 hg210 (fun _ e => by cases e; omega)
    replace hn42 := hn42.gr hg210 (fun _ e => by cases e; omega)
    replace hb_g7 := hN210
    refine va rfl rfl ?_
    refine q_nil (k_then (wc_seq (wc_seq (wc_regionL ?_))))
    refine vm rfl rfl ?_
    refine ve rfl rfl rfl ?_
    refine wl_case_d (d := 46) rfl (fun h46 => ?_) (fun h46 => ?_)
    · have h460 : (rdR ((x.toNat : Int) - 64) l).2 = 0 := by omega
      have hrw := rd_wr h460
      have hrs := hrw.sz
      have hr1 := hrw.o1
      refine vm rfl rfl ?_
      refine wl_gval (ov_loadBlk (cs := [(.int .i64 (rdR ((x.toNat : Int) - 64) l).1.op), (.int .i64 (rdR ((x.toNat : Int) - 64) l).1.err), (.slice X42 (rdR ((x.toNat : Int) - 64) l).1.items.length cx42), (.int .u64 (↑(rdR ((x.toNat : Int) - 64) l).1.ver : Int)), (.int .i64 (rdR ((x.toNat : Int) - 64) l).1.count), (.slice N42 (rdR ((x.toNat : Int) - 64) l).1.nums.length cn42)]) ag28_6 rfl hb_g7) rfl rfl rfl rfl rfl ?_
      refine wl_gstep (or_call0 cl21 rfl rfl (vd8_any _ (rdR ((x.toNat : Int) - 64) l).1 xs42 hv42 _ _ X42 cx42 N42 cn42 hx42 hn42 hrw.ok (by omega))) rfl rfl rfl rfl rfl ?_
      rintro v w211 ⟨rfl, he49⟩
      replace hx := RdI.ext hx he49
      replace hn := hn.ext he49
      replace hr := hr.ext he49
      replace hE := hE.tr he49
      replace hb_g2 := hb_g2.ext he49
      replace hb_g3 := hb_g3.ext he49
      replace ho22 := Own.ext ho22 he49
      replace hb_g5 := hb_g5.ext he49
      replace hx42 := RdI.ext hx42 he49
      replace hn42 := hn42.ext he49
      replace hb_g7 := hb_g7.ext he49
      have hz_he49 := he49.size
      refine wl_spell (d := 49) rfl (bt (by rw [wrR_ok hrw.wr])) ?_
      refine wl_gval (ov_not (b := true) rfl) rfl rfl rfl rfl rfl ?_
      refine wl_gval (ov_move rfl) rfl rfl rfl rfl rfl ?_
      refine wl_gval (ov_loadBlk (cs := [(.int .i64 (rdR ((x.toNat : Int) - 64) l).1.op), (.int .i64 (rdR ((x.toNat : Int) - 64) l).1.err), (.slice X42 (rdR ((x.toNat : Int) - 64) l).1.items.length cx42), (.int .u64 (↑(rdR ((x.toNat : Int) - 64) l).1.ver : Int)), (.int .i64 (rdR ((x.toNat : Int) - 64) l).1.count), (.slice N42 (rdR ((x.toNat : Int) - 64) l).1.nums.length cn42)]) ag28_6 rfl hb_g7) rfl rfl rfl rfl rfl ?_
      refine wl_gval (ov_loadBlk (cs := [(.int .u8 (↑x.toNat : Int)), (.slice A l.length c)]) ag34_2 rfl hb_g3) rfl rfl rfl rfl rfl ?_
      refine wl_gstep (or_call0 cl11 rfl rfl (lw8 _ (rdR ((x.toNat : Int) - 64) l).1 xs42 hv42 _ _ X42 cx42 N42 cn42 hx42 hn42 _ _ (x) A c l hr 0 _ (by rfl) hrw.ok (by omega) (rd_wr_eq h460))) rfl rfl rfl rfl rfl ?_
      rintro v w212 ⟨rfl, he54⟩
      replace hx := RdI.ext hx he54
      replace hn := hn.ext he54
      replace hr := hr.ext he54
      replace hE := hE.tr he54
      replace hb_g2 := hb_g2.ext he54
      replace hb_g3 := hb_g3.ext he54
      replace ho22 := Own.ext ho22 he54
      replace hb_g5 := hb_g5.ext he54
      replace hx42 := RdI.ext hx42 he54
      replace hn42 := hn42.ext he54
      replace hb_g7 := hb_g7.ext he54
      have hz_he54 := he54.size
      refine wl_gval (ov_not (b := true) rfl) rfl rfl rfl rfl rfl ?_
      refine wl_gval (ov_pick_f rfl rfl) rfl rfl rfl rfl rfl ?_
      refine wl_val (ov_pick_t rfl rfl) rfl rfl rfl ?_
      refine q_nil (k_then ?_)
      refine wc_cond_f rfl ?_
      refine q_skip (k_then (wc_seq (wc_regionL ?_)))
      refine wl_val (ov_loadBlk (cs := [(.int .u8 (↑x.toNat : Int)), (.slice A l.length c)]) ag34_2 rfl hb_g3) rfl rfl rfl ?_
      refine wl_step (or_call0 cl24 rfl rfl (rread_any _ x _ _ A c l hr (by first | omega | decide | (simp; done)))) rfl rfl rfl ?_
      rintro v w213 ⟨K60, ck60, V60, cv60, T60, ct60, rfl, hK60, hV60, hT60, he60⟩
      replace hx := RdI.ext hx he60
      replace hn := hn.ext he60
      replace hr := hr.ext he60
      replace hE := hE.tr he60
      replace hb_g2 := hb_g2.ext he60
      replace hb_g3 := hb_g3.ext he60
      replace ho22 := Own.ext ho22 he60
      replace hb_g5 := hb_g5.ext he60
      replace hx42 := RdI.ext hx42 he60
      replace hn42 := hn42.ext he60
      replace hb_g7 := hb_g7.ext he60
      have hz_he60 := he60.size
      refine vm rfl rfl ?_
      iterate 2 refine vx rfl rfl rfl ?_
      refine wl_step (or_alloc (cs := [(.int .i64 0), (.string (strB [])), (.slice none 0 0), (.slice none 0 0), (.slice none 0 0), (.int .u64 0), (.int .u64 0), (.string (strB [])), (.string (strB [])), (.string (strB []))]) ze58 rfl) rfl rfl rfl ?_
      rintro v w214 ⟨g8, rfl, hb_g8, he8, hl8, hu8⟩
      replace hx := RdI.ext hx he8
      replace hn := hn.ext he8
      replace hr := hr.ext he8
      replace hE := hE.tr he8
      replace hb_g2 := hb_g2.ext he8
      replace hb_g3 := hb_g3.ext he8
      replace ho22 := Own.ext ho22 he8
      replace hb_g5 := hb_g5.ext he8
      replace hx42 := RdI.ext hx42 he8
      replace hn42 := hn42.ext he8
      replace hb_g7 := hb_g7.ext he8
      replace hK60 := hK60.ext he8
      replace hV60 := hV60.ext he8
      replace hT60 := hT60.ext he8
      have hz_he8 := he8.size
      refine wl_step0 (or_storeBlk (vs := [(.int .i64 (rdC x l).1.op), (.string (strB (rdC x l).1.key)), (.slice K60 (rdC x l).1.keys.length ck60), (.slice V60 (rdC x l).1.value.length cv60), (.slice T60 (rdC x l).1.tags.length ct60), (.int .u64 (↑(rdC x l).1.life : Int)), (.int .u64 (↑(rdC x l).1.ver : Int)), (.string (strB (rdC x l).1.tag)), (.string (strB (rdC x l).1.pre)), (.string (strB (rdC x l).1.child))]) sz58 rfl rfl (by simp [Value.oneCell']) hb_g8 rfl) rfl rfl ?_
      rintro _ w215 ⟨hN215, hg215⟩
      have hz_hg215 := hg215.size
      replace hx := RdI.gr hx hg215 (fun _ e => by cases e; omega)
      replace hn := hn.gr hg215 (fun _ e => by cases e; omega)
      replace hr := hr.gr hg215 (fun _ e => by cases e; omega)
      replace hE := hE.gr hg215 (fun _ e => by cases e; omega)
      replace hb_g2 := hb_g2.gr hg215 (by intro e; cases e; omega)
      replace hb_g3 := hb_g3.gr hg215 (by intro e; cases e; omega)
      replace ho22 := Own.gr ho22 hg215 (by first | exact .inl rfl | (right; intro e; first | (have := hq_ho22 _ e; omega) | (have := Own.lt ho22 e; omega) | exact own_blk_ne ho22 hb_g8 (by decide) e))
      replace hb_g5 := hb_g5.gr hg215 (by intro e; cases e; omega)
      replace hx42 := RdI.gr hx42 hg215 (fun _ e => by cases e; omega)
      replace hn42 := hn42.gr hg215 (fun _ e => by cases e; omega)
      replace hb_g7 := hb_g7.gr hg215 (by intro e; cases e; omega)
      replace hK60 := hK60.gr hg215 (fun _ e => by cases e; omega)
      replace hV60 := hV60.gr hg215 (fun _ e => by cases e; omega)
      replace hT60 := hT60.gr hg215 (fun _ e => by cases e; omega)
      replace hb_g8 := hN215
      refine va rfl rfl ?_
      refine q_nil (k_then (wc_seq (wc_regionL ?_)))
      refine vm rfl rfl ?_
      refine wl_val (ov_neq rfl rfl) rfl rfl rfl ?_
      refine wl_spell (d := 64) rfl (bf (by omega)) ?_
      refine vm rfl rfl ?_
      refine wl_gval (ov_move rfl) rfl rfl rfl rfl rfl ?_
      refine wl_gval (ov_neq rfl rfl) rfl rfl rfl rfl rfl ?_
      refine wl_spell (d := 67) rfl (bt (by rw [rdC_bad (by rintro ⟨_, h, _⟩; omega)]; decide)) ?_
      refine wl_val (ov_pick_f rfl rfl) rfl rfl rfl ?_
      refine vm rfl rfl ?_
      refine wl_gstep (or_call0 cl9 rfl rfl (known08_any _)) rfl rfl rfl rfl rfl ?_
      rintro v w216 ⟨rfl, he70⟩
      replace hx := RdI.ext hx he70
      replace hn := hn.ext he70
      replace hr := hr.ext he70
      replace hE := hE.tr he70
      replace hb_g2 := hb_g2.ext he70
      replace hb_g3 := hb_g3.ext he70
      replace ho22 := Own.ext ho22 he70
      replace hb_g5 := hb_g5.ext he70
      replace hx42 := RdI.ext hx42 he70
      replace hn42 := hn42.ext he70
      replace hb_g7 := hb_g7.ext he70
      replace hK60 := hK60.ext he70
      replace hV60 := hV60.ext he70
      replace hT60 := hT60.ext he70
      replace hb_g8 := hb_g8.ext he70
      have hz_he70 := he70.size
      refine wl_val (ov_pick_t rfl rfl) rfl rfl rfl ?_
      refine va rfl rfl ?_
      refine q_nil (k_then (q_ret ?_))
      refine e_ret rfl rfl ?_
      exact ⟨rfl, hE⟩
    · refine vm rfl rfl ?_
      iterate 4 refine wl_gskip rfl rfl rfl rfl rfl rfl ?_
      iterate 4 refine wl_gskipU rfl rfl rfl rfl rfl ?_
      refine wl_gskip rfl rfl rfl rfl rfl rfl ?_
      refine wl_val (ov_pick_f rfl rfl) rfl rfl rfl ?_
      refine q_nil (k_then ?_)
      refine wc_cond_f rfl ?_
      refine q_skip (k_then (wc_seq (wc_regionL ?_)))
      refine wl_val (ov_loadBlk (cs := [(.int .u8 (↑x.toNat : Int)), (.slice A l.length c)]) ag34_2 rfl hb_g3) rfl rfl rfl ?_
      refine wl_step (or_call0 cl24 rfl rfl (rread_any _ x _ _ A c l hr (by first | omega | decide | (simp; done)))) rfl rfl rfl ?_
      rintro v w211 ⟨K60, ck60, V60, cv60, T60, ct60, rfl, hK60, hV60, hT60, he60⟩
      replace hx := RdI.ext hx he60
      replace hn := hn.ext he60
      replace hr := hr.ext he60
      replace hE := hE.tr he60
      replace hb_g2 := hb_g2.ext he60
      replace hb_g3 := hb_g3.ext he60
      replace ho22 := Own.ext ho22 he60
      replace hb_g5 := hb_g5.ext he60
      replace hx42 := RdI.ext hx42 he60
      replace hn42 := hn42.ext he60
      replace hb_g7 := hb_g7.ext he60
      have hz_he60 := he60.size
      refine vm rfl rfl ?_
      iterate 2 refine vx rfl rfl rfl ?_
      refine wl_step (or_alloc (cs := [(.int .i64 0), (.string (strB [])), (.slice none 0 0), (.slice none 0 0), (.slice none 0 0), (.int .u64 0), (.int .u64 0), (.string (strB [])), (.string (strB [])), (.string (strB []))]) ze58 rfl) rfl rfl rfl ?_
      rintro v w212 ⟨g8, rfl, hb_g8, he8, hl8, hu8⟩
      replace hx := RdI.ext hx he8
      replace hn := hn.ext he8
      replace hr := hr.ext he8
      replace hE := hE.tr he8
      replace hb_g2 := hb_g2.ext he8
      replace hb_g3 := hb_g3.ext he8
      replace ho22 := Own.ext ho22 he8
      replace hb_g5 := hb_g5.ext he8
      replace hx42 := RdI.ext hx42 he8
      replace hn42 := hn42.ext he8
      replace hb_g7 := hb_g7.ext he8
      replace hK60 := hK60.ext he8
      replace hV60 := hV60.ext he8
      replace hT60 := hT60.ext he8
      have hz_he8 := he8.size
      refine wl_step0 (or_storeBlk (vs := [(.int .i64 (rdC x l).1.op), (.string (strB (rdC x l).1.key)), (.slice K60 (rdC x l).1.keys.length ck60), (.slice V60 (rdC x l).1.value.length cv60), (.slice T60 (rdC x l).1.tags.length ct60), (.int .u64 (↑(rdC x l).1.life : Int)), (.int .u64 (↑(rdC x l).1.ver : Int)), (.string (strB (rdC x l).1.tag)), (.string (strB (rdC x l).1.pre)), (.string (strB (rdC x l).1.child))]) sz58 rfl rfl (by simp [Value.oneCell']) hb_g8 rfl) rfl rfl ?_
      rintro _ w213 ⟨hN213, hg213⟩
      have hz_hg213 := hg213.size
      replace hx := RdI.gr hx hg213 (fun _ e => by cases e; omega)
      replace hn := hn.gr hg213 (fun _ e => by cases e; omega)
      replace hr := hr.gr hg213 (fun _ e => by cases e; omega)
      replace hE := hE.gr hg213 (fun _ e => by cases e; omega)
      replace hb_g2 := hb_g2.gr hg213 (by intro e; cases e; omega)
      replace hb_g3 := hb_g3.gr hg213 (by intro e; cases e; omega)
      replace ho22 := Own.gr ho22 hg213 (by first | exact .inl rfl | (right; intro e; first | (have := hq_ho22 _ e; omega) | (have := Own.lt ho22 e; omega) | exact own_blk_ne ho22 hb_g8 (by decide) e))
      replace hb_g5 := hb_g5.gr hg213 (by intro e; cases e; omega)
      replace hx42 := RdI.gr hx42 hg213 (fun _ e => by cases e; omega)
      replace hn42 := hn42.gr hg213 (fun _ e => by cases e; omega)
      replace hb_g7 := hb_g7.gr hg213 (by intro e; cases e; omega)
      replace hK60 := hK60.gr hg213 (fun _ e => by cases e; omega)
      replace hV60 := hV60.gr hg213 (fun _ e => by cases e; omega)
      replace hT60 := hT60.gr hg213 (fun _ e => by cases e; omega)
      replace hb_g8 := hN213
      refine va rfl rfl ?_
      refine q_nil (k_then (wc_seq (wc_regionL ?_)))
      refine vm rfl rfl ?_
      refine wl_val (ov_neq rfl rfl) rfl rfl rfl ?_
      refine wl_spell (d := 64) rfl (bt (by omega)) ?_
      refine vm rfl rfl ?_
      iterate 2 refine wl_gskip rfl rfl rfl rfl rfl rfl ?_
      refine wl_val (ov_pick_t rfl rfl) rfl rfl rfl ?_
      refine vm rfl rfl ?_
      refine wl_gstep (or_call0 cl9 rfl rfl (known08_any _)) rfl rfl rfl rfl rfl ?_
      rintro v w214 ⟨rfl, he70⟩
      replace hx := RdI.ext hx he70
      replace hn := hn.ext he70
      replace hr := hr.ext he70
      replace hE := hE.tr he70
      replace hb_g2 := hb_g2.ext he70
      replace hb_g3 := hb_g3.ext he70
      replace ho22 := Own.ext ho22 he70
      replace hb_g5 := hb_g5.ext he70
      replace hx42 := RdI.ext hx42 he70
      replace hn42 := hn42.ext he70
      replace hb_g7 := hb_g7.ext he70
      replace hK60 := hK60.ext he70
      replace hV60 := hV60.ext he70
      replace hT60 := hT60.ext he70
      replace hb_g8 := hb_g8.ext he70
      have hz_he70 := he70.size
      refine wl_val (ov_pick_t rfl rfl) rfl rfl rfl ?_
      refine va rfl rfl ?_
      refine q_nil (k_then (q_ret ?_))
      refine e_ret rfl rfl ?_
      exact ⟨rfl, hE⟩

theorem responseHolds_walk (w : World) (r : Rsp) (xs : List IT) (hv : vals xs = r.items) (lo hi : Nat) (X : Option Addr) (cx : Nat) (N : Option Addr) (cn : Nat) (hx : RdI w lo hi X cx xs) (hn : RdN w lo hi N cn r.nums) (lo2 hi2 : Nat) (x : UInt8) (A : Option Addr) (c : Nat) (l : List UInt8) (hr : RdB w lo2 hi2 A c l) (hok : LawOk r) :
    Fn Try.prog 7 #[.agg (rspc r X cx N cn).toArray, .agg #[.int .u8 (x.toNat : Int), .slice A l.length c]] w (fun v w' => v = .bool true ∧ Ext w w') := by
  cases ha : lightR r
  · exact rholds_a w r xs hv lo hi X cx N cn hx hn lo2 hi2 x A c l hr hok ha
  · by_cases hl : l.length ≤ 1000
    · exact rholds_c w r xs hv lo hi X cx N cn hx hn lo2 hi2 x A c l hr hok ha hl
    · exact rholds_b w r xs hv lo hi X cx N cn hx hn lo2 hi2 x A c l hr hok ha (by omega)

end Go.Proofs.Ytohnkjjjejnkpaa
