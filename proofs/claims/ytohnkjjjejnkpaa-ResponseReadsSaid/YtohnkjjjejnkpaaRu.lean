/-
  The reference: Read.
-/
import Derived.Test.YtohnkjjjejnkpaaRt
namespace Go.Proofs.Ytohnkjjjejnkpaa
open Go.RowKit
set_option linter.unusedVariables false
set_option maxRecDepth 4000
theorem cl10 : callable Try.prog 10 = true := by kernel_rfl
theorem cl32 : callable Try.prog 32 = true := by kernel_rfl
theorem cl33 : callable Try.prog 33 = true := by kernel_rfl
theorem sz50 : (Try.prog.info? 50).map (·.size) = some 1 := by kernel_rfl
theorem sz51 : (Try.prog.info? 51).map (·.size) = some 1 := by kernel_rfl

theorem xnum_eq (w : World) (lo hi : Nat) (A : Option Addr) (c : Nat) (l : List UInt8) (b : Bool) (hr : RdB w lo hi A c l) (hhi : hi ≤ w.heap.size) (hlen : l.length ≤ 140737488355328) {n : Nat} {L : List UInt8} {b' : Bool} (e : numX l b = (n, L, b')) :
    Fn Try.prog 32 #[.agg #[.slice A l.length c, .bool b]] w (fun v w' => ∃ A c, v = .tuple #[.int .u64 (n : Int), .agg #[.slice A L.length c, .bool b']] ∧ RdB w' lo hi A c L ∧ Ext w w') := by
  have h := xnum_any w lo hi A c l b hr hhi hlen
  rw [e] at h; exact h
theorem xbyt_eq (w : World) (lo hi : Nat) (A : Option Addr) (c : Nat) (l : List UInt8) (b : Bool) (hr : RdB w lo hi A c l) (hhi : hi ≤ w.heap.size) (hlen : l.length ≤ 140737488355328) {n : List UInt8} {L : List UInt8} {b' : Bool} (e : bytX l b = (n, L, b')) :
    Fn Try.prog 33 #[.agg #[.slice A l.length c, .bool b]] w (fun v w' => ∃ V cv A c, v = .tuple #[.slice V n.length cv, .agg #[.slice A L.length c, .bool b']] ∧ OwnB w' w.heap.size 5 V cv n ∧ RdB w' lo hi A c L ∧ Ext w w') := by
  have h := xbyt_any w lo hi A c l b hr hhi hlen
  rw [e] at h; exact h
theorem refRd_1 {op : Int} {l L : List UInt8} {n : Nat} {b : Bool} (e : numX l false = (n, L, b)) : refRd op l = if ¬ (0 ≤ op ∧ op ≤ 15) ∨ 100000 < n then (rspO 0 0, false) else if ¬ n = 0 then finX (rspO op (n : Int)) (L, b) else tailX op (hX op L b) := by
  unfold refRd; rw [e]

/-- The values of items, each in a row of one's own. -/
def VO (w : World) (lo : Nat) (ys : List IT) : Prop := ∀ y ∈ ys, OwnB w lo 5 y.2.1 y.2.2 y.1.value
theorem VO.ext {w w' : World} {lo : Nat} {ys : List IT} (h : VO w lo ys) (he : Ext w w') : VO w' lo ys := fun y hy => Own.ext (h y hy) he
theorem VO.bk {w w' : World} {lo g : Nat} {t : TypeId} {cs : List Value} {ys : List IT} (h : VO w lo ys) (hg : Gr w w' (some g)) (hb : Blk w g t cs) (ht : 5 ≠ t) : VO w' lo ys := fun y hy => Own.gr (h y hy) hg (.inr (own_blk_ne (h y hy) hb ht))
theorem VO.rowA {w w' : World} {lo lo2 n c size : Nat} {e : TypeId} {X : Option Addr} {ys : List IT} {cs : List Value} (h : VO w lo ys) (hg : Gr w w' (blk X)) (ho : Own w lo2 e size X n c cs) (he : e ≠ 5) : VO w' lo ys := fun y hy => Own.gr (h y hy) hg (own_own_ne (h y hy) ho he)
theorem VO.add {w : World} {lo : Nat} {ys : List IT} {y : IT} (h : VO w lo ys) (hy : OwnB w lo 5 y.2.1 y.2.2 y.1.value) : VO w lo (ys ++ [y]) := fun z hz => by
  rcases List.mem_append.1 hz with hz | hz
  · exact h z hz
  · rw [List.mem_singleton.1 hz]; exact hy
theorem VO.rd {w : World} {lo n c : Nat} {X : Option Addr} {ys : List IT} (h : VO w lo ys) (ho : Own w lo 53 4 X n c (ys.flatMap itc)) (hn : n = ys.length) : RdI w 0 w.heap.size X c ys := by
  subst hn
  exact ⟨(Own.rd ho).mono (Nat.zero_le _) (Nat.le_refl _), fun y hy => (OwnB.rd (h y hy)).mono (Nat.zero_le _) (Nat.le_refl _)⟩
theorem itX_0 {l : List UInt8} {b : Bool} (h : (numX l b).1 = 0) : itX l b = (zI, (numX l b).2) := if_pos h
theorem itX_n {l : List UInt8} {b : Bool} (h : ¬ (numX l b).1 = 0) : itX l b = it1 (numX l b).1 (numX (numX l b).2.1 (numX l b).2.2) := if_neg h

theorem rrd8_x (w : World) (code : UInt8) (op : Int) (hop : (code.toNat : Int) - 64 = op) (lo hi : Nat) (A : Option Addr) (c : Nat) (l : List UInt8) (hr : RdB w lo hi A c l) (hhi : hi ≤ w.heap.size) (hlen : l.length ≤ 140737488355328) (n32 : Nat) (L32 : List UInt8) (b32 : Bool) (hN32 : numX l false = (n32, L32, b32)) (hb : op < 0 ∨ 15 < op) :
    Fn Try.prog 18 #[(.agg #[(.int .u8 (↑code.toNat : Int)), (.slice A l.length c)])] w (fun v w' => ∃ ys X cx N cn, v = .tuple #[.agg (rspc (refRd op l).1 X cx N cn).toArray, .bool (refRd op l).2] ∧ vals ys = (refRd op l).1.items ∧ RdI w' 0 w'.heap.size X cx ys ∧ RdN w' 0 w'.heap.size N cn (refRd op l).1.nums ∧ Ext w w')  := by
  have hE := ext_refl w
  have hct := code.toNat_lt
  have hnl32 : L32.length ≤ l.length := by have h := numX_len l false; rw [hN32] at h; exact h
  have hnt32 : n32 < 18446744073709551616 := by have h := numX_lt l false; rw [hN32] at h; exact h
  have hbad : refRd op l = (rspO 0 0, false) := (refRd_1 hN32).trans (if_pos (.inl (by omega)))
  refine fn_enter (args := [(.agg #[(.int .u8 (↑code.toNat : Int)), (.slice A l.length c)])]) Try.func18 rfl rfl rfl ?_
  show WC _ _ _ _ [(0, (.agg #[(.int .u8 (↑code.toNat : Int)), (.slice A l.length c)]))] _
  refine wc_seq (wc_regionL ?_)
  refine wl_step (or_box (cs := [(.int .u8 (↑code.toNat : Int)), (.slice A l.length c)]) rfl rfl) rfl rfl rfl ?_
  rintro v w1 ⟨g1, rfl, hb_g1, he1, hl1, hu1⟩
  replace hr := hr.ext he1
  replace hE := hE.tr he1
  have hz_he1 := he1.size
  refine wl_step (or_alloc (cs := [(.int .i64 0), (.int .i64 0), (.slice none 0 0), (.int .u64 0), (.int .i64 0), (.slice none 0 0)]) ze28 rfl) rfl rfl rfl ?_
  rintro v w2 ⟨g2, rfl, hb_g2, he2, hl2, hu2⟩
  replace hr := hr.ext he2
  replace hE := hE.tr he2
  replace hb_g1 := hb_g1.ext he2
  have hz_he2 := he2.size
  refine va rfl rfl ?_
  refine q_nil (k_then (wc_seq (wc_seq (wc_regionL ?_))))
  refine wl_val (ov_field0 (off := 0) fo34_0 rfl) rfl rfl rfl ?_
  refine wl_val (ov_loadAt oc5 rfl hb_g1 rfl) rfl rfl rfl ?_
  refine wl_val (ov_lss rfl rfl) rfl rfl rfl ?_
  refine wl_case_d (d := 16) rfl (fun h16 => ?_) (fun h16 => ?_)
  · refine vm rfl rfl ?_
    iterate 3 refine wl_gskip rfl rfl rfl rfl rfl rfl ?_
    refine wl_val (ov_pick_t rfl rfl) rfl rfl rfl ?_
    refine q_nil (k_then ?_)
    refine wc_cond_t rfl ?_
    refine wc_seq (wc_regionL ?_)
    refine wl_val (ov_build (cs := [(.int .i64 0), (.int .i64 0), (.slice none 0 0), (.int .u64 0), (.int .i64 0), (.slice none 0 0)]) ze28 pl28 rfl rfl) rfl rfl rfl ?_
    refine wl_step0 (or_storeBlk (vs := [(.int .i64 0), (.int .i64 0), (.slice none 0 0), (.int .u64 0), (.int .i64 0), (.slice none 0 0)]) sz28 rfl rfl (by simp [Value.oneCell']) hb_g2 rfl) rfl rfl ?_
    rintro _ w3 ⟨hN3, hg3⟩
    have hz_hg3 := hg3.size
    replace hr := hr.gr hg3 (fun _ e => by cases e; omega)
    replace hE := hE.gr hg3 (fun _ e => by cases e; omega)
    replace hb_g1 := hb_g1.gr hg3 (by intro e; cases e; omega)
    replace hb_g2 := hN3
    refine va rfl rfl ?_
    refine q_nil (k_then (q_ret (k_thenR ?_)))
    refine e_retL (rs := [.cell 2 28, .tmp 3]) (vs := [.agg #[(.int .i64 0), (.int .i64 0), (.slice none 0 0), (.int .u64 0), (.int .i64 0), (.slice none 0 0)], (.bool false)]) rfl ⟨⟨_, _, [(.int .i64 0), (.int .i64 0), (.slice none 0 0), (.int .u64 0), (.int .i64 0), (.slice none 0 0)], rfl, ag28_6, hb_g2, rfl⟩, rfl, trivial⟩ ?_
    rw [hbad]
    exact ⟨[], none, 0, none, 0, rfl, rfl, (RdI.nil _ _ _), (Rd.nil _ _ _ _ _ _ (Nat.zero_le _)), hE⟩
  · refine vm rfl rfl ?_
    refine wl_gval (ov_field0 (off := 0) fo34_0 rfl) rfl rfl rfl rfl rfl ?_
    refine wl_gval (ov_loadAt oc5 rfl hb_g1 rfl) rfl rfl rfl rfl rfl ?_
    refine wl_gval (ov_gtr rfl rfl) rfl rfl rfl rfl rfl ?_
    refine wl_spell (d := 20) rfl (bt (by omega)) ?_
    refine wl_val (ov_pick_f rfl rfl) rfl rfl rfl ?_
    refine q_nil (k_then ?_)
    refine wc_cond_t rfl ?_
    refine wc_seq (wc_regionL ?_)
    refine wl_val (ov_build (cs := [(.int .i64 0), (.int .i64 0), (.slice none 0 0), (.int .u64 0), (.int .i64 0), (.slice none 0 0)]) ze28 pl28 rfl rfl) rfl rfl rfl ?_
    refine wl_step0 (or_storeBlk (vs := [(.int .i64 0), (.int .i64 0), (.slice none 0 0), (.int .u64 0), (.int .i64 0), (.slice none 0 0)]) sz28 rfl rfl (by simp [Value.oneCell']) hb_g2 rfl) rfl rfl ?_
    rintro _ w203 ⟨hN203, hg203⟩
    have hz_hg203 := hg203.size
    replace hr := hr.gr hg203 (fun _ e => by cases e; omega)
    replace hE := hE.gr hg203 (fun _ e => by cases e; omega)
    replace hb_g1 := hb_g1.gr hg203 (by intro e; cases e; omega)
    replace hb_g2 := hN203
    refine va rfl rfl ?_
    refine q_nil (k_then (q_ret (k_thenR ?_)))
    refine e_retL (rs := [.cell 2 28, .tmp 3]) (vs := [.agg #[(.int .i64 0), (.int .i64 0), (.slice none 0 0), (.int .u64 0), (.int .i64 0), (.slice none 0 0)], (.bool false)]) rfl ⟨⟨_, _, [(.int .i64 0), (.int .i64 0), (.slice none 0 0), (.int .u64 0), (.int .i64 0), (.slice none 0 0)], rfl, ag28_6, hb_g2, rfl⟩, rfl, trivial⟩ ?_
    rw [hbad]
    exact ⟨[], none, 0, none, 0, rfl, rfl, (RdI.nil _ _ _), (Rd.nil _ _ _ _ _ _ (Nat.zero_le _)), hE⟩

theorem rrd8_e (w : World) (code : UInt8) (op : Int) (hop : (code.toNat : Int) - 64 = op) (lo hi : Nat) (A : Option Addr) (c : Nat) (l : List UInt8) (hr : RdB w lo hi A c l) (hhi : hi ≤ w.heap.size) (hlen : l.length ≤ 140737488355328) (n32 : Nat) (L32 : List UInt8) (b32 : Bool) (hN32 : numX l false = (n32, L32, b32)) (h1 : 0 ≤ op) (h2 : op ≤ 15) (hn0 : ¬ n32 = 0) :
    Fn Try.prog 18 #[(.agg #[(.int .u8 (↑code.toNat : Int)), (.slice A l.length c)])] w (fun v w' => ∃ ys X cx N cn, v = .tuple #[.agg (rspc (refRd op l).1 X cx N cn).toArray, .bool (refRd op l).2] ∧ vals ys = (refRd op l).1.items ∧ RdI w' 0 w'.heap.size X cx ys ∧ RdN w' 0 w'.heap.size N cn (refRd op l).1.nums ∧ Ext w w')  := by
  have hE := ext_refl w
  have hct := code.toNat_lt
  have hnl32 : L32.length ≤ l.length := by have h := numX_len l false; rw [hN32] at h; exact h
  have hnt32 : n32 < 18446744073709551616 := by have h := numX_lt l false; rw [hN32] at h; exact h
  refine fn_enter (args := [(.agg #[(.int .u8 (↑code.toNat : Int)), (.slice A l.length c)])]) Try.func18 rfl rfl rfl ?_
  show WC _ _ _ _ [(0, (.agg #[(.int .u8 (↑code.toNat : Int)), (.slice A l.length c)]))] _
  refine wc_seq (wc_regionL ?_)
  refine wl_step (or_box (cs := [(.int .u8 (↑code.toNat : Int)), (.slice A l.length c)]) rfl rfl) rfl rfl rfl ?_
  rintro v w1 ⟨g1, rfl, hb_g1, he1, hl1, hu1⟩
  replace hr := hr.ext he1
  replace hE := hE.tr he1
  have hz_he1 := he1.size
  refine wl_step (or_alloc (cs := [(.int .i64 0), (.int .i64 0), (.slice none 0 0), (.int .u64 0), (.int .i64 0), (.slice none 0 0)]) ze28 rfl) rfl rfl rfl ?_
  rintro v w2 ⟨g2, rfl, hb_g2, he2, hl2, hu2⟩
  replace hr := hr.ext he2
  replace hE := hE.tr he2
  replace hb_g1 := hb_g1.ext he2
  have hz_he2 := he2.size
  refine va rfl rfl ?_
  refine q_nil (k_then (wc_seq (wc_seq (wc_regionL ?_))))
  refine wl_val (ov_field0 (off := 0) fo34_0 rfl) rfl rfl rfl ?_
  refine wl_val (ov_loadAt oc5 rfl hb_g1 rfl) rfl rfl rfl ?_
  refine wl_val (ov_lss rfl rfl) rfl rfl rfl ?_
  refine wl_spell (d := 16) rfl (bf (by omega)) ?_
  refine vm rfl rfl ?_
  refine wl_gval (ov_field0 (off := 0) fo34_0 rfl) rfl rfl rfl rfl rfl ?_
  refine wl_gval (ov_loadAt oc5 rfl hb_g1 rfl) rfl rfl rfl rfl rfl ?_
  refine wl_gval (ov_gtr rfl rfl) rfl rfl rfl rfl rfl ?_
  refine wl_spell (d := 20) rfl (bf (by omega)) ?_
  refine wl_val (ov_pick_f rfl rfl) rfl rfl rfl ?_
  refine q_nil (k_then ?_)
  refine wc_cond_f rfl ?_
  refine q_skip (k_then (wc_seq (wc_regionL ?_)))
  refine wl_val (ov_field0 (off := 0) fo34_0 rfl) rfl rfl rfl ?_
  refine wl_val (ov_loadAt oc5 rfl hb_g1 rfl) rfl rfl rfl ?_
  refine wl_val (ov_sub rfl rfl rfl) rfl rfl rfl ?_
  refine wl_spell (d := 25) rfl (v' := (.int .u8 op)) (by rw [wu8 (by omega) (by omega), hop]) ?_
  refine wl_val (ov_conv Try.underlying5 Try.underlying22 rfl (wi64 (by omega) (by omega))) rfl rfl rfl ?_
  refine wl_val (ov_build (cs := [(.int .i64 op), (.int .i64 0), (.slice none 0 0), (.int .u64 0), (.int .i64 0), (.slice none 0 0)]) ze28 pl28 rfl rfl) rfl rfl rfl ?_
  refine wl_step (or_alloc (cs := [(.int .i64 0), (.int .i64 0), (.slice none 0 0), (.int .u64 0), (.int .i64 0), (.slice none 0 0)]) ze28 rfl) rfl rfl rfl ?_
  rintro v w3 ⟨g4, rfl, hb_g4, he4, hl4, hu4⟩
  replace hr := hr.ext he4
  replace hE := hE.tr he4
  replace hb_g1 := hb_g1.ext he4
  replace hb_g2 := hb_g2.ext he4
  have hz_he4 := he4.size
  refine wl_step0 (or_storeBlk (vs := [(.int .i64 op), (.int .i64 0), (.slice none 0 0), (.int .u64 0), (.int .i64 0), (.slice none 0 0)]) sz28 rfl rfl (by simp [Value.oneCell']) hb_g4 rfl) rfl rfl ?_
  rintro _ w4 ⟨hN4, hg4⟩
  have hz_hg4 := hg4.size
  replace hr := hr.gr hg4 (fun _ e => by cases e; omega)
  replace hE := hE.gr hg4 (fun _ e => by cases e; omega)
  replace hb_g1 := hb_g1.gr hg4 (by intro e; cases e; omega)
  replace hb_g2 := hb_g2.gr hg4 (by intro e; cases e; omega)
  replace hb_g4 := hN4
  refine q_nil (k_then (wc_seq (wc_regionL ?_)))
  refine wl_val (ov_field0 (off := 1) fo34_1 rfl) rfl rfl rfl ?_
  refine wl_val (ov_loadAt oc32 rfl hb_g1 rfl) rfl rfl rfl ?_
  refine wl_val (ov_build (cs := [(.slice A l.length c), (.bool false)]) ze78 pl78 rfl rfl) rfl rfl rfl ?_
  refine wl_step (or_call0 cl32 rfl rfl (xnum_eq _ _ _ A c l false hr (by omega) (by omega) hN32)) rfl rfl rfl ?_
  rintro v w5 ⟨A32, c32, rfl, hr32, he32⟩
  replace hr := hr.ext he32
  replace hE := hE.tr he32
  replace hb_g1 := hb_g1.ext he32
  replace hb_g2 := hb_g2.ext he32
  replace hb_g4 := hb_g4.ext he32
  have hz_he32 := he32.size
  refine vm rfl rfl ?_
  iterate 2 refine vx rfl rfl rfl ?_
  refine wl_step (or_alloc (cs := [(.slice none 0 0), (.bool false)]) ze78 rfl) rfl rfl rfl ?_
  rintro v w6 ⟨g6, rfl, hb_g6, he6, hl6, hu6⟩
  replace hr := hr.ext he6
  replace hE := hE.tr he6
  replace hb_g1 := hb_g1.ext he6
  replace hb_g2 := hb_g2.ext he6
  replace hb_g4 := hb_g4.ext he6
  replace hr32 := hr32.ext he6
  have hz_he6 := he6.size
  refine va rfl rfl ?_
  refine wl_step0 (or_storeBlk (vs := [(.slice A32 L32.length c32), (.bool b32)]) sz78 rfl rfl (by simp [Value.oneCell']) hb_g6 rfl) rfl rfl ?_
  rintro _ w7 ⟨hN7, hg7⟩
  have hz_hg7 := hg7.size
  replace hr := hr.gr hg7 (fun _ e => by cases e; omega)
  replace hE := hE.gr hg7 (fun _ e => by cases e; omega)
  replace hb_g1 := hb_g1.gr hg7 (by intro e; cases e; omega)
  replace hb_g2 := hb_g2.gr hg7 (by intro e; cases e; omega)
  replace hb_g4 := hb_g4.gr hg7 (by intro e; cases e; omega)
  replace hr32 := hr32.gr hg7 (fun _ e => by cases e; omega)
  replace hb_g6 := hN7
  refine q_nil (k_then (wc_seq (wc_seq (wc_regionL ?_))))
  refine vm rfl rfl ?_
  refine wl_val (ov_gtr rfl rfl) rfl rfl rfl ?_
  refine q_nil (k_then ?_)
  refine wc_cond_d rfl (fun hc2 => ?_) (fun hc2 => ?_)
  · have hbad : refRd op l = (rspO 0 0, false) := (refRd_1 hN32).trans (if_pos (.inr (by omega)))
    refine wc_seq (wc_regionL ?_)
    refine wl_val (ov_build (cs := [(.int .i64 0), (.int .i64 0), (.slice none 0 0), (.int .u64 0), (.int .i64 0), (.slice none 0 0)]) ze28 pl28 rfl rfl) rfl rfl rfl ?_
    refine wl_step0 (or_storeBlk (vs := [(.int .i64 0), (.int .i64 0), (.slice none 0 0), (.int .u64 0), (.int .i64 0), (.slice none 0 0)]) sz28 rfl rfl (by simp [Value.oneCell']) hb_g2 rfl) rfl rfl ?_
    rintro _ w8 ⟨hN8, hg8⟩
    have hz_hg8 := hg8.size
    replace hr := hr.gr hg8 (fun _ e => by cases e; omega)
    replace hE := hE.gr hg8 (fun _ e => by cases e; omega)
    replace hb_g1 := hb_g1.gr hg8 (by intro e; cases e; omega)
    replace hb_g4 := hb_g4.gr hg8 (by intro e; cases e; omega)
    replace hr32 := hr32.gr hg8 (fun _ e => by cases e; omega)
    replace hb_g6 := hb_g6.gr hg8 (by intro e; cases e; omega)
    replace hb_g2 := hN8
    refine va rfl rfl ?_
    refine q_nil (k_then (q_ret (k_thenR ?_)))
    refine e_retL (rs := [.cell 2 28, .tmp 3]) (vs := [.agg #[(.int .i64 0), (.int .i64 0), (.slice none 0 0), (.int .u64 0), (.int .i64 0), (.slice none 0 0)], (.bool false)]) rfl ⟨⟨_, _, [(.int .i64 0), (.int .i64 0), (.slice none 0 0), (.int .u64 0), (.int .i64 0), (.slice none 0 0)], rfl, ag28_6, hb_g2, rfl⟩, rfl, trivial⟩ ?_
    rw [hbad]
    exact ⟨[], none, 0, none, 0, rfl, rfl, (RdI.nil _ _ _), (Rd.nil _ _ _ _ _ _ (Nat.zero_le _)), hE⟩
  · have hle : ¬ (¬ (0 ≤ op ∧ op ≤ 15) ∨ 100000 < n32) := by omega
    refine q_skip (k_then (wc_seq (wc_regionL ?_)))
    refine vm rfl rfl ?_
    refine wl_val (ov_conv Try.underlying25 Try.underlying23 rfl (wi64 (by omega) (by omega))) rfl rfl rfl ?_
    refine wl_val (ov_field0 (off := 1) fo28_1 rfl) rfl rfl rfl ?_
    refine wl_step0 (or_storeAt (cs' := [(.int .i64 op), (.int .i64 (↑n32 : Int)), (.slice none 0 0), (.int .u64 0), (.int .i64 0), (.slice none 0 0)]) sz23 rfl rfl rfl hb_g4 rfl rfl) rfl rfl ?_
    rintro _ w208 ⟨hN208, hg208⟩
    have hz_hg208 := hg208.size
    replace hr := hr.gr hg208 (fun _ e => by cases e; omega)
    replace hE := hE.gr hg208 (fun _ e => by cases e; omega)
    replace hb_g1 := hb_g1.gr hg208 (by intro e; cases e; omega)
    replace hb_g2 := hb_g2.gr hg208 (by intro e; cases e; omega)
    replace hr32 := hr32.gr hg208 (fun _ e => by cases e; omega)
    replace hb_g6 := hb_g6.gr hg208 (by intro e; cases e; omega)
    replace hb_g4 := hN208
    refine q_nil (k_then (wc_seq (wc_seq (wc_regionL ?_))))
    refine vm rfl rfl ?_
    refine ve rfl rfl rfl ?_
    have hfin : refRd op l = finX (rspO op (n32 : Int)) (L32, b32) := (refRd_1 hN32).trans ((if_neg hle).trans (if_pos hn0))
    refine wl_spell (d := 42) rfl (bf (by omega)) ?_
    refine q_nil (k_then ?_)
    refine wc_cond_f rfl ?_
    refine q_skip (k_then (wc_seq (wc_seq (wc_regionL ?_))))
    refine wl_val (ov_field0 (off := 1) fo78_1 rfl) rfl rfl rfl ?_
    refine wl_val (ov_loadAt oc4 rfl hb_g6 rfl) rfl rfl rfl ?_
    refine wl_spell (d := 156) rfl (v' := (.bool (decide (b32 = true)))) (by cases b32 <;> rfl) ?_
    refine wl_case_d (d := 156) rfl (fun h156 => ?_) (fun h156 => ?_)
    · have hbad : refRd op l = (rspO 0 0, false) := hfin.trans (fin_bad (fun q => by have q1 : b32 = false := q.1; rw [h156] at q1; cases q1))
      refine vm rfl rfl ?_
      iterate 4 refine wl_gskip rfl rfl rfl rfl rfl rfl ?_
      refine wl_val (ov_pick_t rfl rfl) rfl rfl rfl ?_
      refine vm rfl rfl ?_
      iterate 3 refine wl_gskip rfl rfl rfl rfl rfl rfl ?_
      refine wl_val (ov_pick_t rfl rfl) rfl rfl rfl ?_
      refine q_nil (k_then ?_)
      refine wc_cond_t rfl ?_
      refine wc_seq (wc_regionL ?_)
      refine wl_val (ov_build (cs := [(.int .i64 0), (.int .i64 0), (.slice none 0 0), (.int .u64 0), (.int .i64 0), (.slice none 0 0)]) ze28 pl28 rfl rfl) rfl rfl rfl ?_
      refine wl_step0 (or_storeBlk (vs := [(.int .i64 0), (.int .i64 0), (.slice none 0 0), (.int .u64 0), (.int .i64 0), (.slice none 0 0)]) sz28 rfl rfl (by simp [Value.oneCell']) hb_g2 rfl) rfl rfl ?_
      rintro _ w209 ⟨hN209, hg209⟩
      have hz_hg209 := hg209.size
      replace hr := hr.gr hg209 (fun _ e => by cases e; omega)
      replace hE := hE.gr hg209 (fun _ e => by cases e; omega)
      replace hb_g1 := hb_g1.gr hg209 (by intro e; cases e; omega)
      replace hb_g4 := hb_g4.gr hg209 (by intro e; cases e; omega)
      replace hr32 := hr32.gr hg209 (fun _ e => by cases e; omega)
      replace hb_g6 := hb_g6.gr hg209 (by intro e; cases e; omega)
      replace hb_g2 := hN209
      refine va rfl rfl ?_
      refine q_nil (k_then (q_ret (k_thenR ?_)))
      refine e_retL (rs := [.cell 2 28, .tmp 3]) (vs := [.agg #[(.int .i64 0), (.int .i64 0), (.slice none 0 0), (.int .u64 0), (.int .i64 0), (.slice none 0 0)], (.bool false)]) rfl ⟨⟨_, _, [(.int .i64 0), (.int .i64 0), (.slice none 0 0), (.int .u64 0), (.int .i64 0), (.slice none 0 0)], rfl, ag28_6, hb_g2, rfl⟩, rfl, trivial⟩ ?_
      rw [hbad]
      exact ⟨[], none, 0, none, 0, rfl, rfl, (RdI.nil _ _ _), (Rd.nil _ _ _ _ _ _ (Nat.zero_le _)), hE⟩
    · refine vm rfl rfl ?_
      refine wl_gval (ov_field0 (off := 0) fo78_0 rfl) rfl rfl rfl rfl rfl ?_
      refine wl_gval (ov_loadAt oc32 rfl hb_g6 rfl) rfl rfl rfl rfl rfl ?_
      refine wl_gval (ov_len Try.underlying32 rfl) rfl rfl rfl rfl rfl ?_
      refine wl_gval (ov_gtr rfl rfl) rfl rfl rfl rfl rfl ?_
      refine wl_case_d (d := 161) rfl (fun h161 => ?_) (fun h161 => ?_)
      · have hbad : refRd op l = (rspO 0 0, false) := hfin.trans (fin_bad (fun q => by have q1 : L32.length = 0 := q.2.1; omega))
        refine wl_val (ov_pick_f rfl rfl) rfl rfl rfl ?_
        refine vm rfl rfl ?_
        iterate 3 refine wl_gskip rfl rfl rfl rfl rfl rfl ?_
        refine wl_val (ov_pick_t rfl rfl) rfl rfl rfl ?_
        refine q_nil (k_then ?_)
        refine wc_cond_t rfl ?_
        refine wc_seq (wc_regionL ?_)
        refine wl_val (ov_build (cs := [(.int .i64 0), (.int .i64 0), (.slice none 0 0), (.int .u64 0), (.int .i64 0), (.slice none 0 0)]) ze28 pl28 rfl rfl) rfl rfl rfl ?_
        refine wl_step0 (or_storeBlk (vs := [(.int .i64 0), (.int .i64 0), (.slice none 0 0), (.int .u64 0), (.int .i64 0), (.slice none 0 0)]) sz28 rfl rfl (by simp [Value.oneCell']) hb_g2 rfl) rfl rfl ?_
        rintro _ w209 ⟨hN209, hg209⟩
        have hz_hg209 := hg209.size
        replace hr := hr.gr hg209 (fun _ e => by cases e; omega)
        replace hE := hE.gr hg209 (fun _ e => by cases e; omega)
        replace hb_g1 := hb_g1.gr hg209 (by intro e; cases e; omega)
        replace hb_g4 := hb_g4.gr hg209 (by intro e; cases e; omega)
        replace hr32 := hr32.gr hg209 (fun _ e => by cases e; omega)
        replace hb_g6 := hb_g6.gr hg209 (by intro e; cases e; omega)
        replace hb_g2 := hN209
        refine va rfl rfl ?_
        refine q_nil (k_then (q_ret (k_thenR ?_)))
        refine e_retL (rs := [.cell 2 28, .tmp 3]) (vs := [.agg #[(.int .i64 0), (.int .i64 0), (.slice none 0 0), (.int .u64 0), (.int .i64 0), (.slice none 0 0)], (.bool false)]) rfl ⟨⟨_, _, [(.int .i64 0), (.int .i64 0), (.slice none 0 0), (.int .u64 0), (.int .i64 0), (.slice none 0 0)], rfl, ag28_6, hb_g2, rfl⟩, rfl, trivial⟩ ?_
        rw [hbad]
        exact ⟨[], none, 0, none, 0, rfl, rfl, (RdI.nil _ _ _), (Rd.nil _ _ _ _ _ _ (Nat.zero_le _)), hE⟩
      · refine wl_val (ov_pick_f rfl rfl) rfl rfl rfl ?_
        refine vm rfl rfl ?_
        refine wl_gval (ov_loadBlk (cs := [(.int .i64 op), (.int .i64 (↑n32 : Int)), (.slice none 0 0), (.int .u64 0), (.int .i64 0), (.slice none 0 0)]) ag28_6 rfl hb_g4) rfl rfl rfl rfl rfl ?_
        refine wl_gstep (or_call0 cl10 rfl rfl (rv8_any _ (rspO op (n32 : Int)) [] rfl 0 0 none 0 none 0 (RdI.nil _ 0 0) (Rd.nil _ 0 0 _ _ _ (Nat.zero_le _)))) rfl rfl rfl rfl rfl ?_
        rintro v w209 ⟨rfl, he165⟩
        replace hr := hr.ext he165
        replace hE := hE.tr he165
        replace hb_g1 := hb_g1.ext he165
        replace hb_g2 := hb_g2.ext he165
        replace hb_g4 := hb_g4.ext he165
        replace hr32 := hr32.ext he165
        replace hb_g6 := hb_g6.ext he165
        have hz_he165 := he165.size
        refine wl_gval (ov_not rfl) rfl rfl rfl rfl rfl ?_
        refine wl_spell (d := 166) rfl (v' := (.bool (decide (¬ RV (rspO op (n32 : Int)))))) (by by_cases h : RV (rspO op (n32 : Int)) <;> simp [h]) ?_
        refine wl_case_d (d := 166) rfl (fun h166 => ?_) (fun h166 => ?_)
        · have hbad : refRd op l = (rspO 0 0, false) := hfin.trans (fin_bad (fun q => h166 q.2.2))
          refine wl_val (ov_pick_f rfl rfl) rfl rfl rfl ?_
          refine q_nil (k_then ?_)
          refine wc_cond_t rfl ?_
          refine wc_seq (wc_regionL ?_)
          refine wl_val (ov_build (cs := [(.int .i64 0), (.int .i64 0), (.slice none 0 0), (.int .u64 0), (.int .i64 0), (.slice none 0 0)]) ze28 pl28 rfl rfl) rfl rfl rfl ?_
          refine wl_step0 (or_storeBlk (vs := [(.int .i64 0), (.int .i64 0), (.slice none 0 0), (.int .u64 0), (.int .i64 0), (.slice none 0 0)]) sz28 rfl rfl (by simp [Value.oneCell']) hb_g2 rfl) rfl rfl ?_
          rintro _ w210 ⟨hN210, hg210⟩
          have hz_hg210 := hg210.size
          replace hr := hr.gr hg210 (fun _ e => by cases e; omega)
          replace hE := hE.gr hg210 (fun _ e => by cases e; omega)
          replace hb_g1 := hb_g1.gr hg210 (by intro e; cases e; omega)
          replace hb_g4 := hb_g4.gr hg210 (by intro e; cases e; omega)
          replace hr32 := hr32.gr hg210 (fun _ e => by cases e; omega)
          replace hb_g6 := hb_g6.gr hg210 (by intro e; cases e; omega)
          replace hb_g2 := hN210
          refine va rfl rfl ?_
          refine q_nil (k_then (q_ret (k_thenR ?_)))
          refine e_retL (rs := [.cell 2 28, .tmp 3]) (vs := [.agg #[(.int .i64 0), (.int .i64 0), (.slice none 0 0), (.int .u64 0), (.int .i64 0), (.slice none 0 0)], (.bool false)]) rfl ⟨⟨_, _, [(.int .i64 0), (.int .i64 0), (.slice none 0 0), (.int .u64 0), (.int .i64 0), (.slice none 0 0)], rfl, ag28_6, hb_g2, rfl⟩, rfl, trivial⟩ ?_
          rw [hbad]
          exact ⟨[], none, 0, none, 0, rfl, rfl, (RdI.nil _ _ _), (Rd.nil _ _ _ _ _ _ (Nat.zero_le _)), hE⟩
        · have hgood := hfin.trans (fin_ok (s := (L32, b32)) ⟨by simpa using h156, by show L32.length = 0; omega, Decidable.not_not.1 h166⟩)
          refine wl_val (ov_pick_f rfl rfl) rfl rfl rfl ?_
          refine q_nil (k_then ?_)
          refine wc_cond_f rfl ?_
          refine q_skip (k_then (wc_seq (wc_regionL ?_)))
          refine wl_val (ov_loadBlk (cs := [(.int .i64 op), (.int .i64 (↑n32 : Int)), (.slice none 0 0), (.int .u64 0), (.int .i64 0), (.slice none 0 0)]) ag28_6 rfl hb_g4) rfl rfl rfl ?_
          refine wl_step0 (or_storeBlk (vs := [(.int .i64 op), (.int .i64 (↑n32 : Int)), (.slice none 0 0), (.int .u64 0), (.int .i64 0), (.slice none 0 0)]) sz28 rfl rfl (by simp [Value.oneCell']) hb_g2 rfl) rfl rfl ?_
          rintro _ w210 ⟨hN210, hg210⟩
          have hz_hg210 := hg210.size
          replace hr := hr.gr hg210 (fun _ e => by cases e; omega)
          replace hE := hE.gr hg210 (fun _ e => by cases e; omega)
          replace hb_g1 := hb_g1.gr hg210 (by intro e; cases e; omega)
          replace hb_g4 := hb_g4.gr hg210 (by intro e; cases e; omega)
          replace hr32 := hr32.gr hg210 (fun _ e => by cases e; omega)
          replace hb_g6 := hb_g6.gr hg210 (by intro e; cases e; omega)
          replace hb_g2 := hN210
          refine va rfl rfl ?_
          refine q_nil (k_then (q_ret ?_))
          refine e_retL (rs := [.cell 2 28, .tmp 3]) (vs := [.agg #[(.int .i64 op), (.int .i64 (↑n32 : Int)), (.slice none 0 0), (.int .u64 0), (.int .i64 0), (.slice none 0 0)], (.bool true)]) rfl ⟨⟨_, _, [(.int .i64 op), (.int .i64 (↑n32 : Int)), (.slice none 0 0), (.int .u64 0), (.int .i64 0), (.slice none 0 0)], rfl, ag28_6, hb_g2, rfl⟩, rfl, trivial⟩ ?_
          rw [hgood]
          exact ⟨[], none, 0, none, 0, rfl, rfl, (RdI.nil _ _ _), (Rd.nil _ _ _ _ _ _ (Nat.zero_le _)), hE⟩

set_option maxHeartbeats 4000000 in
theorem rrd8_0 (w : World) (code : UInt8) (op : Int) (hop : (code.toNat : Int) - 64 = op) (lo hi : Nat) (A : Option Addr) (c : Nat) (l : List UInt8) (hr : RdB w lo hi A c l) (hhi : hi ≤ w.heap.size) (hlen : l.length ≤ 140737488355328) (n32 : Nat) (L32 : List UInt8) (b32 : Bool) (hN32 : numX l false = (n32, L32, b32)) (h1 : 0 ≤ op) (h2 : op ≤ 15) (hn0 : n32 = 0) :
    Fn Try.prog 18 #[(.agg #[(.int .u8 (↑code.toNat : Int)), (.slice A l.length c)])] w (fun v w' => ∃ ys X cx N cn, v = .tuple #[.agg (rspc (refRd op l).1 X cx N cn).toArray, .bool (refRd op l).2] ∧ vals ys = (refRd op l).1.items ∧ RdI w' 0 w'.heap.size X cx ys ∧ RdN w' 0 w'.heap.size N cn (refRd op l).1.nums ∧ Ext w w')  := by
  have hE := ext_refl w
  have hct := code.toNat_lt
  have hnl32 : L32.length ≤ l.length := by have h := numX_len l false; rw [hN32] at h; exact h
  have hnt32 : n32 < 18446744073709551616 := by have h := numX_lt l false; rw [hN32] at h; exact h
  refine fn_enter (args := [(.agg #[(.int .u8 (↑code.toNat : Int)), (.slice A l.length c)])]) Try.func18 rfl rfl rfl ?_
  show WC _ _ _ _ [(0, (.agg #[(.int .u8 (↑code.toNat : Int)), (.slice A l.length c)]))] _
  refine wc_seq (wc_regionL ?_)
  refine wl_step (or_box (cs := [(.int .u8 (↑code.toNat : Int)), (.slice A l.length c)]) rfl rfl) rfl rfl rfl ?_
  rintro v w1 ⟨g1, rfl, hb_g1, he1, hl1, hu1⟩
  replace hr := hr.ext he1
  replace hE := hE.tr he1
  have hz_he1 := he1.size
  refine wl_step (or_alloc (cs := [(.int .i64 0), (.int .i64 0), (.slice none 0 0), (.int .u64 0), (.int .i64 0), (.slice none 0 0)]) ze28 rfl) rfl rfl rfl ?_
  rintro v w2 ⟨g2, rfl, hb_g2, he2, hl2, hu2⟩
  replace hr := hr.ext he2
  replace hE := hE.tr he2
  replace hb_g1 := hb_g1.ext he2
  have hz_he2 := he2.size
  refine va rfl rfl ?_
  refine q_nil (k_then (wc_seq (wc_seq (wc_regionL ?_))))
  refine wl_val (ov_field0 (off := 0) fo34_0 rfl) rfl rfl rfl ?_
  refine wl_val (ov_loadAt oc5 rfl hb_g1 rfl) rfl rfl rfl ?_
  refine wl_val (ov_lss rfl rfl) rfl rfl rfl ?_
  refine wl_spell (d := 16) rfl (bf (by omega)) ?_
  refine vm rfl rfl ?_
  refine wl_gval (ov_field0 (off := 0) fo34_0 rfl) rfl rfl rfl rfl rfl ?_
  refine wl_gval (ov_loadAt oc5 rfl hb_g1 rfl) rfl rfl rfl rfl rfl ?_
  refine wl_gval (ov_gtr rfl rfl) rfl rfl rfl rfl rfl ?_
  refine wl_spell (d := 20) rfl (bf (by omega)) ?_
  refine wl_val (ov_pick_f rfl rfl) rfl rfl rfl ?_
  refine q_nil (k_then ?_)
  refine wc_cond_f rfl ?_
  refine q_skip (k_then (wc_seq (wc_regionL ?_)))
  refine wl_val (ov_field0 (off := 0) fo34_0 rfl) rfl rfl rfl ?_
  refine wl_val (ov_loadAt oc5 rfl hb_g1 rfl) rfl rfl rfl ?_
  refine wl_val (ov_sub rfl rfl rfl) rfl rfl rfl ?_
  refine wl_spell (d := 25) rfl (v' := (.int .u8 op)) (by rw [wu8 (by omega) (by omega), hop]) ?_
  refine wl_val (ov_conv Try.underlying5 Try.underlying22 rfl (wi64 (by omega) (by omega))) rfl rfl rfl ?_
  refine wl_val (ov_build (cs := [(.int .i64 op), (.int .i64 0), (.slice none 0 0), (.int .u64 0), (.int .i64 0), (.slice none 0 0)]) ze28 pl28 rfl rfl) rfl rfl rfl ?_
  refine wl_step (or_alloc (cs := [(.int .i64 0), (.int .i64 0), (.slice none 0 0), (.int .u64 0), (.int .i64 0), (.slice none 0 0)]) ze28 rfl) rfl rfl rfl ?_
  rintro v w3 ⟨g4, rfl, hb_g4, he4, hl4, hu4⟩
  replace hr := hr.ext he4
  replace hE := hE.tr he4
  replace hb_g1 := hb_g1.ext he4
  replace hb_g2 := hb_g2.ext he4
  have hz_he4 := he4.size
  refine wl_step0 (or_storeBlk (vs := [(.int .i64 op), (.int .i64 0), (.slice none 0 0), (.int .u64 0), (.int .i64 0), (.slice none 0 0)]) sz28 rfl rfl (by simp [Value.oneCell']) hb_g4 rfl) rfl rfl ?_
  rintro _ w4 ⟨hN4, hg4⟩
  have hz_hg4 := hg4.size
  replace hr := hr.gr hg4 (fun _ e => by cases e; omega)
  replace hE := hE.gr hg4 (fun _ e => by cases e; omega)
  replace hb_g1 := hb_g1.gr hg4 (by intro e; cases e; omega)
  replace hb_g2 := hb_g2.gr hg4 (by intro e; cases e; omega)
  replace hb_g4 := hN4
  refine q_nil (k_then (wc_seq (wc_regionL ?_)))
  refine wl_val (ov_field0 (off := 1) fo34_1 rfl) rfl rfl rfl ?_
  refine wl_val (ov_loadAt oc32 rfl hb_g1 rfl) rfl rfl rfl ?_
  refine wl_val (ov_build (cs := [(.slice A l.length c), (.bool false)]) ze78 pl78 rfl rfl) rfl rfl rfl ?_
  refine wl_step (or_call0 cl32 rfl rfl (xnum_eq _ _ _ A c l false hr (by omega) (by omega) hN32)) rfl rfl rfl ?_
  rintro v w5 ⟨A32, c32, rfl, hr32, he32⟩
  replace hr := hr.ext he32
  replace hE := hE.tr he32
  replace hb_g1 := hb_g1.ext he32
  replace hb_g2 := hb_g2.ext he32
  replace hb_g4 := hb_g4.ext he32
  have hz_he32 := he32.size
  refine vm rfl rfl ?_
  iterate 2 refine vx rfl rfl rfl ?_
  refine wl_step (or_alloc (cs := [(.slice none 0 0), (.bool false)]) ze78 rfl) rfl rfl rfl ?_
  rintro v w6 ⟨g6, rfl, hb_g6, he6, hl6, hu6⟩
  replace hr := hr.ext he6
  replace hE := hE.tr he6
  replace hb_g1 := hb_g1.ext he6
  replace hb_g2 := hb_g2.ext he6
  replace hb_g4 := hb_g4.ext he6
  replace hr32 := hr32.ext he6
  have hz_he6 := he6.size
  refine va rfl rfl ?_
  refine wl_step0 (or_storeBlk (vs := [(.slice A32 L32.length c32), (.bool b32)]) sz78 rfl rfl (by simp [Value.oneCell']) hb_g6 rfl) rfl rfl ?_
  rintro _ w7 ⟨hN7, hg7⟩
  have hz_hg7 := hg7.size
  replace hr := hr.gr hg7 (fun _ e => by cases e; omega)
  replace hE := hE.gr hg7 (fun _ e => by cases e; omega)
  replace hb_g1 := hb_g1.gr hg7 (by intro e; cases e; omega)
  replace hb_g2 := hb_g2.gr hg7 (by intro e; cases e; omega)
  replace hb_g4 := hb_g4.gr hg7 (by intro e; cases e; omega)
  replace hr32 := hr32.gr hg7 (fun _ e => by cases e; omega)
  replace hb_g6 := hN7
  refine q_nil (k_then (wc_seq (wc_seq (wc_regionL ?_))))
  refine vm rfl rfl ?_
  refine wl_val (ov_gtr rfl rfl) rfl rfl rfl ?_
  refine q_nil (k_then ?_)
  refine wc_cond_d rfl (fun hc2 => ?_) (fun hc2 => ?_)
  · have hbad : refRd op l = (rspO 0 0, false) := (refRd_1 hN32).trans (if_pos (.inr (by omega)))
    refine wc_seq (wc_regionL ?_)
    refine wl_val (ov_build (cs := [(.int .i64 0), (.int .i64 0), (.slice none 0 0), (.int .u64 0), (.int .i64 0), (.slice none 0 0)]) ze28 pl28 rfl rfl) rfl rfl rfl ?_
    refine wl_step0 (or_storeBlk (vs := [(.int .i64 0), (.int .i64 0), (.slice none 0 0), (.int .u64 0), (.int .i64 0), (.slice none 0 0)]) sz28 rfl rfl (by simp [Value.oneCell']) hb_g2 rfl) rfl rfl ?_
    rintro _ w8 ⟨hN8, hg8⟩
    have hz_hg8 := hg8.size
    replace hr := hr.gr hg8 (fun _ e => by cases e; omega)
    replace hE := hE.gr hg8 (fun _ e => by cases e; omega)
    replace hb_g1 := hb_g1.gr hg8 (by intro e; cases e; omega)
    replace hb_g4 := hb_g4.gr hg8 (by intro e; cases e; omega)
    replace hr32 := hr32.gr hg8 (fun _ e => by cases e; omega)
    replace hb_g6 := hb_g6.gr hg8 (by intro e; cases e; omega)
    replace hb_g2 := hN8
    refine va rfl rfl ?_
    refine q_nil (k_then (q_ret (k_thenR ?_)))
    refine e_retL (rs := [.cell 2 28, .tmp 3]) (vs := [.agg #[(.int .i64 0), (.int .i64 0), (.slice none 0 0), (.int .u64 0), (.int .i64 0), (.slice none 0 0)], (.bool false)]) rfl ⟨⟨_, _, [(.int .i64 0), (.int .i64 0), (.slice none 0 0), (.int .u64 0), (.int .i64 0), (.slice none 0 0)], rfl, ag28_6, hb_g2, rfl⟩, rfl, trivial⟩ ?_
    rw [hbad]
    exact ⟨[], none, 0, none, 0, rfl, rfl, (RdI.nil _ _ _), (Rd.nil _ _ _ _ _ _ (Nat.zero_le _)), hE⟩
  · have hle : ¬ (¬ (0 ≤ op ∧ op ≤ 15) ∨ 100000 < n32) := by omega
    refine q_skip (k_then (wc_seq (wc_regionL ?_)))
    refine vm rfl rfl ?_
    refine wl_val (ov_conv Try.underlying25 Try.underlying23 rfl (wi64 (by omega) (by omega))) rfl rfl rfl ?_
    refine wl_spell (d := 39) rfl (v' := (.int .i64 0)) (by rw [hn0]; rfl) ?_
    refine wl_val (ov_field0 (off := 1) fo28_1 rfl) rfl rfl rfl ?_
    refine wl_step0 (or_storeAt (cs' := [(.int .i64 op), (.int .i64 0), (.slice none 0 0), (.int .u64 0), (.int .i64 0), (.slice none 0 0)]) sz23 rfl rfl rfl hb_g4 rfl rfl) rfl rfl ?_
    rintro _ w208 ⟨hN208, hg208⟩
    have hz_hg208 := hg208.size
    replace hr := hr.gr hg208 (fun _ e => by cases e; omega)
    replace hE := hE.gr hg208 (fun _ e => by cases e; omega)
    replace hb_g1 := hb_g1.gr hg208 (by intro e; cases e; omega)
    replace hb_g2 := hb_g2.gr hg208 (by intro e; cases e; omega)
    replace hr32 := hr32.gr hg208 (fun _ e => by cases e; omega)
    replace hb_g6 := hb_g6.gr hg208 (by intro e; cases e; omega)
    replace hb_g4 := hN208
    refine q_nil (k_then (wc_seq (wc_seq (wc_regionL ?_))))
    refine vm rfl rfl ?_
    refine ve rfl rfl rfl ?_
    refine wl_spell (d := 5) rfl (v' := .int .u64 0) (by rw [hn0]; rfl) ?_
    refine wl_spell (d := 42) rfl (bt (by omega)) ?_
    refine q_nil (k_then ?_)
    refine wc_cond_t rfl ?_
    refine wc_seq (wc_regionL ?_)
    iterate 2 refine va rfl rfl ?_
    refine q_nil (k_then (wc_seq (wc_seq (wc_regionL ?_))))
    refine wl_val (ov_field0 (off := 0) fo28_0 rfl) rfl rfl rfl ?_
    refine wl_val (ov_loadAt oc22 rfl hb_g4 rfl) rfl rfl rfl ?_
    refine wl_val (or_call0 cl27 rfl rfl (needs8_any _ op)) rfl rfl rfl ?_
    refine q_nil (k_then ?_)
    have hgs : g2 ≠ g4 ∧ g2 ≠ g6 ∧ g4 ≠ g6 ∧ w.heap.size ≤ g2 ∧ w.heap.size ≤ g4 ∧ w.heap.size ≤ g6 := by omega
    refine wc_cutQ (σ := Nat × Nat × Nat × Nat × List UInt8 × Bool × Option Addr × Nat) (J := fun s w' => hX op L32 b32 = (s.1, s.2.1, s.2.2.1, s.2.2.2.1, s.2.2.2.2.1, s.2.2.2.2.2.1) ∧ Blk w' g2 28 (rspc (rspO 0 0) none 0 none 0) ∧ Blk w' g4 28 [.int .i64 op, .int .i64 0, .slice none 0 0, .int .u64 (s.2.1 : Int), .int .i64 0, .slice none 0 0] ∧ Blk w' g6 78 [.slice s.2.2.2.2.2.2.1 s.2.2.2.2.1.length s.2.2.2.2.2.2.2, .bool s.2.2.2.2.2.1] ∧ RdB w' lo hi s.2.2.2.2.2.2.1 s.2.2.2.2.2.2.2 s.2.2.2.2.1 ∧ s.2.2.2.2.1.length ≤ l.length ∧ s.1 < 18446744073709551616 ∧ s.2.1 < 18446744073709551616 ∧ s.2.2.1 < 18446744073709551616 ∧ s.2.2.2.1 < 18446744073709551616 ∧ Ext w w') (Lj := fun s => [(2, .pointer (some ⟨g2, 0, none⟩)), (4, .pointer (some ⟨g4, 0, none⟩)), (5, .int .u64 (s.1 : Int)), (6, .pointer (some ⟨g6, 0, none⟩)), (7, .int .u64 (s.2.2.1 : Int)), (8, .int .u64 (s.2.2.2.1 : Int))]) ?_ ?_
    · refine wc_block (wc_seq (wc_regionL ?_))
      refine ve rfl rfl rfl ?_
      refine va rfl rfl ?_
      refine q_nil (k_then ?_)
      refine wc_cond_d rfl (fun hc4 => ?_) (fun hc4 => ?_)
      · refine wc_seq (wc_regionL ?_)
        refine wl_val (ov_loadBlk (cs := [(.slice A32 L32.length c32), (.bool b32)]) ag78_2 rfl hb_g6) rfl rfl rfl ?_
        obtain ⟨n50, L50, b50, hN50⟩ : ∃ x y z, numX L32 b32 = (x, y, z) := ⟨_, _, _, rfl⟩
        have hnl50 : L50.length ≤ L32.length := by have h := numX_len L32 b32; rw [hN50] at h; exact h
        have hnt50 : n50 < 18446744073709551616 := by have h := numX_lt L32 b32; rw [hN50] at h; exact h
        refine wl_step (or_call0 cl32 rfl rfl (xnum_eq _ _ _ A32 c32 L32 b32 hr32 (by omega) (by omega) hN50)) rfl rfl rfl ?_
        rintro v w209 ⟨A50, c50, rfl, hr50, he50⟩
        replace hr := hr.ext he50
        replace hE := hE.tr he50
        replace hb_g1 := hb_g1.ext he50
        replace hb_g2 := hb_g2.ext he50
        replace hb_g4 := hb_g4.ext he50
        replace hr32 := hr32.ext he50
        replace hb_g6 := hb_g6.ext he50
        have hz_he50 := he50.size
        refine vm rfl rfl ?_
        iterate 2 refine vx rfl rfl rfl ?_
        refine wl_val (ov_field0 (off := 3) fo28_3 rfl) rfl rfl rfl ?_
        refine wl_step0 (or_storeAt (cs' := [(.int .i64 op), (.int .i64 0), (.slice none 0 0), (.int .u64 (↑n50 : Int)), (.int .i64 0), (.slice none 0 0)]) sz25 rfl rfl rfl hb_g4 rfl rfl) rfl rfl ?_
        rintro _ w210 ⟨hN210, hg210⟩
        have hz_hg210 := hg210.size
        replace hr := hr.gr hg210 (fun _ e => by cases e; omega)
        replace hE := hE.gr hg210 (fun _ e => by cases e; omega)
        replace hb_g1 := hb_g1.gr hg210 (by intro e; cases e; omega)
        replace hb_g2 := hb_g2.gr hg210 (by intro e; cases e; omega)
        replace hr32 := hr32.gr hg210 (fun _ e => by cases e; omega)
        replace hb_g6 := hb_g6.gr hg210 (by intro e; cases e; omega)
        replace hr50 := hr50.gr hg210 (fun _ e => by cases e; omega)
        replace hb_g4 := hN210
        refine wl_step0 (or_storeBlk (vs := [(.slice A50 L50.length c50), (.bool b50)]) sz78 rfl rfl (by simp [Value.oneCell']) hb_g6 rfl) rfl rfl ?_
        rintro _ w211 ⟨hN211, hg211⟩
        have hz_hg211 := hg211.size
        replace hr := hr.gr hg211 (fun _ e => by cases e; omega)
        replace hE := hE.gr hg211 (fun _ e => by cases e; omega)
        replace hb_g1 := hb_g1.gr hg211 (by intro e; cases e; omega)
        replace hb_g2 := hb_g2.gr hg211 (by intro e; cases e; omega)
        replace hb_g4 := hb_g4.gr hg211 (by intro e; cases e; omega)
        replace hr32 := hr32.gr hg211 (fun _ e => by cases e; omega)
        replace hr50 := hr50.gr hg211 (fun _ e => by cases e; omega)
        replace hb_g6 := hN211
        refine q_nil (k_then (wc_regionL ?_))
        refine wl_val (ov_loadBlk (cs := [(.slice A50 L50.length c50), (.bool b50)]) ag78_2 rfl hb_g6) rfl rfl rfl ?_
        obtain ⟨n56, L56, b56, hN56⟩ : ∃ x y z, numX L50 b50 = (x, y, z) := ⟨_, _, _, rfl⟩
        have hnl56 : L56.length ≤ L50.length := by have h := numX_len L50 b50; rw [hN56] at h; exact h
        have hnt56 : n56 < 18446744073709551616 := by have h := numX_lt L50 b50; rw [hN56] at h; exact h
        refine wl_step (or_call0 cl32 rfl rfl (xnum_eq _ _ _ A50 c50 L50 b50 hr50 (by omega) (by omega) hN56)) rfl rfl rfl ?_
        rintro v w212 ⟨A56, c56, rfl, hr56, he56⟩
        replace hr := hr.ext he56
        replace hE := hE.tr he56
        replace hb_g1 := hb_g1.ext he56
        replace hb_g2 := hb_g2.ext he56
        replace hb_g4 := hb_g4.ext he56
        replace hr32 := hr32.ext he56
        replace hb_g6 := hb_g6.ext he56
        replace hr50 := hr50.ext he56
        have hz_he56 := he56.size
        refine vm rfl rfl ?_
        iterate 2 refine vx rfl rfl rfl ?_
        refine va rfl rfl ?_
        refine wl_step0 (or_storeBlk (vs := [(.slice A56 L56.length c56), (.bool b56)]) sz78 rfl rfl (by simp [Value.oneCell']) hb_g6 rfl) rfl rfl ?_
        rintro _ w213 ⟨hN213, hg213⟩
        have hz_hg213 := hg213.size
        replace hr := hr.gr hg213 (fun _ e => by cases e; omega)
        replace hE := hE.gr hg213 (fun _ e => by cases e; omega)
        replace hb_g1 := hb_g1.gr hg213 (by intro e; cases e; omega)
        replace hb_g2 := hb_g2.gr hg213 (by intro e; cases e; omega)
        replace hb_g4 := hb_g4.gr hg213 (by intro e; cases e; omega)
        replace hr32 := hr32.gr hg213 (fun _ e => by cases e; omega)
        replace hr50 := hr50.gr hg213 (fun _ e => by cases e; omega)
        replace hr56 := hr56.gr hg213 (fun _ e => by cases e; omega)
        replace hb_g6 := hN213
        refine q_nil (k_block ?_)
        refine k_cut ((n56, n50, 0, 0, L56, b56, A56, c56)) (⟨rfl, rfl, rfl, rfl, rfl, rfl, trivial⟩) (⟨hX_W (by omega) hN50 hN56, hb_g2, hb_g4, hb_g6, hr56, (by show L56.length ≤ l.length; omega), (by show (n56 : Nat) < 18446744073709551616; omega), (by show (n50 : Nat) < 18446744073709551616; omega), (by show (0 : Nat) < 18446744073709551616; decide), (by show (0 : Nat) < 18446744073709551616; decide), hE⟩)
      · refine wc_seq (wc_regionL ?_)
        refine ve rfl rfl rfl ?_
        refine va rfl rfl ?_
        refine q_nil (k_then ?_)
        refine wc_cond_d rfl (fun hc5 => ?_) (fun hc5 => ?_)
        · refine wc_regionL ?_
          refine va rfl rfl ?_
          refine q_nil (k_block ?_)
          refine k_cut ((0, 0, 1, 0, L32, b32, A32, c32)) (⟨rfl, rfl, rfl, rfl, rfl, rfl, trivial⟩) (⟨hX_I (by omega), hb_g2, hb_g4, hb_g6, hr32, (by show L32.length ≤ l.length; omega), (by show (0 : Nat) < 18446744073709551616; decide), (by show (0 : Nat) < 18446744073709551616; decide), (by show (1 : Nat) < 18446744073709551616; decide), (by show (0 : Nat) < 18446744073709551616; decide), hE⟩)
        · refine wc_seq (wc_regionL ?_)
          refine ve rfl rfl rfl ?_
          refine va rfl rfl ?_
          refine q_nil (k_then ?_)
          refine wc_cond_d rfl (fun hc6 => ?_) (fun hc6 => ?_)
          · refine wc_regionL ?_
            refine wl_val (ov_loadBlk (cs := [(.slice A32 L32.length c32), (.bool b32)]) ag78_2 rfl hb_g6) rfl rfl rfl ?_
            obtain ⟨n65, L65, b65, hN65⟩ : ∃ x y z, numX L32 b32 = (x, y, z) := ⟨_, _, _, rfl⟩
            have hnl65 : L65.length ≤ L32.length := by have h := numX_len L32 b32; rw [hN65] at h; exact h
            have hnt65 : n65 < 18446744073709551616 := by have h := numX_lt L32 b32; rw [hN65] at h; exact h
            refine wl_step (or_call0 cl32 rfl rfl (xnum_eq _ _ _ A32 c32 L32 b32 hr32 (by omega) (by omega) hN65)) rfl rfl rfl ?_
            rintro v w209 ⟨A65, c65, rfl, hr65, he65⟩
            replace hr := hr.ext he65
            replace hE := hE.tr he65
            replace hb_g1 := hb_g1.ext he65
            replace hb_g2 := hb_g2.ext he65
            replace hb_g4 := hb_g4.ext he65
            replace hr32 := hr32.ext he65
            replace hb_g6 := hb_g6.ext he65
            have hz_he65 := he65.size
            refine vm rfl rfl ?_
            iterate 2 refine vx rfl rfl rfl ?_
            refine va rfl rfl ?_
            refine wl_step0 (or_storeBlk (vs := [(.slice A65 L65.length c65), (.bool b65)]) sz78 rfl rfl (by simp [Value.oneCell']) hb_g6 rfl) rfl rfl ?_
            rintro _ w210 ⟨hN210, hg210⟩
            have hz_hg210 := hg210.size
            replace hr := hr.gr hg210 (fun _ e => by cases e; omega)
            replace hE := hE.gr hg210 (fun _ e => by cases e; omega)
            replace hb_g1 := hb_g1.gr hg210 (by intro e; cases e; omega)
            replace hb_g2 := hb_g2.gr hg210 (by intro e; cases e; omega)
            replace hb_g4 := hb_g4.gr hg210 (by intro e; cases e; omega)
            replace hr32 := hr32.gr hg210 (fun _ e => by cases e; omega)
            replace hr65 := hr65.gr hg210 (fun _ e => by cases e; omega)
            replace hb_g6 := hN210
            refine q_nil (k_block ?_)
            refine k_cut ((0, 0, n65, 0, L65, b65, A65, c65)) (⟨rfl, rfl, rfl, rfl, rfl, rfl, trivial⟩) (⟨hX_M (by omega) hN65, hb_g2, hb_g4, hb_g6, hr65, (by show L65.length ≤ l.length; omega), (by show (0 : Nat) < 18446744073709551616; decide), (by show (0 : Nat) < 18446744073709551616; decide), (by show (n65 : Nat) < 18446744073709551616; omega), (by show (0 : Nat) < 18446744073709551616; decide), hE⟩)
          · refine wc_seq (wc_regionL ?_)
            refine ve rfl rfl rfl ?_
            refine va rfl rfl ?_
            refine q_nil (k_then ?_)
            refine wc_cond_d rfl (fun hc7 => ?_) (fun hc7 => ?_)
            · refine wc_regionL ?_
              refine wl_val (ov_loadBlk (cs := [(.slice A32 L32.length c32), (.bool b32)]) ag78_2 rfl hb_g6) rfl rfl rfl ?_
              obtain ⟨n72, L72, b72, hN72⟩ : ∃ x y z, numX L32 b32 = (x, y, z) := ⟨_, _, _, rfl⟩
              have hnl72 : L72.length ≤ L32.length := by have h := numX_len L32 b32; rw [hN72] at h; exact h
              have hnt72 : n72 < 18446744073709551616 := by have h := numX_lt L32 b32; rw [hN72] at h; exact h
              refine wl_step (or_call0 cl32 rfl rfl (xnum_eq _ _ _ A32 c32 L32 b32 hr32 (by omega) (by omega) hN72)) rfl rfl rfl ?_
              rintro v w209 ⟨A72, c72, rfl, hr72, he72⟩
              replace hr := hr.ext he72
              replace hE := hE.tr he72
              replace hb_g1 := hb_g1.ext he72
              replace hb_g2 := hb_g2.ext he72
              replace hb_g4 := hb_g4.ext he72
              replace hr32 := hr32.ext he72
              replace hb_g6 := hb_g6.ext he72
              have hz_he72 := he72.size
              refine vm rfl rfl ?_
              iterate 2 refine vx rfl rfl rfl ?_
              refine va rfl rfl ?_
              refine wl_step0 (or_storeBlk (vs := [(.slice A72 L72.length c72), (.bool b72)]) sz78 rfl rfl (by simp [Value.oneCell']) hb_g6 rfl) rfl rfl ?_
              rintro _ w210 ⟨hN210, hg210⟩
              have hz_hg210 := hg210.size
              replace hr := hr.gr hg210 (fun _ e => by cases e; omega)
              replace hE := hE.gr hg210 (fun _ e => by cases e; omega)
              replace hb_g1 := hb_g1.gr hg210 (by intro e; cases e; omega)
              replace hb_g2 := hb_g2.gr hg210 (by intro e; cases e; omega)
              replace hb_g4 := hb_g4.gr hg210 (by intro e; cases e; omega)
              replace hr32 := hr32.gr hg210 (fun _ e => by cases e; omega)
              replace hr72 := hr72.gr hg210 (fun _ e => by cases e; omega)
              replace hb_g6 := hN210
              refine q_nil (k_block ?_)
              refine k_cut ((n72, 0, 0, 0, L72, b72, A72, c72)) (⟨rfl, rfl, rfl, rfl, rfl, rfl, trivial⟩) (⟨hX_C (by omega) hN72, hb_g2, hb_g4, hb_g6, hr72, (by show L72.length ≤ l.length; omega), (by show (n72 : Nat) < 18446744073709551616; omega), (by show (0 : Nat) < 18446744073709551616; decide), (by show (0 : Nat) < 18446744073709551616; decide), (by show (0 : Nat) < 18446744073709551616; decide), hE⟩)
            · refine wc_seq (wc_regionL ?_)
              refine ve rfl rfl rfl ?_
              refine va rfl rfl ?_
              refine q_nil (k_then ?_)
              refine wc_cond_d rfl (fun hc8 => ?_) (fun hc8 => ?_)
              · refine wc_regionL ?_
                refine wl_val (ov_loadBlk (cs := [(.slice A32 L32.length c32), (.bool b32)]) ag78_2 rfl hb_g6) rfl rfl rfl ?_
                obtain ⟨n79, L79, b79, hN79⟩ : ∃ x y z, numX L32 b32 = (x, y, z) := ⟨_, _, _, rfl⟩
                have hnl79 : L79.length ≤ L32.length := by have h := numX_len L32 b32; rw [hN79] at h; exact h
                have hnt79 : n79 < 18446744073709551616 := by have h := numX_lt L32 b32; rw [hN79] at h; exact h
                refine wl_step (or_call0 cl32 rfl rfl (xnum_eq _ _ _ A32 c32 L32 b32 hr32 (by omega) (by omega) hN79)) rfl rfl rfl ?_
                rintro v w209 ⟨A79, c79, rfl, hr79, he79⟩
                replace hr := hr.ext he79
                replace hE := hE.tr he79
                replace hb_g1 := hb_g1.ext he79
                replace hb_g2 := hb_g2.ext he79
                replace hb_g4 := hb_g4.ext he79
                replace hr32 := hr32.ext he79
                replace hb_g6 := hb_g6.ext he79
                have hz_he79 := he79.size
                refine vm rfl rfl ?_
                iterate 2 refine vx rfl rfl rfl ?_
                refine va rfl rfl ?_
                refine wl_step0 (or_storeBlk (vs := [(.slice A79 L79.length c79), (.bool b79)]) sz78 rfl rfl (by simp [Value.oneCell']) hb_g6 rfl) rfl rfl ?_
                rintro _ w210 ⟨hN210, hg210⟩
                have hz_hg210 := hg210.size
                replace hr := hr.gr hg210 (fun _ e => by cases e; omega)
                replace hE := hE.gr hg210 (fun _ e => by cases e; omega)
                replace hb_g1 := hb_g1.gr hg210 (by intro e; cases e; omega)
                replace hb_g2 := hb_g2.gr hg210 (by intro e; cases e; omega)
                replace hb_g4 := hb_g4.gr hg210 (by intro e; cases e; omega)
                replace hr32 := hr32.gr hg210 (fun _ e => by cases e; omega)
                replace hr79 := hr79.gr hg210 (fun _ e => by cases e; omega)
                replace hb_g6 := hN210
                refine q_nil (k_block ?_)
                refine k_cut ((0, 0, 0, n79, L79, b79, A79, c79)) (⟨rfl, rfl, rfl, rfl, rfl, rfl, trivial⟩) (⟨hX_N (by omega) hN79, hb_g2, hb_g4, hb_g6, hr79, (by show L79.length ≤ l.length; omega), (by show (0 : Nat) < 18446744073709551616; decide), (by show (0 : Nat) < 18446744073709551616; decide), (by show (0 : Nat) < 18446744073709551616; decide), (by show (n79 : Nat) < 18446744073709551616; omega), hE⟩)
              · refine q_skip (k_block ?_)
                refine k_cut ((0, 0, 0, 0, L32, b32, A32, c32)) (⟨rfl, rfl, rfl, rfl, rfl, rfl, trivial⟩) (⟨hX_0 (by omega) (by omega) (by omega) (by omega) (by omega), hb_g2, hb_g4, hb_g6, hr32, (by show L32.length ≤ l.length; omega), (by show (0 : Nat) < 18446744073709551616; decide), (by show (0 : Nat) < 18446744073709551616; decide), (by show (0 : Nat) < 18446744073709551616; decide), (by show (0 : Nat) < 18446744073709551616; decide), hE⟩)
    · rintro ⟨n, vr, it, nu, lq, bq, A6, c6⟩ wc ⟨hX0, hb_g2, hb_g4, hb_g6, hr6, hql, hnb, hvb, hib, hub, hE⟩
      show KQ _ _ _ [(2, (.pointer (some ⟨g2, 0, none⟩))), (4, (.pointer (some ⟨g4, 0, none⟩))), (5, (.int .u64 (↑n : Int))), (6, (.pointer (some ⟨g6, 0, none⟩))), (7, (.int .u64 (↑it : Int))), (8, (.int .u64 (↑nu : Int)))] _
      simp only at hX0 hql hnb hvb hib hub
      have hrf : refRd op l = tailX op (n, vr, it, nu, lq, bq) := by rw [refRd_1 hN32, if_neg hle, if_neg (fun q => q hn0), hX0]
      have hz_E := hE.size
      have hz2 := hb_g2.lt
      have hz4 := hb_g4.lt
      have hz6 := hb_g6.lt
      replace hr6 : RdB wc lo hi A6 c6 lq := hr6
      obtain ⟨hg24, hg26, hg46, hg2w, hg4w, hg6w⟩ := hgs
      refine k_then (wc_seq (wc_seq (wc_regionL ?_)))
      refine vm rfl rfl ?_
      refine wl_val (ov_gtr rfl rfl) rfl rfl rfl ?_
      refine wl_case_d (d := 83) rfl (fun h83 => ?_) (fun h83 => ?_)
      · have hbad : refRd op l = (rspO 0 0, false) := hrf.trans (if_pos (.inl (by show 1099511627776 < n; omega)))
        refine vm rfl rfl ?_
        iterate 2 refine wl_gskip rfl rfl rfl rfl rfl rfl ?_
        refine wl_val (ov_pick_t rfl rfl) rfl rfl rfl ?_
        refine vm rfl rfl ?_
        iterate 2 refine wl_gskip rfl rfl rfl rfl rfl rfl ?_
        refine wl_val (ov_pick_t rfl rfl) rfl rfl rfl ?_
        refine q_nil (k_then ?_)
        refine wc_cond_t rfl ?_
        refine wc_seq (wc_regionL ?_)
        refine wl_val (ov_build (cs := [(.int .i64 0), (.int .i64 0), (.slice none 0 0), (.int .u64 0), (.int .i64 0), (.slice none 0 0)]) ze28 pl28 rfl rfl) rfl rfl rfl ?_
        refine wl_step0 (or_storeBlk (vs := [(.int .i64 0), (.int .i64 0), (.slice none 0 0), (.int .u64 0), (.int .i64 0), (.slice none 0 0)]) sz28 rfl rfl (by simp [Value.oneCell']) hb_g2 rfl) rfl rfl ?_
        rintro _ w209 ⟨hN209, hg209⟩
        have hz_hg209 := hg209.size
        replace hb_g4 := hb_g4.gr hg209 (by intro e; cases e; omega)
        replace hb_g6 := hb_g6.gr hg209 (by intro e; cases e; omega)
        replace hr6 := hr6.gr hg209 (fun _ e => by cases e; omega)
        replace hE := hE.gr hg209 (fun _ e => by cases e; omega)
        replace hb_g2 := hN209
        refine va rfl rfl ?_
        refine q_nil (k_then (q_ret (k_thenR (k_thenR ?_))))
        refine e_retL (rs := [.cell 2 28, .tmp 3]) (vs := [.agg #[(.int .i64 0), (.int .i64 0), (.slice none 0 0), (.int .u64 0), (.int .i64 0), (.slice none 0 0)], (.bool false)]) rfl ⟨⟨_, _, [(.int .i64 0), (.int .i64 0), (.slice none 0 0), (.int .u64 0), (.int .i64 0), (.slice none 0 0)], rfl, ag28_6, hb_g2, rfl⟩, rfl, trivial⟩ ?_
        rw [hbad]
        exact ⟨[], none, 0, none, 0, rfl, rfl, (RdI.nil _ _ _), (Rd.nil _ _ _ _ _ _ (Nat.zero_le _)), hE⟩
      · refine vm rfl rfl ?_
        refine wl_gval (ov_move rfl) rfl rfl rfl rfl rfl ?_
        refine wl_gval (ov_gtr rfl rfl) rfl rfl rfl rfl rfl ?_
        refine wl_case_d (d := 86) rfl (fun h86 => ?_) (fun h86 => ?_)
        · have hbad : refRd op l = (rspO 0 0, false) := hrf.trans (if_pos (.inr (.inl (by show 16 < it; omega))))
          refine wl_val (ov_pick_f rfl rfl) rfl rfl rfl ?_
          refine vm rfl rfl ?_
          iterate 2 refine wl_gskip rfl rfl rfl rfl rfl rfl ?_
          refine wl_val (ov_pick_t rfl rfl) rfl rfl rfl ?_
          refine q_nil (k_then ?_)
          refine wc_cond_t rfl ?_
          refine wc_seq (wc_regionL ?_)
          refine wl_val (ov_build (cs := [(.int .i64 0), (.int .i64 0), (.slice none 0 0), (.int .u64 0), (.int .i64 0), (.slice none 0 0)]) ze28 pl28 rfl rfl) rfl rfl rfl ?_
          refine wl_step0 (or_storeBlk (vs := [(.int .i64 0), (.int .i64 0), (.slice none 0 0), (.int .u64 0), (.int .i64 0), (.slice none 0 0)]) sz28 rfl rfl (by simp [Value.oneCell']) hb_g2 rfl) rfl rfl ?_
          rintro _ w209 ⟨hN209, hg209⟩
          have hz_hg209 := hg209.size
          replace hb_g4 := hb_g4.gr hg209 (by intro e; cases e; omega)
          replace hb_g6 := hb_g6.gr hg209 (by intro e; cases e; omega)
          replace hr6 := hr6.gr hg209 (fun _ e => by cases e; omega)
          replace hE := hE.gr hg209 (fun _ e => by cases e; omega)
          replace hb_g2 := hN209
          refine va rfl rfl ?_
          refine q_nil (k_then (q_ret (k_thenR (k_thenR ?_))))
          refine e_retL (rs := [.cell 2 28, .tmp 3]) (vs := [.agg #[(.int .i64 0), (.int .i64 0), (.slice none 0 0), (.int .u64 0), (.int .i64 0), (.slice none 0 0)], (.bool false)]) rfl ⟨⟨_, _, [(.int .i64 0), (.int .i64 0), (.slice none 0 0), (.int .u64 0), (.int .i64 0), (.slice none 0 0)], rfl, ag28_6, hb_g2, rfl⟩, rfl, trivial⟩ ?_
          rw [hbad]
          exact ⟨[], none, 0, none, 0, rfl, rfl, (RdI.nil _ _ _), (Rd.nil _ _ _ _ _ _ (Nat.zero_le _)), hE⟩
        · refine wl_val (ov_pick_f rfl rfl) rfl rfl rfl ?_
          refine vm rfl rfl ?_
          refine wl_gval (ov_move rfl) rfl rfl rfl rfl rfl ?_
          refine wl_gval (ov_gtr rfl rfl) rfl rfl rfl rfl rfl ?_
          refine wl_case_d (d := 90) rfl (fun h90 => ?_) (fun h90 => ?_)
          · have hbad : refRd op l = (rspO 0 0, false) := hrf.trans (if_pos (.inr (.inr (.inl (by show 64 < nu; omega)))))
            refine wl_val (ov_pick_f rfl rfl) rfl rfl rfl ?_
            refine q_nil (k_then ?_)
            refine wc_cond_t rfl ?_
            refine wc_seq (wc_regionL ?_)
            refine wl_val (ov_build (cs := [(.int .i64 0), (.int .i64 0), (.slice none 0 0), (.int .u64 0), (.int .i64 0), (.slice none 0 0)]) ze28 pl28 rfl rfl) rfl rfl rfl ?_
            refine wl_step0 (or_storeBlk (vs := [(.int .i64 0), (.int .i64 0), (.slice none 0 0), (.int .u64 0), (.int .i64 0), (.slice none 0 0)]) sz28 rfl rfl (by simp [Value.oneCell']) hb_g2 rfl) rfl rfl ?_
            rintro _ w209 ⟨hN209, hg209⟩
            have hz_hg209 := hg209.size
            replace hb_g4 := hb_g4.gr hg209 (by intro e; cases e; omega)
            replace hb_g6 := hb_g6.gr hg209 (by intro e; cases e; omega)
            replace hr6 := hr6.gr hg209 (fun _ e => by cases e; omega)
            replace hE := hE.gr hg209 (fun _ e => by cases e; omega)
            replace hb_g2 := hN209
            refine va rfl rfl ?_
            refine q_nil (k_then (q_ret (k_thenR (k_thenR ?_))))
            refine e_retL (rs := [.cell 2 28, .tmp 3]) (vs := [.agg #[(.int .i64 0), (.int .i64 0), (.slice none 0 0), (.int .u64 0), (.int .i64 0), (.slice none 0 0)], (.bool false)]) rfl ⟨⟨_, _, [(.int .i64 0), (.int .i64 0), (.slice none 0 0), (.int .u64 0), (.int .i64 0), (.slice none 0 0)], rfl, ag28_6, hb_g2, rfl⟩, rfl, trivial⟩ ?_
            rw [hbad]
            exact ⟨[], none, 0, none, 0, rfl, rfl, (RdI.nil _ _ _), (Rd.nil _ _ _ _ _ _ (Nat.zero_le _)), hE⟩
          · refine wl_val (ov_pick_f rfl rfl) rfl rfl rfl ?_
            refine q_nil (k_then ?_)
            refine wc_cond_f rfl ?_
            refine q_skip (k_then (wc_seq (wc_regionL ?_)))
            refine vm rfl rfl ?_
            refine wl_val (ov_conv Try.underlying25 Try.underlying3 rfl (wi64 (by omega) (by omega))) rfl rfl rfl ?_
            refine wl_val (ov_field0 (off := 4) fo28_4 rfl) rfl rfl rfl ?_
            refine wl_step0 (or_storeAt (cs' := [(.int .i64 op), (.int .i64 0), (.slice none 0 0), (.int .u64 (↑vr : Int)), (.int .i64 (↑n : Int)), (.slice none 0 0)]) sz3 rfl rfl rfl hb_g4 rfl rfl) rfl rfl ?_
            rintro _ w209 ⟨hN209, hg209⟩
            have hz_hg209 := hg209.size
            replace hb_g2 := hb_g2.gr hg209 (by intro e; cases e; omega)
            replace hb_g6 := hb_g6.gr hg209 (by intro e; cases e; omega)
            replace hr6 := hr6.gr hg209 (fun _ e => by cases e; omega)
            replace hE := hE.gr hg209 (fun _ e => by cases e; omega)
            replace hb_g4 := hN209
            refine q_nil (k_then (wc_seq (wc_seq (wc_regionL ?_))))
            refine va rfl rfl ?_
            refine q_nil (k_then (wc_block ?_))
            refine wc_loop (σ := Nat × List IT × Option Addr × Nat × (List UInt8 × Bool) × Option Addr × Nat) (fun s => it - s.1) (fun s => [(2, .pointer (some ⟨g2, 0, none⟩)), (4, .pointer (some ⟨g4, 0, none⟩)), (6, .pointer (some ⟨g6, 0, none⟩)), (7, .int .u64 (it : Int)), (8, .int .u64 (nu : Int)), (9, .int .u64 (s.1 : Int))]) (fun s w' => s.1 ≤ it ∧ s.2.1.length = s.1 ∧ xS s.1 lq bq = (vals s.2.1, s.2.2.2.2.1) ∧ xM s.1 lq bq = true ∧ Own w' w.heap.size 53 4 s.2.2.1 s.1 s.2.2.2.1 (s.2.1.flatMap itc) ∧ VO w' w.heap.size s.2.1 ∧ Blk w' g2 28 (rspc (rspO 0 0) none 0 none 0) ∧ Blk w' g4 28 [.int .i64 op, .int .i64 0, .slice s.2.2.1 s.1 s.2.2.2.1, .int .u64 (vr : Int), .int .i64 (n : Int), .slice none 0 0] ∧ Blk w' g6 78 [.slice s.2.2.2.2.2.1 s.2.2.2.2.1.1.length s.2.2.2.2.2.2, .bool s.2.2.2.2.1.2] ∧ RdB w' lo hi s.2.2.2.2.2.1 s.2.2.2.2.2.2 s.2.2.2.2.1.1 ∧ Ext w w') ((0, [], none, 0, (lq, bq), A6, c6)) (⟨Nat.zero_le _, rfl, rfl, rfl, Own.nil_ _ _ _ _, (fun _ h => by cases h), hb_g2, hb_g4, hb_g6, hr6, hE⟩) (⟨rfl, rfl, rfl, rfl, rfl, rfl, trivial⟩) ?_
            rintro ⟨i, ys, X, cx, ⟨lk, bk⟩, A6, c6⟩ wq ⟨hi0, hyl, hxs, hxm, hoX, hvo, hb_g2, hb_g4, hb_g6, hr6, hE⟩
            show WC _ _ _ _ [(2, (.pointer (some ⟨g2, 0, none⟩))), (4, (.pointer (some ⟨g4, 0, none⟩))), (6, (.pointer (some ⟨g6, 0, none⟩))), (7, (.int .u64 (↑it : Int))), (8, (.int .u64 (↑nu : Int))), (9, (.int .u64 (↑i : Int)))] _
            simp only at hi0 hyl hxs hxm
            replace hr6 : RdB wq lo hi A6 c6 lk := hr6
            replace hb_g6 : Blk wq g6 78 [.slice A6 lk.length c6, .bool bk] := hb_g6
            replace hb_g4 : Blk wq g4 28 [.int .i64 op, .int .i64 0, .slice X i cx, .int .u64 (vr : Int), .int .i64 (n : Int), .slice none 0 0] := hb_g4
            replace hoX : Own wq w.heap.size 53 4 X i cx (ys.flatMap itc) := hoX
            replace hvo : VO wq w.heap.size ys := hvo
            have hz_E := hE.size
            have hz2 := hb_g2.lt
            have hz4 := hb_g4.lt
            have hz6 := hb_g6.lt
            have hkl := (xS_len lq bq i).2
            rw [hxs] at hkl
            replace hkl : lk.length ≤ lq.length := hkl
            have hq_hoX := fun g e => Own.lt hoX (g := g) e
            refine wc_seq (wc_seq (wc_regionL ?_))
            iterate 2 refine vm rfl rfl ?_
            refine wl_val (ov_lss rfl rfl) rfl rfl rfl ?_
            refine q_nil (k_then ?_)
            refine wc_cond_d rfl (fun hc10 => ?_) (fun hc10 => ?_)
            · refine q_skip (k_then (wc_seq (wc_block (wc_seq (wc_regionL ?_)))))
              refine wl_step (or_alloc (cs := [(.int .i64 0), (.slice none 0 0), (.int .u64 0), (.int .u64 0)]) ze53 rfl) rfl rfl rfl ?_
              rintro v w210 ⟨g10, rfl, hb_g10, he10, hl10, hu10⟩
              replace hb_g2 := hb_g2.ext he10
              replace hb_g4 := hb_g4.ext he10
              replace hb_g6 := hb_g6.ext he10
              replace hr6 := hr6.ext he10
              replace hoX := Own.ext hoX he10
              replace hvo := VO.ext hvo he10
              replace hE := hE.tr he10
              have hz_he10 := he10.size
              refine q_nil (k_then (wc_seq (wc_regionL ?_)))
              refine va rfl rfl ?_
              refine q_nil (k_then (wc_seq (wc_regionL ?_)))
              refine wl_val (ov_loadBlk (cs := [(.slice A6 lk.length c6), (.bool bk)]) ag78_2 rfl hb_g6) rfl rfl rfl ?_
              obtain ⟨n103, L103, b103, hN103⟩ : ∃ x y z, numX lk bk = (x, y, z) := ⟨_, _, _, rfl⟩
              have hnl103 : L103.length ≤ lk.length := by have h := numX_len lk bk; rw [hN103] at h; exact h
              have hnt103 : n103 < 18446744073709551616 := by have h := numX_lt lk bk; rw [hN103] at h; exact h
              refine wl_step (or_call0 cl32 rfl rfl (xnum_eq _ _ _ A6 c6 lk bk hr6 (by omega) (by omega) hN103)) rfl rfl rfl ?_
              rintro v w211 ⟨A103, c103, rfl, hr103, he103⟩
              replace hb_g2 := hb_g2.ext he103
              replace hb_g4 := hb_g4.ext he103
              replace hb_g6 := hb_g6.ext he103
              replace hr6 := hr6.ext he103
              replace hoX := Own.ext hoX he103
              replace hvo := VO.ext hvo he103
              replace hE := hE.tr he103
              replace hb_g10 := hb_g10.ext he103
              have hz_he103 := he103.size
              refine vm rfl rfl ?_
              iterate 2 refine vx rfl rfl rfl ?_
              refine va rfl rfl ?_
              refine wl_step0 (or_storeBlk (vs := [(.slice A103 L103.length c103), (.bool b103)]) sz78 rfl rfl (by simp [Value.oneCell']) hb_g6 rfl) rfl rfl ?_
              rintro _ w212 ⟨hN212, hg212⟩
              have hz_hg212 := hg212.size
              replace hb_g2 := hb_g2.gr hg212 (by intro e; cases e; omega)
              replace hb_g4 := hb_g4.gr hg212 (by intro e; cases e; omega)
              replace hr6 := hr6.gr hg212 (fun _ e => by cases e; omega)
              replace hoX := Own.gr hoX hg212 (by first | exact .inl rfl | (right; intro e; first | (have := hq_hoX _ e; omega) | (have := Own.lt hoX e; omega) | exact own_blk_ne hoX hb_g6 (by decide) e))
              replace hvo := VO.bk hvo hg212 hb_g6 (by decide)
              replace hE := hE.gr hg212 (fun _ e => by cases e; omega)
              replace hb_g10 := hb_g10.gr hg212 (by intro e; cases e; omega)
              replace hr103 := hr103.gr hg212 (fun _ e => by cases e; omega)
              replace hb_g6 := hN212
              refine q_nil (k_then (wc_seq (wc_seq (wc_regionL ?_))))
              refine vm rfl rfl ?_
              refine wl_val (ov_gtr rfl rfl) rfl rfl rfl ?_
              refine q_nil (k_then ?_)
              refine wc_cond_d rfl (fun hc11 => ?_) (fun hc11 => ?_)
              · have hbad : refRd op l = (rspO 0 0, false) := hrf.trans (if_pos (.inr (.inr (.inr (xM_mono (k := i + 1) (by rw [xM, hxs]; show (_ && decide ((numX lk bk).1 ≤ 2)) = false; rw [hN103]; show (_ && decide (n103 ≤ 2)) = false; rw [decide_eq_false (by omega), Bool.and_false]) it (by omega))))))
                refine wc_seq (wc_regionL ?_)
                refine wl_val (ov_build (cs := [(.int .i64 0), (.int .i64 0), (.slice none 0 0), (.int .u64 0), (.int .i64 0), (.slice none 0 0)]) ze28 pl28 rfl rfl) rfl rfl rfl ?_
                refine wl_step0 (or_storeBlk (vs := [(.int .i64 0), (.int .i64 0), (.slice none 0 0), (.int .u64 0), (.int .i64 0), (.slice none 0 0)]) sz28 rfl rfl (by simp [Value.oneCell']) hb_g2 rfl) rfl rfl ?_
                rintro _ w213 ⟨hN213, hg213⟩
                have hz_hg213 := hg213.size
                replace hb_g4 := hb_g4.gr hg213 (by intro e; cases e; omega)
                replace hb_g6 := hb_g6.gr hg213 (by intro e; cases e; omega)
                replace hr6 := hr6.gr hg213 (fun _ e => by cases e; omega)
                replace hoX := Own.gr hoX hg213 (by first | exact .inl rfl | (right; intro e; first | (have := hq_hoX _ e; omega) | (have := Own.lt hoX e; omega) | exact own_blk_ne hoX hb_g2 (by decide) e))
                replace hvo := VO.bk hvo hg213 hb_g2 (by decide)
                replace hE := hE.gr hg213 (fun _ e => by cases e; omega)
                replace hb_g10 := hb_g10.gr hg213 (by intro e; cases e; omega)
                replace hr103 := hr103.gr hg213 (fun _ e => by cases e; omega)
                replace hb_g2 := hN213
                refine va rfl rfl ?_
                refine q_nil (k_then (q_ret (k_thenR (k_blockR (k_thenR (k_thenR (k_blockR (k_thenR (k_thenR ?_)))))))))
                refine e_retL (rs := [.cell 2 28, .tmp 3]) (vs := [.agg #[(.int .i64 0), (.int .i64 0), (.slice none 0 0), (.int .u64 0), (.int .i64 0), (.slice none 0 0)], (.bool false)]) rfl ⟨⟨_, _, [(.int .i64 0), (.int .i64 0), (.slice none 0 0), (.int .u64 0), (.int .i64 0), (.slice none 0 0)], rfl, ag28_6, hb_g2, rfl⟩, rfl, trivial⟩ ?_
                rw [hbad]
                exact ⟨[], none, 0, none, 0, rfl, rfl, (RdI.nil _ _ _), (Rd.nil _ _ _ _ _ _ (Nat.zero_le _)), hE⟩
              · have hm2 : n103 ≤ 2 := by omega
                refine q_skip (k_then (wc_seq (wc_regionL ?_)))
                refine vm rfl rfl ?_
                refine wl_val (ov_conv Try.underlying25 Try.underlying50 rfl (wi64 (by omega) (by omega))) rfl rfl rfl ?_
                refine wl_val (ov_field0 (off := 0) fo53_0 rfl) rfl rfl rfl ?_
                refine wl_step0 (or_storeAt (cs' := [(.int .i64 (↑n103 : Int)), (.slice none 0 0), (.int .u64 0), (.int .u64 0)]) sz50 rfl rfl rfl hb_g10 rfl rfl) rfl rfl ?_
                rintro _ w213 ⟨hN213, hg213⟩
                have hz_hg213 := hg213.size
                replace hb_g2 := hb_g2.gr hg213 (by intro e; cases e; omega)
                replace hb_g4 := hb_g4.gr hg213 (by intro e; cases e; omega)
                replace hb_g6 := hb_g6.gr hg213 (by intro e; cases e; omega)
                replace hr6 := hr6.gr hg213 (fun _ e => by cases e; omega)
                replace hoX := Own.gr hoX hg213 (by first | exact .inl rfl | (right; intro e; first | (have := hq_hoX _ e; omega) | (have := Own.lt hoX e; omega) | exact own_blk_ne hoX hb_g10 (by decide) e))
                replace hvo := VO.bk hvo hg213 hb_g10 (by decide)
                replace hE := hE.gr hg213 (fun _ e => by cases e; omega)
                replace hr103 := hr103.gr hg213 (fun _ e => by cases e; omega)
                replace hb_g10 := hN213
                refine q_nil (k_then (wc_seq (wc_seq (wc_regionL ?_))))
                refine vm rfl rfl ?_
                refine wl_val (ov_neq rfl rfl) rfl rfl rfl ?_
                refine q_nil (k_then ?_)
                refine wc_cond_d rfl (fun hc12 => ?_) (fun hc12 => ?_)
                · have hv0 : ¬ n103 = 0 := by omega
                  refine wc_seq (wc_regionL ?_)
                  refine wl_val (ov_loadBlk (cs := [(.slice A103 L103.length c103), (.bool b103)]) ag78_2 rfl hb_g6) rfl rfl rfl ?_
                  obtain ⟨n116, L116, b116, hN116⟩ : ∃ x y z, numX L103 b103 = (x, y, z) := ⟨_, _, _, rfl⟩
                  have hnl116 : L116.length ≤ L103.length := by have h := numX_len L103 b103; rw [hN116] at h; exact h
                  have hnt116 : n116 < 18446744073709551616 := by have h := numX_lt L103 b103; rw [hN116] at h; exact h
                  refine wl_step (or_call0 cl32 rfl rfl (xnum_eq _ _ _ A103 c103 L103 b103 hr103 (by omega) (by omega) hN116)) rfl rfl rfl ?_
                  rintro v w214 ⟨A116, c116, rfl, hr116, he116⟩
                  replace hb_g2 := hb_g2.ext he116
                  replace hb_g4 := hb_g4.ext he116
                  replace hb_g6 := hb_g6.ext he116
                  replace hr6 := hr6.ext he116
                  replace hoX := Own.ext hoX he116
                  replace hvo := VO.ext hvo he116
                  replace hE := hE.tr he116
                  replace hb_g10 := hb_g10.ext he116
                  replace hr103 := hr103.ext he116
                  have hz_he116 := he116.size
                  refine vm rfl rfl ?_
                  iterate 2 refine vx rfl rfl rfl ?_
                  refine wl_val (ov_field0 (off := 2) fo53_2 rfl) rfl rfl rfl ?_
                  refine wl_step0 (or_storeAt (cs' := [(.int .i64 (↑n103 : Int)), (.slice none 0 0), (.int .u64 (↑n116 : Int)), (.int .u64 0)]) sz25 rfl rfl rfl hb_g10 rfl rfl) rfl rfl ?_
                  rintro _ w215 ⟨hN215, hg215⟩
                  have hz_hg215 := hg215.size
                  replace hb_g2 := hb_g2.gr hg215 (by intro e; cases e; omega)
                  replace hb_g4 := hb_g4.gr hg215 (by intro e; cases e; omega)
                  replace hb_g6 := hb_g6.gr hg215 (by intro e; cases e; omega)
                  replace hr6 := hr6.gr hg215 (fun _ e => by cases e; omega)
                  replace hoX := Own.gr hoX hg215 (by first | exact .inl rfl | (right; intro e; first | (have := hq_hoX _ e; omega) | (have := Own.lt hoX e; omega) | exact own_blk_ne hoX hb_g10 (by decide) e))
                  replace hvo := VO.bk hvo hg215 hb_g10 (by decide)
                  replace hE := hE.gr hg215 (fun _ e => by cases e; omega)
                  replace hr103 := hr103.gr hg215 (fun _ e => by cases e; omega)
                  replace hr116 := hr116.gr hg215 (fun _ e => by cases e; omega)
                  replace hb_g10 := hN215
                  refine wl_step0 (or_storeBlk (vs := [(.slice A116 L116.length c116), (.bool b116)]) sz78 rfl rfl (by simp [Value.oneCell']) hb_g6 rfl) rfl rfl ?_
                  rintro _ w216 ⟨hN216, hg216⟩
                  have hz_hg216 := hg216.size
                  replace hb_g2 := hb_g2.gr hg216 (by intro e; cases e; omega)
                  replace hb_g4 := hb_g4.gr hg216 (by intro e; cases e; omega)
                  replace hr6 := hr6.gr hg216 (fun _ e => by cases e; omega)
                  replace hoX := Own.gr hoX hg216 (by first | exact .inl rfl | (right; intro e; first | (have := hq_hoX _ e; omega) | (have := Own.lt hoX e; omega) | exact own_blk_ne hoX hb_g6 (by decide) e))
                  replace hvo := VO.bk hvo hg216 hb_g6 (by decide)
                  replace hE := hE.gr hg216 (fun _ e => by cases e; omega)
                  replace hb_g10 := hb_g10.gr hg216 (by intro e; cases e; omega)
                  replace hr103 := hr103.gr hg216 (fun _ e => by cases e; omega)
                  replace hr116 := hr116.gr hg216 (fun _ e => by cases e; omega)
                  replace hb_g6 := hN216
                  refine q_nil (k_then (wc_seq (wc_regionL ?_)))
                  refine wl_val (ov_loadBlk (cs := [(.slice A116 L116.length c116), (.bool b116)]) ag78_2 rfl hb_g6) rfl rfl rfl ?_
                  obtain ⟨n122, L122, b122, hN122⟩ : ∃ x y z, numX L116 b116 = (x, y, z) := ⟨_, _, _, rfl⟩
                  have hnl122 : L122.length ≤ L116.length := by have h := numX_len L116 b116; rw [hN122] at h; exact h
                  have hnt122 : n122 < 18446744073709551616 := by have h := numX_lt L116 b116; rw [hN122] at h; exact h
                  refine wl_step (or_call0 cl32 rfl rfl (xnum_eq _ _ _ A116 c116 L116 b116 hr116 (by omega) (by omega) hN122)) rfl rfl rfl ?_
                  rintro v w217 ⟨A122, c122, rfl, hr122, he122⟩
                  replace hb_g2 := hb_g2.ext he122
                  replace hb_g4 := hb_g4.ext he122
                  replace hb_g6 := hb_g6.ext he122
                  replace hr6 := hr6.ext he122
                  replace hoX := Own.ext hoX he122
                  replace hvo := VO.ext hvo he122
                  replace hE := hE.tr he122
                  replace hb_g10 := hb_g10.ext he122
                  replace hr103 := hr103.ext he122
                  replace hr116 := hr116.ext he122
                  have hz_he122 := he122.size
                  refine vm rfl rfl ?_
                  iterate 2 refine vx rfl rfl rfl ?_
                  refine va rfl rfl ?_
                  refine wl_step0 (or_storeBlk (vs := [(.slice A122 L122.length c122), (.bool b122)]) sz78 rfl rfl (by simp [Value.oneCell']) hb_g6 rfl) rfl rfl ?_
                  rintro _ w218 ⟨hN218, hg218⟩
                  have hz_hg218 := hg218.size
                  replace hb_g2 := hb_g2.gr hg218 (by intro e; cases e; omega)
                  replace hb_g4 := hb_g4.gr hg218 (by intro e; cases e; omega)
                  replace hr6 := hr6.gr hg218 (fun _ e => by cases e; omega)
                  replace hoX := Own.gr hoX hg218 (by first | exact .inl rfl | (right; intro e; first | (have := hq_hoX _ e; omega) | (have := Own.lt hoX e; omega) | exact own_blk_ne hoX hb_g6 (by decide) e))
                  replace hvo := VO.bk hvo hg218 hb_g6 (by decide)
                  replace hE := hE.gr hg218 (fun _ e => by cases e; omega)
                  replace hb_g10 := hb_g10.gr hg218 (by intro e; cases e; omega)
                  replace hr103 := hr103.gr hg218 (fun _ e => by cases e; omega)
                  replace hr116 := hr116.gr hg218 (fun _ e => by cases e; omega)
                  replace hr122 := hr122.gr hg218 (fun _ e => by cases e; omega)
                  replace hb_g6 := hN218
                  refine q_nil (k_then (wc_seq (wc_regionL ?_)))
                  refine vm rfl rfl ?_
                  refine wl_val (ov_field0 (off := 3) fo53_3 rfl) rfl rfl rfl ?_
                  refine wl_step0 (or_storeAt (cs' := [(.int .i64 (↑n103 : Int)), (.slice none 0 0), (.int .u64 (↑n116 : Int)), (.int .u64 (↑n122 : Int))]) sz51 rfl rfl rfl hb_g10 rfl rfl) rfl rfl ?_
                  rintro _ w219 ⟨hN219, hg219⟩
                  have hz_hg219 := hg219.size
                  replace hb_g2 := hb_g2.gr hg219 (by intro e; cases e; omega)
                  replace hb_g4 := hb_g4.gr hg219 (by intro e; cases e; omega)
                  replace hb_g6 := hb_g6.gr hg219 (by intro e; cases e; omega)
                  replace hr6 := hr6.gr hg219 (fun _ e => by cases e; omega)
                  replace hoX := Own.gr hoX hg219 (by first | exact .inl rfl | (right; intro e; first | (have := hq_hoX _ e; omega) | (have := Own.lt hoX e; omega) | exact own_blk_ne hoX hb_g10 (by decide) e))
                  replace hvo := VO.bk hvo hg219 hb_g10 (by decide)
                  replace hE := hE.gr hg219 (fun _ e => by cases e; omega)
                  replace hr103 := hr103.gr hg219 (fun _ e => by cases e; omega)
                  replace hr116 := hr116.gr hg219 (fun _ e => by cases e; omega)
                  replace hr122 := hr122.gr hg219 (fun _ e => by cases e; omega)
                  replace hb_g10 := hN219
                  refine q_nil (k_then (wc_regionL ?_))
                  refine wl_val (ov_loadBlk (cs := [(.slice A122 L122.length c122), (.bool b122)]) ag78_2 rfl hb_g6) rfl rfl rfl ?_
                  obtain ⟨v129, L129, b129, hN129⟩ : ∃ x y z, bytX L122 b122 = (x, y, z) := ⟨_, _, _, rfl⟩
                  have hnl129 : L129.length ≤ L122.length ∧ v129.length ≤ L122.length := by have h := bytX_len L122 b122; rw [hN129] at h; exact h
                  refine wl_step (or_call0 cl33 rfl rfl (xbyt_eq _ _ _ A122 c122 L122 b122 hr122 (by omega) (by omega) hN129)) rfl rfl rfl ?_
                  rintro v w220 ⟨V129, d129, A129, c129, rfl, ho129, hr129, he129⟩
                  replace hb_g2 := hb_g2.ext he129
                  replace hb_g4 := hb_g4.ext he129
                  replace hb_g6 := hb_g6.ext he129
                  replace hr6 := hr6.ext he129
                  replace hoX := Own.ext hoX he129
                  replace hvo := VO.ext hvo he129
                  replace hE := hE.tr he129
                  replace hb_g10 := hb_g10.ext he129
                  replace hr103 := hr103.ext he129
                  replace hr116 := hr116.ext he129
                  replace hr122 := hr122.ext he129
                  have hz_he129 := he129.size
                  have hq_ho129 := fun g e => Own.lt ho129 (g := g) e
                  refine vm rfl rfl ?_
                  iterate 2 refine vx rfl rfl rfl ?_
                  refine wl_val (ov_field0 (off := 1) fo53_1 rfl) rfl rfl rfl ?_
                  refine wl_step0 (or_storeAt (cs' := [(.int .i64 (↑n103 : Int)), (.slice V129 v129.length d129), (.int .u64 (↑n116 : Int)), (.int .u64 (↑n122 : Int))]) sz32 rfl rfl rfl hb_g10 rfl rfl) rfl rfl ?_
                  rintro _ w221 ⟨hN221, hg221⟩
                  have hz_hg221 := hg221.size
                  replace hb_g2 := hb_g2.gr hg221 (by intro e; cases e; omega)
                  replace hb_g4 := hb_g4.gr hg221 (by intro e; cases e; omega)
                  replace hb_g6 := hb_g6.gr hg221 (by intro e; cases e; omega)
                  replace hr6 := hr6.gr hg221 (fun _ e => by cases e; omega)
                  replace hoX := Own.gr hoX hg221 (by first | exact .inl rfl | (right; intro e; first | (have := hq_hoX _ e; omega) | (have := Own.lt hoX e; omega) | exact own_blk_ne hoX hb_g10 (by decide) e))
                  replace hvo := VO.bk hvo hg221 hb_g10 (by decide)
                  replace hE := hE.gr hg221 (fun _ e => by cases e; omega)
                  replace hr103 := hr103.gr hg221 (fun _ e => by cases e; omega)
                  replace hr116 := hr116.gr hg221 (fun _ e => by cases e; omega)
                  replace hr122 := hr122.gr hg221 (fun _ e => by cases e; omega)
                  replace hr129 := hr129.gr hg221 (fun _ e => by cases e; omega)
                  replace ho129 := Own.gr ho129 hg221 (by first | exact .inl rfl | (right; intro e; first | (have := hq_ho129 _ e; omega) | (have := Own.lt ho129 e; omega) | exact own_blk_ne ho129 hb_g10 (by decide) e))
                  replace hb_g10 := hN221
                  refine wl_step0 (or_storeBlk (vs := [(.slice A129 L129.length c129), (.bool b129)]) sz78 rfl rfl (by simp [Value.oneCell']) hb_g6 rfl) rfl rfl ?_
                  rintro _ w222 ⟨hN222, hg222⟩
                  have hz_hg222 := hg222.size
                  replace hb_g2 := hb_g2.gr hg222 (by intro e; cases e; omega)
                  replace hb_g4 := hb_g4.gr hg222 (by intro e; cases e; omega)
                  replace hr6 := hr6.gr hg222 (fun _ e => by cases e; omega)
                  replace hoX := Own.gr hoX hg222 (by first | exact .inl rfl | (right; intro e; first | (have := hq_hoX _ e; omega) | (have := Own.lt hoX e; omega) | exact own_blk_ne hoX hb_g6 (by decide) e))
                  replace hvo := VO.bk hvo hg222 hb_g6 (by decide)
                  replace hE := hE.gr hg222 (fun _ e => by cases e; omega)
                  replace hb_g10 := hb_g10.gr hg222 (by intro e; cases e; omega)
                  replace hr103 := hr103.gr hg222 (fun _ e => by cases e; omega)
                  replace hr116 := hr116.gr hg222 (fun _ e => by cases e; omega)
                  replace hr122 := hr122.gr hg222 (fun _ e => by cases e; omega)
                  replace hr129 := hr129.gr hg222 (fun _ e => by cases e; omega)
                  replace ho129 := Own.gr ho129 hg222 (by first | exact .inl rfl | (right; intro e; first | (have := hq_ho129 _ e; omega) | (have := Own.lt ho129 e; omega) | exact own_blk_ne ho129 hb_g6 (by decide) e))
                  replace hb_g6 := hN222
                  refine q_nil (k_then (wc_regionL ?_))
                  refine wl_val (ov_field0 (off := 2) fo28_2 rfl) rfl rfl rfl ?_
                  refine wl_val (ov_loadAt oc24 rfl hb_g4 rfl) rfl rfl rfl ?_
                  refine wl_val (ov_loadBlk (cs := [(.int .i64 (↑n103 : Int)), (.slice V129 v129.length d129), (.int .u64 (↑n116 : Int)), (.int .u64 (↑n122 : Int))]) ag53_4 rfl hb_g10) rfl rfl rfl ?_
                  refine wl_step (or_buildSliceF (cs := [(.int .i64 (↑n103 : Int)), (.slice V129 v129.length d129), (.int .u64 (↑n116 : Int)), (.int .u64 (↑n122 : Int))]) sl24 rfl (by kernel_rfl) (by decide) (by decide)) rfl rfl rfl ?_
                  rintro v w223 ⟨g136, rfl, hb_g136, he136, hl136, hu136⟩
                  replace hb_g2 := hb_g2.ext he136
                  replace hb_g4 := hb_g4.ext he136
                  replace hb_g6 := hb_g6.ext he136
                  replace hr6 := hr6.ext he136
                  replace hoX := Own.ext hoX he136
                  replace hvo := VO.ext hvo he136
                  replace hE := hE.tr he136
                  replace hb_g10 := hb_g10.ext he136
                  replace hr103 := hr103.ext he136
                  replace hr116 := hr116.ext he136
                  replace hr122 := hr122.ext he136
                  replace hr129 := hr129.ext he136
                  replace ho129 := Own.ext ho129 he136
                  have hz_he136 := he136.size
                  refine wl_step (or_append sl24 rfl hoX rfl (Blk.rdF hb_g136 rfl (by decide)) (by simp [Value.oneCell']) (by omega) (by simp only [maxLen]; omega) (by omega)) rfl rfl rfl ?_
                  rintro v w224 ⟨A137, c137, rfl, ho137, hg137, ha137⟩
                  have hq137 := hq_hoX
                  have hz_hg137 := hg137.size
                  replace hb_g2 := hb_g2.gr hg137 (by first | (intro e; have := hq137 _ e; omega) | exact own_blk_ne hoX hb_g2 (by decide))
                  replace hb_g4 := hb_g4.gr hg137 (by first | (intro e; have := hq137 _ e; omega) | exact own_blk_ne hoX hb_g4 (by decide))
                  replace hb_g6 := hb_g6.gr hg137 (by first | (intro e; have := hq137 _ e; omega) | exact own_blk_ne hoX hb_g6 (by decide))
                  replace hr6 := hr6.gr hg137 (fun g e => by have := hq137 g e; omega)
                  replace hvo := VO.rowA hvo hg137 hoX (by decide)
                  replace hE := hE.gr hg137 (fun g e => by have := hq137 g e; omega)
                  replace hb_g10 := hb_g10.gr hg137 (by first | (intro e; have := hq137 _ e; omega) | exact own_blk_ne hoX hb_g10 (by decide))
                  replace hr103 := hr103.gr hg137 (fun g e => by have := hq137 g e; omega)
                  replace hr116 := hr116.gr hg137 (fun g e => by have := hq137 g e; omega)
                  replace hr122 := hr122.gr hg137 (fun g e => by have := hq137 g e; omega)
                  replace hr129 := hr129.gr hg137 (fun g e => by have := hq137 g e; omega)
                  replace ho129 := Own.gr ho129 hg137 (by first | exact own_apart fun g e g2 e2 => by have := hq_ho129 g e; have := hq137 g2 e2; omega | exact own_own_ne ho129 hoX (by decide))
                  have hq_ho137 := fun g e => Own.lt ho137 (g := g) e
                  refine wl_val (ov_field0 (off := 2) fo28_2 rfl) rfl rfl rfl ?_
                  refine wl_step0 (or_storeAt (cs' := [(.int .i64 op), (.int .i64 0), (.slice A137 (i + 1) c137), (.int .u64 (↑vr : Int)), (.int .i64 (↑n : Int)), (.slice none 0 0)]) sz24 rfl rfl rfl hb_g4 rfl rfl) rfl rfl ?_
                  rintro _ w225 ⟨hN225, hg225⟩
                  have hz_hg225 := hg225.size
                  replace hb_g2 := hb_g2.gr hg225 (by intro e; cases e; omega)
                  replace hb_g6 := hb_g6.gr hg225 (by intro e; cases e; omega)
                  replace hr6 := hr6.gr hg225 (fun _ e => by cases e; omega)
                  replace hvo := VO.bk hvo hg225 hb_g4 (by decide)
                  replace hE := hE.gr hg225 (fun _ e => by cases e; omega)
                  replace hb_g10 := hb_g10.gr hg225 (by intro e; cases e; omega)
                  replace hr103 := hr103.gr hg225 (fun _ e => by cases e; omega)
                  replace hr116 := hr116.gr hg225 (fun _ e => by cases e; omega)
                  replace hr122 := hr122.gr hg225 (fun _ e => by cases e; omega)
                  replace hr129 := hr129.gr hg225 (fun _ e => by cases e; omega)
                  replace ho129 := Own.gr ho129 hg225 (by first | exact .inl rfl | (right; intro e; first | (have := hq_ho129 _ e; omega) | (have := Own.lt ho129 e; omega) | exact own_blk_ne ho129 hb_g4 (by decide) e))
                  replace ho137 := Own.gr ho137 hg225 (by first | exact .inl rfl | (right; intro e; first | (have := hq_ho137 _ e; omega) | (have := Own.lt ho137 e; omega) | exact own_blk_ne ho137 hb_g4 (by decide) e))
                  replace hb_g4 := hN225
                  refine q_nil (k_block (k_then (wc_regionL ?_)))
                  refine vm rfl rfl ?_
                  refine wl_val (ov_add rfl rfl (wu64 (by omega) (by omega))) rfl rfl rfl ?_
                  refine va rfl rfl ?_
                  refine q_nil ?_
                  have hxn : xS (i + 1) lq bq = (vals (ys ++ [((⟨(↑n103 : Int), v129, n116, n122⟩ : Itm), V129, d129)]), L129, b129) := by
                    rw [xS, hxs, vals_add]
                    show (vals ys ++ [(itX lk bk).1], (itX lk bk).2) = _
                    rw [itX_full hN103 hv0 hN116 hN122 hN129]
                  have hmn : xM (i + 1) lq bq = true := by
                    rw [xM, hxm, hxs]
                    show (true && decide ((numX lk bk).1 ≤ 2)) = true
                    rw [hN103]
                    show (true && decide (n103 ≤ 2)) = true
                    rw [decide_eq_true hm2]; rfl
                  have hvn : VO w225 w.heap.size (ys ++ [((⟨(↑n103 : Int), v129, n116, n122⟩ : Itm), V129, d129)]) := hvo.add (Own.mono ho129 (by omega))
                  have hon : Own w225 w.heap.size 53 4 A137 (i + 1) c137 ((ys ++ [((⟨(↑n103 : Int), v129, n116, n122⟩ : Itm), V129, d129)]).flatMap itc) := by rw [List.flatMap_append]; exact ho137
                  refine k_loop ((i + 1, ys ++ [((⟨(↑n103 : Int), v129, n116, n122⟩ : Itm), V129, d129)], A137, c137, (L129, b129), A129, c129)) (by show it - (i + 1) < it - i; omega) (⟨rfl, rfl, rfl, rfl, rfl, rfl, trivial⟩) (⟨by show i + 1 ≤ _; omega, by show (ys ++ [_]).length = i + 1; rw [List.length_append, hyl]; rfl, hxn, hmn, hon, hvn, hb_g2, hb_g4, hb_g6, hr129, hE⟩)
                · have hv0 : n103 = 0 := by omega
                  refine q_skip (k_then (wc_regionL ?_))
                  refine wl_val (ov_field0 (off := 2) fo28_2 rfl) rfl rfl rfl ?_
                  refine wl_val (ov_loadAt oc24 rfl hb_g4 rfl) rfl rfl rfl ?_
                  refine wl_val (ov_loadBlk (cs := [(.int .i64 (↑n103 : Int)), (.slice none 0 0), (.int .u64 0), (.int .u64 0)]) ag53_4 rfl hb_g10) rfl rfl rfl ?_
                  refine wl_step (or_buildSliceF (cs := [(.int .i64 (↑n103 : Int)), (.slice none 0 0), (.int .u64 0), (.int .u64 0)]) sl24 rfl (by kernel_rfl) (by decide) (by decide)) rfl rfl rfl ?_
                  rintro v w214 ⟨g136, rfl, hb_g136, he136, hl136, hu136⟩
                  replace hb_g2 := hb_g2.ext he136
                  replace hb_g4 := hb_g4.ext he136
                  replace hb_g6 := hb_g6.ext he136
                  replace hr6 := hr6.ext he136
                  replace hoX := Own.ext hoX he136
                  replace hvo := VO.ext hvo he136
                  replace hE := hE.tr he136
                  replace hb_g10 := hb_g10.ext he136
                  replace hr103 := hr103.ext he136
                  have hz_he136 := he136.size
                  refine wl_step (or_append sl24 rfl hoX rfl (Blk.rdF hb_g136 rfl (by decide)) (by simp [Value.oneCell']) (by omega) (by simp only [maxLen]; omega) (by omega)) rfl rfl rfl ?_
                  rintro v w215 ⟨A137, c137, rfl, ho137, hg137, ha137⟩
                  have hq137 := hq_hoX
                  have hz_hg137 := hg137.size
                  replace hb_g2 := hb_g2.gr hg137 (by first | (intro e; have := hq137 _ e; omega) | exact own_blk_ne hoX hb_g2 (by decide))
                  replace hb_g4 := hb_g4.gr hg137 (by first | (intro e; have := hq137 _ e; omega) | exact own_blk_ne hoX hb_g4 (by decide))
                  replace hb_g6 := hb_g6.gr hg137 (by first | (intro e; have := hq137 _ e; omega) | exact own_blk_ne hoX hb_g6 (by decide))
                  replace hr6 := hr6.gr hg137 (fun g e => by have := hq137 g e; omega)
                  replace hvo := VO.rowA hvo hg137 hoX (by decide)
                  replace hE := hE.gr hg137 (fun g e => by have := hq137 g e; omega)
                  replace hb_g10 := hb_g10.gr hg137 (by first | (intro e; have := hq137 _ e; omega) | exact own_blk_ne hoX hb_g10 (by decide))
                  replace hr103 := hr103.gr hg137 (fun g e => by have := hq137 g e; omega)
                  have hq_ho137 := fun g e => Own.lt ho137 (g := g) e
                  refine wl_val (ov_field0 (off := 2) fo28_2 rfl) rfl rfl rfl ?_
                  refine wl_step0 (or_storeAt (cs' := [(.int .i64 op), (.int .i64 0), (.slice A137 (i + 1) c137), (.int .u64 (↑vr : Int)), (.int .i64 (↑n : Int)), (.slice none 0 0)]) sz24 rfl rfl rfl hb_g4 rfl rfl) rfl rfl ?_
                  rintro _ w216 ⟨hN216, hg216⟩
                  have hz_hg216 := hg216.size
                  replace hb_g2 := hb_g2.gr hg216 (by intro e; cases e; omega)
                  replace hb_g6 := hb_g6.gr hg216 (by intro e; cases e; omega)
                  replace hr6 := hr6.gr hg216 (fun _ e => by cases e; omega)
                  replace hvo := VO.bk hvo hg216 hb_g4 (by decide)
                  replace hE := hE.gr hg216 (fun _ e => by cases e; omega)
                  replace hb_g10 := hb_g10.gr hg216 (by intro e; cases e; omega)
                  replace hr103 := hr103.gr hg216 (fun _ e => by cases e; omega)
                  replace ho137 := Own.gr ho137 hg216 (by first | exact .inl rfl | (right; intro e; first | (have := hq_ho137 _ e; omega) | (have := Own.lt ho137 e; omega) | exact own_blk_ne ho137 hb_g4 (by decide) e))
                  replace hb_g4 := hN216
                  refine q_nil (k_block (k_then (wc_regionL ?_)))
                  refine vm rfl rfl ?_
                  refine wl_val (ov_add rfl rfl (wu64 (by omega) (by omega))) rfl rfl rfl ?_
                  refine va rfl rfl ?_
                  refine q_nil ?_
                  have hxn : xS (i + 1) lq bq = (vals (ys ++ [((⟨(↑n103 : Int), [], 0, 0⟩ : Itm), none, 0)]), L103, b103) := by
                    rw [xS, hxs, vals_add]
                    show (vals ys ++ [(itX lk bk).1], (itX lk bk).2) = _
                    rw [itX_zero hN103 hv0, hv0]
                    rfl
                  have hmn : xM (i + 1) lq bq = true := by
                    rw [xM, hxm, hxs]
                    show (true && decide ((numX lk bk).1 ≤ 2)) = true
                    rw [hN103]
                    show (true && decide (n103 ≤ 2)) = true
                    rw [decide_eq_true hm2]; rfl
                  have hvn : VO w216 w.heap.size (ys ++ [((⟨(↑n103 : Int), [], 0, 0⟩ : Itm), none, 0)]) := hvo.add (Own.nil_ _ _ _ _)
                  have hon : Own w216 w.heap.size 53 4 A137 (i + 1) c137 ((ys ++ [((⟨(↑n103 : Int), [], 0, 0⟩ : Itm), none, 0)]).flatMap itc) := by rw [List.flatMap_append]; exact ho137
                  refine k_loop ((i + 1, ys ++ [((⟨(↑n103 : Int), [], 0, 0⟩ : Itm), none, 0)], A137, c137, (L103, b103), A103, c103)) (by show it - (i + 1) < it - i; omega) (⟨rfl, rfl, rfl, rfl, rfl, rfl, trivial⟩) (⟨by show i + 1 ≤ _; omega, by show (ys ++ [_]).length = i + 1; rw [List.length_append, hyl]; rfl, hxn, hmn, hon, hvn, hb_g2, hb_g4, hb_g6, hr103, hE⟩)
            · have hin : it = i := by omega
              subst hin
              have hvl : (vals ys).length = it := (List.length_map ..).trans hyl
              obtain ⟨l2, b2, hlb⟩ : ∃ a b, (a, b) = (lk, bk) := ⟨_, _, rfl⟩
              simp only [Prod.mk.injEq] at hlb
              obtain ⟨rfl, rfl⟩ := hlb
              have hrf2 : refRd op l = tl1 op n vr nu (vals ys, l2, b2) := by rw [hrf]; show (if _ then _ else tl1 op n vr nu (xS it lq bq)) = _; rw [if_neg (by show ¬ (1099511627776 < n ∨ 16 < it ∨ 64 < nu ∨ xM it lq bq = false); rw [hxm]; rintro (q | q | q | q) <;> first | omega | cases q), hxs]
              refine q_exit (k_thenX (k_thenX (k_blockE (k_then (wc_seq (wc_regionL ?_))))))
              refine va rfl rfl ?_
              refine q_nil (k_then (wc_block ?_))
              refine wc_loop (σ := Nat × List Nat × Option Addr × Nat × (List UInt8 × Bool) × Option Addr × Nat) (fun s => nu - s.1) (fun s => [(2, .pointer (some ⟨g2, 0, none⟩)), (4, .pointer (some ⟨g4, 0, none⟩)), (6, .pointer (some ⟨g6, 0, none⟩)), (8, .int .u64 (nu : Int)), (12, .int .u64 (s.1 : Int))]) (fun s w' => s.1 ≤ nu ∧ s.2.1.length = s.1 ∧ kS s.1 l2 b2 = (s.2.1, s.2.2.2.2.1) ∧ Own w' w.heap.size 25 1 s.2.2.1 s.1 s.2.2.2.1 (s.2.1.flatMap nuc) ∧ Own w' w.heap.size 53 4 X it cx (ys.flatMap itc) ∧ VO w' w.heap.size ys ∧ Blk w' g2 28 (rspc (rspO 0 0) none 0 none 0) ∧ Blk w' g4 28 [.int .i64 op, .int .i64 0, .slice X it cx, .int .u64 (vr : Int), .int .i64 (n : Int), .slice s.2.2.1 s.1 s.2.2.2.1] ∧ Blk w' g6 78 [.slice s.2.2.2.2.2.1 s.2.2.2.2.1.1.length s.2.2.2.2.2.2, .bool s.2.2.2.2.1.2] ∧ RdB w' lo hi s.2.2.2.2.2.1 s.2.2.2.2.2.2 s.2.2.2.2.1.1 ∧ Ext w w') ((0, [], none, 0, (l2, b2), A6, c6)) (⟨Nat.zero_le _, rfl, rfl, Own.nil_ _ _ _ _, hoX, hvo, hb_g2, hb_g4, hb_g6, hr6, hE⟩) (⟨rfl, rfl, rfl, rfl, rfl, trivial⟩) ?_
              rintro ⟨i, ns, N, cn, ⟨lk, bk⟩, A6, c6⟩ wn ⟨hi0, hnl, hks, hoN, hoX, hvo, hb_g2, hb_g4, hb_g6, hr6, hE⟩
              show WC _ _ _ _ [(2, (.pointer (some ⟨g2, 0, none⟩))), (4, (.pointer (some ⟨g4, 0, none⟩))), (6, (.pointer (some ⟨g6, 0, none⟩))), (8, (.int .u64 (↑nu : Int))), (12, (.int .u64 (↑i : Int)))] _
              simp only at hi0 hnl hks
              replace hr6 : RdB wn lo hi A6 c6 lk := hr6
              replace hb_g6 : Blk wn g6 78 [.slice A6 lk.length c6, .bool bk] := hb_g6
              replace hb_g4 : Blk wn g4 28 [.int .i64 op, .int .i64 0, .slice X it cx, .int .u64 (vr : Int), .int .i64 (n : Int), .slice N i cn] := hb_g4
              replace hoN : Own wn w.heap.size 25 1 N i cn (ns.flatMap nuc) := hoN
              have hz_E := hE.size
              have hz2 := hb_g2.lt
              have hz4 := hb_g4.lt
              have hz6 := hb_g6.lt
              have hkl2 := (kS_len l2 b2 i).2
              rw [hks] at hkl2
              replace hkl2 : lk.length ≤ l2.length := hkl2
              have hq_hoX := fun g e => Own.lt hoX (g := g) e
              have hq_hoN := fun g e => Own.lt hoN (g := g) e
              refine wc_seq (wc_seq (wc_regionL ?_))
              iterate 2 refine vm rfl rfl ?_
              refine wl_val (ov_lss rfl rfl) rfl rfl rfl ?_
              refine q_nil (k_then ?_)
              refine wc_cond_d rfl (fun hc13 => ?_) (fun hc13 => ?_)
              · refine q_skip (k_then (wc_seq (wc_block (wc_seq (wc_regionL ?_)))))
                refine va rfl rfl ?_
                refine q_nil (k_then (wc_seq (wc_regionL ?_)))
                refine wl_val (ov_loadBlk (cs := [(.slice A6 lk.length c6), (.bool bk)]) ag78_2 rfl hb_g6) rfl rfl rfl ?_
                obtain ⟨n146, L146, b146, hN146⟩ : ∃ x y z, numX lk bk = (x, y, z) := ⟨_, _, _, rfl⟩
                have hnl146 : L146.length ≤ lk.length := by have h := numX_len lk bk; rw [hN146] at h; exact h
                have hnt146 : n146 < 18446744073709551616 := by have h := numX_lt lk bk; rw [hN146] at h; exact h
                refine wl_step (or_call0 cl32 rfl rfl (xnum_eq _ _ _ A6 c6 lk bk hr6 (by omega) (by omega) hN146)) rfl rfl rfl ?_
                rintro v w210 ⟨A146, c146, rfl, hr146, he146⟩
                replace hb_g2 := hb_g2.ext he146
                replace hb_g4 := hb_g4.ext he146
                replace hb_g6 := hb_g6.ext he146
                replace hr6 := hr6.ext he146
                replace hoX := Own.ext hoX he146
                replace hoN := Own.ext hoN he146
                replace hvo := VO.ext hvo he146
                replace hE := hE.tr he146
                have hz_he146 := he146.size
                refine vm rfl rfl ?_
                iterate 2 refine vx rfl rfl rfl ?_
                refine va rfl rfl ?_
                refine wl_step0 (or_storeBlk (vs := [(.slice A146 L146.length c146), (.bool b146)]) sz78 rfl rfl (by simp [Value.oneCell']) hb_g6 rfl) rfl rfl ?_
                rintro _ w211 ⟨hN211, hg211⟩
                have hz_hg211 := hg211.size
                replace hb_g2 := hb_g2.gr hg211 (by intro e; cases e; omega)
                replace hb_g4 := hb_g4.gr hg211 (by intro e; cases e; omega)
                replace hr6 := hr6.gr hg211 (fun _ e => by cases e; omega)
                replace hoX := Own.gr hoX hg211 (by first | exact .inl rfl | (right; intro e; first | (have := hq_hoX _ e; omega) | (have := Own.lt hoX e; omega) | exact own_blk_ne hoX hb_g6 (by decide) e))
                replace hoN := Own.gr hoN hg211 (by first | exact .inl rfl | (right; intro e; first | (have := hq_hoN _ e; omega) | (have := Own.lt hoN e; omega) | exact own_blk_ne hoN hb_g6 (by decide) e))
                replace hvo := VO.bk hvo hg211 hb_g6 (by decide)
                replace hE := hE.gr hg211 (fun _ e => by cases e; omega)
                replace hr146 := hr146.gr hg211 (fun _ e => by cases e; omega)
                replace hb_g6 := hN211
                refine q_nil (k_then (wc_regionL ?_))
                refine wl_val (ov_field0 (off := 5) fo28_5 rfl) rfl rfl rfl ?_
                refine wl_val (ov_loadAt oc26 rfl hb_g4 rfl) rfl rfl rfl ?_
                refine vm rfl rfl ?_
                refine wl_step (or_buildSlice1 (os := [.tmp 151]) sl26 rfl rfl rfl (by simp [Value.oneCell']) (by decide)) rfl rfl rfl ?_
                rintro v w212 ⟨g152, rfl, hb_g152, he152, hl152, hu152, _⟩
                replace hb_g2 := hb_g2.ext he152
                replace hb_g4 := hb_g4.ext he152
                replace hb_g6 := hb_g6.ext he152
                replace hr6 := hr6.ext he152
                replace hoX := Own.ext hoX he152
                replace hoN := Own.ext hoN he152
                replace hvo := VO.ext hvo he152
                replace hE := hE.tr he152
                replace hr146 := hr146.ext he152
                have hz_he152 := he152.size
                refine wl_step (or_append sl26 rfl hoN rfl (Blk.rd1 hb_g152) (by simp [Value.oneCell']) (by omega) (by simp only [maxLen]; omega) (by omega)) rfl rfl rfl ?_
                rintro v w213 ⟨A153, c153, rfl, ho153, hg153, ha153⟩
                have hq153 := hq_hoN
                have hz_hg153 := hg153.size
                replace hb_g2 := hb_g2.gr hg153 (by first | (intro e; have := hq153 _ e; omega) | exact own_blk_ne hoN hb_g2 (by decide))
                replace hb_g4 := hb_g4.gr hg153 (by first | (intro e; have := hq153 _ e; omega) | exact own_blk_ne hoN hb_g4 (by decide))
                replace hb_g6 := hb_g6.gr hg153 (by first | (intro e; have := hq153 _ e; omega) | exact own_blk_ne hoN hb_g6 (by decide))
                replace hr6 := hr6.gr hg153 (fun g e => by have := hq153 g e; omega)
                replace hoX := Own.gr hoX hg153 (by first | exact own_apart fun g e g2 e2 => by have := hq_hoX g e; have := hq153 g2 e2; omega | exact own_own_ne hoX hoN (by decide))
                replace hvo := VO.rowA hvo hg153 hoN (by decide)
                replace hE := hE.gr hg153 (fun g e => by have := hq153 g e; omega)
                replace hr146 := hr146.gr hg153 (fun g e => by have := hq153 g e; omega)
                have hq_ho153 := fun g e => Own.lt ho153 (g := g) e
                refine wl_val (ov_field0 (off := 5) fo28_5 rfl) rfl rfl rfl ?_
                refine wl_step0 (or_storeAt (cs' := [(.int .i64 op), (.int .i64 0), (.slice X it cx), (.int .u64 (↑vr : Int)), (.int .i64 (↑n : Int)), (.slice A153 (i + 1) c153)]) sz26 rfl rfl rfl hb_g4 rfl rfl) rfl rfl ?_
                rintro _ w214 ⟨hN214, hg214⟩
                have hz_hg214 := hg214.size
                replace hb_g2 := hb_g2.gr hg214 (by intro e; cases e; omega)
                replace hb_g6 := hb_g6.gr hg214 (by intro e; cases e; omega)
                replace hr6 := hr6.gr hg214 (fun _ e => by cases e; omega)
                replace hoX := Own.gr hoX hg214 (by first | exact .inl rfl | (right; intro e; first | (have := hq_hoX _ e; omega) | (have := Own.lt hoX e; omega) | exact own_blk_ne hoX hb_g4 (by decide) e))
                replace hvo := VO.bk hvo hg214 hb_g4 (by decide)
                replace hE := hE.gr hg214 (fun _ e => by cases e; omega)
                replace hr146 := hr146.gr hg214 (fun _ e => by cases e; omega)
                replace ho153 := Own.gr ho153 hg214 (by first | exact .inl rfl | (right; intro e; first | (have := hq_ho153 _ e; omega) | (have := Own.lt ho153 e; omega) | exact own_blk_ne ho153 hb_g4 (by decide) e))
                replace hb_g4 := hN214
                refine q_nil (k_block (k_then (wc_regionL ?_)))
                refine vm rfl rfl ?_
                refine wl_val (ov_add rfl rfl (wu64 (by omega) (by omega))) rfl rfl rfl ?_
                refine va rfl rfl ?_
                refine q_nil ?_
                have hkn : kS (i + 1) l2 b2 = (ns ++ [n146], L146, b146) := by rw [kS, hks]; show (ns ++ [(numX lk bk).1], (numX lk bk).2) = _; rw [hN146]
                have hon : Own w214 w.heap.size 25 1 A153 (i + 1) c153 ((ns ++ [n146]).flatMap nuc) := by rw [List.flatMap_append]; exact ho153
                refine k_loop ((i + 1, ns ++ [n146], A153, c153, (L146, b146), A146, c146)) (by show nu - (i + 1) < nu - i; omega) (⟨rfl, rfl, rfl, rfl, rfl, trivial⟩) (⟨by show i + 1 ≤ _; omega, by show (ns ++ [_]).length = i + 1; rw [List.length_append, hnl]; rfl, hkn, hon, hoX, hvo, hb_g2, hb_g4, hb_g6, hr146, hE⟩)
              · have hin2 : nu = i := by omega
                subst hin2
                have hfin : refRd op l = finX (⟨op, 0, vals ys, vr, (n : Int), ns⟩ : Rsp) (lk, bk) := by rw [hrf2]; show tl2 op n vr (vals ys) (kS nu l2 b2) = _; rw [hks]; rfl
                refine q_exit (k_thenX (k_thenX (k_blockE (k_then (wc_seq (wc_seq (wc_regionL ?_)))))))
                refine wl_val (ov_field0 (off := 1) fo78_1 rfl) rfl rfl rfl ?_
                refine wl_val (ov_loadAt oc4 rfl hb_g6 rfl) rfl rfl rfl ?_
                refine wl_spell (d := 156) rfl (v' := (.bool (decide (bk = true)))) (by cases bk <;> rfl) ?_
                refine wl_case_d (d := 156) rfl (fun h156 => ?_) (fun h156 => ?_)
                · have hbad : refRd op l = (rspO 0 0, false) := hfin.trans (fin_bad (fun q => by have q1 : bk = false := q.1; rw [h156] at q1; cases q1))
                  refine vm rfl rfl ?_
                  iterate 4 refine wl_gskip rfl rfl rfl rfl rfl rfl ?_
                  refine wl_val (ov_pick_t rfl rfl) rfl rfl rfl ?_
                  refine vm rfl rfl ?_
                  iterate 3 refine wl_gskip rfl rfl rfl rfl rfl rfl ?_
                  refine wl_val (ov_pick_t rfl rfl) rfl rfl rfl ?_
                  refine q_nil (k_then ?_)
                  refine wc_cond_t rfl ?_
                  refine wc_seq (wc_regionL ?_)
                  refine wl_val (ov_build (cs := [(.int .i64 0), (.int .i64 0), (.slice none 0 0), (.int .u64 0), (.int .i64 0), (.slice none 0 0)]) ze28 pl28 rfl rfl) rfl rfl rfl ?_
                  refine wl_step0 (or_storeBlk (vs := [(.int .i64 0), (.int .i64 0), (.slice none 0 0), (.int .u64 0), (.int .i64 0), (.slice none 0 0)]) sz28 rfl rfl (by simp [Value.oneCell']) hb_g2 rfl) rfl rfl ?_
                  rintro _ w210 ⟨hN210, hg210⟩
                  have hz_hg210 := hg210.size
                  replace hb_g4 := hb_g4.gr hg210 (by intro e; cases e; omega)
                  replace hb_g6 := hb_g6.gr hg210 (by intro e; cases e; omega)
                  replace hr6 := hr6.gr hg210 (fun _ e => by cases e; omega)
                  replace hoX := Own.gr hoX hg210 (by first | exact .inl rfl | (right; intro e; first | (have := hq_hoX _ e; omega) | (have := Own.lt hoX e; omega) | exact own_blk_ne hoX hb_g2 (by decide) e))
                  replace hoN := Own.gr hoN hg210 (by first | exact .inl rfl | (right; intro e; first | (have := hq_hoN _ e; omega) | (have := Own.lt hoN e; omega) | exact own_blk_ne hoN hb_g2 (by decide) e))
                  replace hvo := VO.bk hvo hg210 hb_g2 (by decide)
                  replace hE := hE.gr hg210 (fun _ e => by cases e; omega)
                  replace hb_g2 := hN210
                  refine va rfl rfl ?_
                  refine q_nil (k_then (q_ret (k_thenR ?_)))
                  refine e_retL (rs := [.cell 2 28, .tmp 3]) (vs := [.agg #[(.int .i64 0), (.int .i64 0), (.slice none 0 0), (.int .u64 0), (.int .i64 0), (.slice none 0 0)], (.bool false)]) rfl ⟨⟨_, _, [(.int .i64 0), (.int .i64 0), (.slice none 0 0), (.int .u64 0), (.int .i64 0), (.slice none 0 0)], rfl, ag28_6, hb_g2, rfl⟩, rfl, trivial⟩ ?_
                  rw [hbad]
                  exact ⟨[], none, 0, none, 0, rfl, rfl, (RdI.nil _ _ _), (Rd.nil _ _ _ _ _ _ (Nat.zero_le _)), hE⟩
                · refine vm rfl rfl ?_
                  refine wl_gval (ov_field0 (off := 0) fo78_0 rfl) rfl rfl rfl rfl rfl ?_
                  refine wl_gval (ov_loadAt oc32 rfl hb_g6 rfl) rfl rfl rfl rfl rfl ?_
                  refine wl_gval (ov_len Try.underlying32 rfl) rfl rfl rfl rfl rfl ?_
                  refine wl_gval (ov_gtr rfl rfl) rfl rfl rfl rfl rfl ?_
                  refine wl_case_d (d := 161) rfl (fun h161 => ?_) (fun h161 => ?_)
                  · have hbad : refRd op l = (rspO 0 0, false) := hfin.trans (fin_bad (fun q => by have q1 : lk.length = 0 := q.2.1; omega))
                    refine wl_val (ov_pick_f rfl rfl) rfl rfl rfl ?_
                    refine vm rfl rfl ?_
                    iterate 3 refine wl_gskip rfl rfl rfl rfl rfl rfl ?_
                    refine wl_val (ov_pick_t rfl rfl) rfl rfl rfl ?_
                    refine q_nil (k_then ?_)
                    refine wc_cond_t rfl ?_
                    refine wc_seq (wc_regionL ?_)
                    refine wl_val (ov_build (cs := [(.int .i64 0), (.int .i64 0), (.slice none 0 0), (.int .u64 0), (.int .i64 0), (.slice none 0 0)]) ze28 pl28 rfl rfl) rfl rfl rfl ?_
                    refine wl_step0 (or_storeBlk (vs := [(.int .i64 0), (.int .i64 0), (.slice none 0 0), (.int .u64 0), (.int .i64 0), (.slice none 0 0)]) sz28 rfl rfl (by simp [Value.oneCell']) hb_g2 rfl) rfl rfl ?_
                    rintro _ w210 ⟨hN210, hg210⟩
                    have hz_hg210 := hg210.size
                    replace hb_g4 := hb_g4.gr hg210 (by intro e; cases e; omega)
                    replace hb_g6 := hb_g6.gr hg210 (by intro e; cases e; omega)
                    replace hr6 := hr6.gr hg210 (fun _ e => by cases e; omega)
                    replace hoX := Own.gr hoX hg210 (by first | exact .inl rfl | (right; intro e; first | (have := hq_hoX _ e; omega) | (have := Own.lt hoX e; omega) | exact own_blk_ne hoX hb_g2 (by decide) e))
                    replace hoN := Own.gr hoN hg210 (by first | exact .inl rfl | (right; intro e; first | (have := hq_hoN _ e; omega) | (have := Own.lt hoN e; omega) | exact own_blk_ne hoN hb_g2 (by decide) e))
                    replace hvo := VO.bk hvo hg210 hb_g2 (by decide)
                    replace hE := hE.gr hg210 (fun _ e => by cases e; omega)
                    replace hb_g2 := hN210
                    refine va rfl rfl ?_
                    refine q_nil (k_then (q_ret (k_thenR ?_)))
                    refine e_retL (rs := [.cell 2 28, .tmp 3]) (vs := [.agg #[(.int .i64 0), (.int .i64 0), (.slice none 0 0), (.int .u64 0), (.int .i64 0), (.slice none 0 0)], (.bool false)]) rfl ⟨⟨_, _, [(.int .i64 0), (.int .i64 0), (.slice none 0 0), (.int .u64 0), (.int .i64 0), (.slice none 0 0)], rfl, ag28_6, hb_g2, rfl⟩, rfl, trivial⟩ ?_
                    rw [hbad]
                    exact ⟨[], none, 0, none, 0, rfl, rfl, (RdI.nil _ _ _), (Rd.nil _ _ _ _ _ _ (Nat.zero_le _)), hE⟩
                  · refine wl_val (ov_pick_f rfl rfl) rfl rfl rfl ?_
                    refine vm rfl rfl ?_
                    refine wl_gval (ov_loadBlk (cs := [(.int .i64 op), (.int .i64 0), (.slice X it cx), (.int .u64 (↑vr : Int)), (.int .i64 (↑n : Int)), (.slice N nu cn)]) ag28_6 rfl hb_g4) rfl rfl rfl rfl rfl ?_
                    refine wl_spell (d := 164) rfl (v' := .agg (rspc (⟨op, 0, vals ys, vr, (n : Int), ns⟩ : Rsp) X cx N cn).toArray) (by unfold rspc; show _ = Value.agg #[.int .i64 op, .int .i64 0, .slice X (vals ys).length cx, .int .u64 (vr : Int), .int .i64 (n : Int), .slice N ns.length cn]; rw [hvl, hnl]) ?_
                    refine wl_gstep (or_call0 cl10 rfl rfl (rv8_any _ (⟨op, 0, vals ys, vr, (n : Int), ns⟩ : Rsp) ys rfl 0 _ X cx N cn (hvo.rd hoX hyl.symm) (by show Rd _ _ _ _ _ ns.length _ _; rw [hnl]; exact (Own.rd hoN).mono (Nat.zero_le _) (Nat.le_refl _)))) rfl rfl rfl rfl rfl ?_
                    rintro v w210 ⟨rfl, he165⟩
                    replace hb_g2 := hb_g2.ext he165
                    replace hb_g4 := hb_g4.ext he165
                    replace hb_g6 := hb_g6.ext he165
                    replace hr6 := hr6.ext he165
                    replace hoX := Own.ext hoX he165
                    replace hoN := Own.ext hoN he165
                    replace hvo := VO.ext hvo he165
                    replace hE := hE.tr he165
                    have hz_he165 := he165.size
                    refine wl_gval (ov_not rfl) rfl rfl rfl rfl rfl ?_
                    refine wl_spell (d := 166) rfl (v' := (.bool (decide (¬ RV (⟨op, 0, vals ys, vr, (n : Int), ns⟩ : Rsp))))) (by by_cases h : RV (⟨op, 0, vals ys, vr, (n : Int), ns⟩ : Rsp) <;> simp [h]) ?_
                    refine wl_case_d (d := 166) rfl (fun h166 => ?_) (fun h166 => ?_)
                    · have hbad : refRd op l = (rspO 0 0, false) := hfin.trans (fin_bad (fun q => h166 q.2.2))
                      refine wl_val (ov_pick_f rfl rfl) rfl rfl rfl ?_
                      refine q_nil (k_then ?_)
                      refine wc_cond_t rfl ?_
                      refine wc_seq (wc_regionL ?_)
                      refine wl_val (ov_build (cs := [(.int .i64 0), (.int .i64 0), (.slice none 0 0), (.int .u64 0), (.int .i64 0), (.slice none 0 0)]) ze28 pl28 rfl rfl) rfl rfl rfl ?_
                      refine wl_step0 (or_storeBlk (vs := [(.int .i64 0), (.int .i64 0), (.slice none 0 0), (.int .u64 0), (.int .i64 0), (.slice none 0 0)]) sz28 rfl rfl (by simp [Value.oneCell']) hb_g2 rfl) rfl rfl ?_
                      rintro _ w211 ⟨hN211, hg211⟩
                      have hz_hg211 := hg211.size
                      replace hb_g4 := hb_g4.gr hg211 (by intro e; cases e; omega)
                      replace hb_g6 := hb_g6.gr hg211 (by intro e; cases e; omega)
                      replace hr6 := hr6.gr hg211 (fun _ e => by cases e; omega)
                      replace hoX := Own.gr hoX hg211 (by first | exact .inl rfl | (right; intro e; first | (have := hq_hoX _ e; omega) | (have := Own.lt hoX e; omega) | exact own_blk_ne hoX hb_g2 (by decide) e))
                      replace hoN := Own.gr hoN hg211 (by first | exact .inl rfl | (right; intro e; first | (have := hq_hoN _ e; omega) | (have := Own.lt hoN e; omega) | exact own_blk_ne hoN hb_g2 (by decide) e))
                      replace hvo := VO.bk hvo hg211 hb_g2 (by decide)
                      replace hE := hE.gr hg211 (fun _ e => by cases e; omega)
                      replace hb_g2 := hN211
                      refine va rfl rfl ?_
                      refine q_nil (k_then (q_ret (k_thenR ?_)))
                      refine e_retL (rs := [.cell 2 28, .tmp 3]) (vs := [.agg #[(.int .i64 0), (.int .i64 0), (.slice none 0 0), (.int .u64 0), (.int .i64 0), (.slice none 0 0)], (.bool false)]) rfl ⟨⟨_, _, [(.int .i64 0), (.int .i64 0), (.slice none 0 0), (.int .u64 0), (.int .i64 0), (.slice none 0 0)], rfl, ag28_6, hb_g2, rfl⟩, rfl, trivial⟩ ?_
                      rw [hbad]
                      exact ⟨[], none, 0, none, 0, rfl, rfl, (RdI.nil _ _ _), (Rd.nil _ _ _ _ _ _ (Nat.zero_le _)), hE⟩
                    · have hgood := hfin.trans (fin_ok (s := (lk, bk)) ⟨by simpa using h156, by show lk.length = 0; omega, Decidable.not_not.1 h166⟩)
                      refine wl_val (ov_pick_f rfl rfl) rfl rfl rfl ?_
                      refine q_nil (k_then ?_)
                      refine wc_cond_f rfl ?_
                      refine q_skip (k_then (wc_seq (wc_regionL ?_)))
                      refine wl_val (ov_loadBlk (cs := [(.int .i64 op), (.int .i64 0), (.slice X it cx), (.int .u64 (↑vr : Int)), (.int .i64 (↑n : Int)), (.slice N nu cn)]) ag28_6 rfl hb_g4) rfl rfl rfl ?_
                      refine wl_spell (d := 169) rfl (v' := .agg (rspc (⟨op, 0, vals ys, vr, (n : Int), ns⟩ : Rsp) X cx N cn).toArray) (by unfold rspc; show _ = Value.agg #[.int .i64 op, .int .i64 0, .slice X (vals ys).length cx, .int .u64 (vr : Int), .int .i64 (n : Int), .slice N ns.length cn]; rw [hvl, hnl]) ?_
                      refine wl_step0 (or_storeBlk (vs := [(.int .i64 (⟨op, 0, vals ys, vr, (n : Int), ns⟩ : Rsp).op), (.int .i64 (⟨op, 0, vals ys, vr, (n : Int), ns⟩ : Rsp).err), (.slice X (⟨op, 0, vals ys, vr, (n : Int), ns⟩ : Rsp).items.length cx), (.int .u64 (↑(⟨op, 0, vals ys, vr, (n : Int), ns⟩ : Rsp).ver : Int)), (.int .i64 (⟨op, 0, vals ys, vr, (n : Int), ns⟩ : Rsp).count), (.slice N (⟨op, 0, vals ys, vr, (n : Int), ns⟩ : Rsp).nums.length cn)]) sz28 rfl rfl (by simp [Value.oneCell']) hb_g2 rfl) rfl rfl ?_
                      rintro _ w211 ⟨hN211, hg211⟩
                      have hz_hg211 := hg211.size
                      replace hb_g4 := hb_g4.gr hg211 (by intro e; cases e; omega)
                      replace hb_g6 := hb_g6.gr hg211 (by intro e; cases e; omega)
                      replace hr6 := hr6.gr hg211 (fun _ e => by cases e; omega)
                      replace hoX := Own.gr hoX hg211 (by first | exact .inl rfl | (right; intro e; first | (have := hq_hoX _ e; omega) | (have := Own.lt hoX e; omega) | exact own_blk_ne hoX hb_g2 (by decide) e))
                      replace hoN := Own.gr hoN hg211 (by first | exact .inl rfl | (right; intro e; first | (have := hq_hoN _ e; omega) | (have := Own.lt hoN e; omega) | exact own_blk_ne hoN hb_g2 (by decide) e))
                      replace hvo := VO.bk hvo hg211 hb_g2 (by decide)
                      replace hE := hE.gr hg211 (fun _ e => by cases e; omega)
                      replace hb_g2 := hN211
                      refine va rfl rfl ?_
                      refine q_nil (k_then (q_ret ?_))
                      refine e_retL (rs := [.cell 2 28, .tmp 3]) (vs := [.agg #[(.int .i64 (⟨op, 0, vals ys, vr, (n : Int), ns⟩ : Rsp).op), (.int .i64 (⟨op, 0, vals ys, vr, (n : Int), ns⟩ : Rsp).err), (.slice X (⟨op, 0, vals ys, vr, (n : Int), ns⟩ : Rsp).items.length cx), (.int .u64 (↑(⟨op, 0, vals ys, vr, (n : Int), ns⟩ : Rsp).ver : Int)), (.int .i64 (⟨op, 0, vals ys, vr, (n : Int), ns⟩ : Rsp).count), (.slice N (⟨op, 0, vals ys, vr, (n : Int), ns⟩ : Rsp).nums.length cn)], (.bool true)]) rfl ⟨⟨_, _, [(.int .i64 (⟨op, 0, vals ys, vr, (n : Int), ns⟩ : Rsp).op), (.int .i64 (⟨op, 0, vals ys, vr, (n : Int), ns⟩ : Rsp).err), (.slice X (⟨op, 0, vals ys, vr, (n : Int), ns⟩ : Rsp).items.length cx), (.int .u64 (↑(⟨op, 0, vals ys, vr, (n : Int), ns⟩ : Rsp).ver : Int)), (.int .i64 (⟨op, 0, vals ys, vr, (n : Int), ns⟩ : Rsp).count), (.slice N (⟨op, 0, vals ys, vr, (n : Int), ns⟩ : Rsp).nums.length cn)], rfl, ag28_6, hb_g2, rfl⟩, rfl, trivial⟩ ?_
                      rw [hgood]
                      refine ⟨ys, X, cx, N, cn, rfl, rfl, hvo.rd hoX hyl.symm, ?_, hE⟩
                      show Rd _ _ _ _ _ ns.length _ _
                      rw [hnl]
                      exact (Own.rd hoN).mono (Nat.zero_le _) (Nat.le_refl _)

theorem rrd8_any (w : World) (code : UInt8) (op : Int) (hop : (code.toNat : Int) - 64 = op) (lo hi : Nat) (A : Option Addr) (c : Nat) (l : List UInt8) (hr : RdB w lo hi A c l) (hhi : hi ≤ w.heap.size) (hlen : l.length ≤ 140737488355328) :
    Fn Try.prog 18 #[.agg #[.int .u8 (code.toNat : Int), .slice A l.length c]] w (fun v w' => ∃ ys X cx N cn, v = .tuple #[.agg (rspc (refRd op l).1 X cx N cn).toArray, .bool (refRd op l).2] ∧ vals ys = (refRd op l).1.items ∧ RdI w' 0 w'.heap.size X cx ys ∧ RdN w' 0 w'.heap.size N cn (refRd op l).1.nums ∧ Ext w w') := by
  obtain ⟨n, L, b, e⟩ : ∃ x y z, numX l false = (x, y, z) := ⟨_, _, _, rfl⟩
  by_cases h1 : 0 ≤ op
  · by_cases h2 : op ≤ 15
    · by_cases hn0 : n = 0
      · exact rrd8_0 w code op hop lo hi A c l hr hhi hlen n L b e h1 h2 hn0
      · exact rrd8_e w code op hop lo hi A c l hr hhi hlen n L b e h1 h2 hn0
    · exact rrd8_x w code op hop lo hi A c l hr hhi hlen n L b e (.inr (by omega))
  · exact rrd8_x w code op hop lo hi A c l hr hhi hlen n L b e (.inl (by omega))

end Go.Proofs.Ytohnkjjjejnkpaa
