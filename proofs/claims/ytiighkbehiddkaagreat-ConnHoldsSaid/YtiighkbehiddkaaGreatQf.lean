/-
 The reading of all parts.
-/
import Derived.Test.YtiighkbehiddkaaGreatQe
namespace Go.Proofs.YtiighkbehiddkaaGreat
open Go.RowKit
set_option linter.unusedVariables false
set_option linter.unusedSimpArgs false
set_option maxRecDepth 4000
theorem cl105 : callable Tryz.prog 105 = true := by kernel_rfl
theorem cl106 : callable Tryz.prog 106 = true := by kernel_rfl
theorem cl108 : callable Tryz.prog 108 = true := by kernel_rfl
theorem cl110 : callable Tryz.prog 110 = true := by kernel_rfl
theorem fo39_0 : fieldOff Tryz.prog 39 0 = some 0 := by kernel_rfl
theorem fo39_1 : fieldOff Tryz.prog 39 1 = some 1 := by kernel_rfl
theorem fo39_2 : fieldOff Tryz.prog 39 2 = some 2 := by kernel_rfl
theorem fo39_4 : fieldOff Tryz.prog 39 4 = some 4 := by kernel_rfl
theorem fo39_6 : fieldOff Tryz.prog 39 6 = some 6 := by kernel_rfl
theorem fo39_7 : fieldOff Tryz.prog 39 7 = some 7 := by kernel_rfl
theorem fo39_8 : fieldOff Tryz.prog 39 8 = some 8 := by kernel_rfl
theorem fo39_9 : fieldOff Tryz.prog 39 9 = some 9 := by kernel_rfl
theorem oc34 : oneCellTy Tryz.prog 34 = true := by kernel_rfl
/-- Reading a part. -/
def rstep (s : Cmd × List UInt8 × Bool) (p : UInt8) : Cmd × List UInt8 × Bool :=
 if p = 107 then ({ s.1 with key := partV s.2.1 }, partR s.2.1, s.2.2 || partB kv s.2.1) else if p = 118 then ({ s.1 with value := partV s.2.1 }, partR s.2.1, s.2.2 || partB vv s.2.1)
 else if p = 116 then ({ s.1 with tags := rlV 0 16 s.2.1 }, rlR 0 16 s.2.1, s.2.2 || rlB 0 16 tv s.2.1)
 else if p = 108 then ({ s.1 with life := numV s.2.1 }, numR s.2.1, s.2.2 || numB s.2.1 || decide (numV s.2.1 = 0)) else if p = 110 then ({ s.1 with ver := numV s.2.1 }, numR s.2.1, s.2.2 || numB s.2.1)
 else if p = 109 then ({ s.1 with keys := rlV 1 16 s.2.1 }, rlR 1 16 s.2.1, s.2.2 || rlB 1 16 kv s.2.1)
 else if p = 103 then ({ s.1 with tag := partV s.2.1 }, partR s.2.1, s.2.2 || partB tv s.2.1) else if p = 112 then ({ s.1 with pre := partV s.2.1 }, partR s.2.1, s.2.2 || partB pv s.2.1)
 else ({ s.1 with child := partV s.2.1 }, partR s.2.1, s.2.2 || partB kv s.2.1)
def rfold (op : Int) (l : List UInt8) : Cmd × List UInt8 × Bool := (needs op).foldl rstep (cmd0 op, l, false)
section
variable (c : Cmd) (l : List UInt8) (b : Bool)
theorem rst_k : rstep (c, l, b) 107 = ({ c with key := partV l }, partR l, b || partB kv l) := rfl
theorem rst_v : rstep (c, l, b) 118 = ({ c with value := partV l }, partR l, b || partB vv l) := rfl
theorem rst_t : rstep (c, l, b) 116 = ({ c with tags := rlV 0 16 l }, rlR 0 16 l, b || rlB 0 16 tv l) := rfl
theorem rst_l : rstep (c, l, b) 108 = ({ c with life := numV l }, numR l, b || numB l || decide (numV l = 0)) := rfl
theorem rst_n : rstep (c, l, b) 110 = ({ c with ver := numV l }, numR l, b || numB l) := rfl
theorem rst_m : rstep (c, l, b) 109 = ({ c with keys := rlV 1 16 l }, rlR 1 16 l, b || rlB 1 16 kv l) := rfl
theorem rst_g : rstep (c, l, b) 103 = ({ c with tag := partV l }, partR l, b || partB tv l) := rfl
theorem rst_p : rstep (c, l, b) 112 = ({ c with pre := partV l }, partR l, b || partB pv l) := rfl
theorem rst_c : rstep (c, l, b) 99 = ({ c with child := partV l }, partR l, b || partB kv l) := rfl
end
theorem nd_1 : needs 1 = [107, 118, 116, 108] := by decide
theorem nd_2 : needs 2 = [107, 118, 116, 108] := by decide
theorem nd_3 : needs 3 = [107, 118, 116, 108, 110] := by decide
theorem nd_4 : needs 4 = [107] := by decide
theorem nd_5 : needs 5 = [109] := by decide
theorem nd_6 : needs 6 = [107, 108] := by decide
theorem nd_7 : needs 7 = [107] := by decide
theorem nd_8 : needs 8 = [103] := by decide
theorem nd_9 : needs 9 = [103] := by decide
theorem nd_10 : needs 10 = [112] := by decide
theorem nd_11 : needs 11 = [107, 99] := by decide
theorem nd_12 : needs 12 = [107, 99] := by decide
theorem nd_13 : needs 13 = [107] := by decide
theorem nd_14 : needs 14 = [] := by decide
theorem nd_15 : needs 15 = [] := by decide
theorem partsr_1 (w : World) (gx gc gr lo hi : Nat) (A : Option Addr) (c : Nat) (l : List UInt8) (hb_gx : Blk w gx 153 [.pointer (some ⟨gc, 0, none⟩), .pointer (some ⟨gr, 0, none⟩), .slice none 0 0, .bool false]) (hb_gr : Blk w gr 178 [.bool true, .slice A l.length c]) (hr : RdB w lo hi A c l) (hgx : gx ≠ gr) (hxo : gx < lo ∨ hi ≤ gx) (hro : gr < lo ∨ hi ≤ gr) (hlen : l.length ≤ 140737488355328) (op : Int) (hb_gc : Blk w gc 39 (cmdc (cmd0 op) none 0 none 0 none 0)) (hcx : gc ≠ gx) (hcr : gc ≠ gr) (hco : gc < lo ∨ hi ≤ gc) (hhi : hi ≤ w.heap.size) (hop : op = 1) :
  Fn Tryz.prog 87 #[(.pointer (some ⟨gx, 0, none⟩))] w (fun v w' => v = .tuple #[] ∧ Blk w' gx 153 [.pointer (some ⟨gc, 0, none⟩), .pointer (some ⟨gr, 0, none⟩), .slice none 0 0, .bool (rfold op l).2.2] ∧ RdrAt w' gr lo hi (rfold op l).2.1 ∧ (∃ K ck V cv T ct, Blk w' gc 39 (cmdc (rfold op l).1 K ck V cv T ct) ∧ RdS w' w.heap.size w'.heap.size K ck (rfold op l).1.keys ∧ RdB w' w.heap.size w'.heap.size V cv (rfold op l).1.value ∧ RdS w' w.heap.size w'.heap.size T ct (rfold op l).1.tags) ∧ Kp [gx, gr, gc] w w')  := by
 have hK := Kp.refl [gx, gr, gc] w
 have hgxl := hb_gx.lt
 have hgrl := hb_gr.lt
 have hgcl := hb_gc.lt
 replace hb_gc : Blk w gc 39 [(.int .i64 op), (.string (strB ([] : List UInt8))), (.slice none 0 0), (.slice none 0 0), (.slice none 0 0), (.int .u64 0), (.int .u64 0), (.string (strB ([] : List UInt8))), (.string (strB ([] : List UInt8))), (.string (strB ([] : List UInt8)))] := hb_gc
 refine fn_enter (args := [(.pointer (some ⟨gx, 0, none⟩))]) Tryz.func87 rfl rfl rfl ?_
 show WC _ _ _ _ [(0, (.pointer (some ⟨gx, 0, none⟩)))] _
 refine wc_seq (wc_regionL ?_)
 refine vm rfl rfl ?_
 refine vn rfl rfl ?_
 refine wl_val (ov_field0 (off := 0) fo153_0 rfl) rfl rfl rfl ?_
 refine wl_val (ov_loadAt oc149 rfl hb_gx rfl) rfl rfl rfl ?_
 refine va rfl rfl ?_
 refine q_nil (k_then (wc_seq (wc_regionL ?_)))
 refine vm rfl rfl ?_
 refine vn rfl rfl ?_
 refine wl_val (ov_field0 (off := 0) fo39_0 rfl) rfl rfl rfl ?_
 refine wl_val (ov_loadAt oc34 rfl hb_gc rfl) rfl rfl rfl ?_
 refine wl_spell (d := 10) rfl (v' := (.int .i64 1)) (by rw [hop]) ?_
 refine q_nil (k_then (wc_block (wc_seq (wc_seq (wc_regionL ?_)))))
 refine ve rfl rfl rfl ?_
 refine va rfl rfl ?_
 refine q_nil (k_then ?_)
 refine wc_cond_t rfl ?_
 refine q_skip (k_then ?_)
 refine wc_cond_t rfl ?_
 refine wc_seq (wc_regionL ?_)
 iterate 2 refine vm rfl rfl ?_
 refine vn rfl rfl ?_
 refine wl_val (ov_field0 (off := 1) fo39_1 rfl) rfl rfl rfl ?_
 refine wl_step (or_call0 cl103 rfl rfl (partr _ gx gc gr _ _ A c l false hb_gx hb_gr hr (by omega) (by omega) (by omega) (by omega) gc 1 _ _ hb_gc (Nat.le_of_ble_eq_true rfl) (by omega) (by omega) (by omega) kv 104 cl104 kv_any)) rfl rfl rfl ?_
 rintro v w1 ⟨rfl, hN22, ⟨A22, c22, hQ22, hr22⟩, hT22, hK22⟩
 have hz_hK22 := hK22.size
 replace hK := Kp.tr hK hK22 (by intro x hx; simp only [List.mem_cons, List.not_mem_nil, or_false] at hx ⊢; omega)
 replace hb_gx := hN22
 replace hb_gr := hQ22
 replace hb_gc : Blk _ gc _ [(.int .i64 op), (.string (strB (partV l))), (.slice none 0 0), (.slice none 0 0), (.slice none 0 0), (.int .u64 0), (.int .u64 0), (.string (strB ([] : List UInt8))), (.string (strB ([] : List UInt8))), (.string (strB ([] : List UInt8)))] := hT22
 have hlr22 := partR_len l
 have hlv22 := partV_len l
 refine q_nil (k_then (wc_seq (wc_regionL ?_)))
 refine vm rfl rfl ?_
 refine wl_step (or_call0 cl105 rfl rfl (valuer _ gx gc gr _ _ A22 c22 (partR l) (false || partB kv l) hb_gx hb_gr hr22 (by omega) (by omega) (by omega) (by omega) _ _ _ _ _ _ _ _ _ hb_gc (by omega) (by omega) (by omega) (by omega))) rfl rfl rfl ?_
 rintro v w2 ⟨rfl, hN24, ⟨A24, c24, hQ24, hr24⟩, ⟨V24, cV24, hT24, hV24⟩, hK24⟩
 have hz_hK24 := hK24.size
 replace hK := Kp.tr hK hK24 (by intro x hx; simp only [List.mem_cons, List.not_mem_nil, or_false] at hx ⊢; omega)
 replace hb_gx := hN24
 replace hb_gr := hQ24
 replace hb_gc : Blk _ gc _ [(.int .i64 op), (.string (strB (partV l))), (.slice none 0 0), (.slice V24 (partV (partR l)).length cV24), (.slice none 0 0), (.int .u64 0), (.int .u64 0), (.string (strB ([] : List UInt8))), (.string (strB ([] : List UInt8))), (.string (strB ([] : List UInt8)))] := hT24
 have hlr24 := partR_len (partR l)
 refine q_nil (k_then (wc_seq (wc_regionL ?_)))
 iterate 2 refine vm rfl rfl ?_
 refine vn rfl rfl ?_
 refine wl_val (ov_field0 (off := 4) fo39_4 rfl) rfl rfl rfl ?_
 refine wl_step (or_call0 cl106 rfl rfl (listTr _ gx gc gr _ _ A24 c24 (partR (partR l)) ((false || partB kv l) || partB vv (partR l)) hb_gx hb_gr hr24 (by omega) (by omega) (by omega) (by omega) _ _ _ _ _ _ _ _ _ hb_gc (by omega) (by omega) (by omega) (by omega))) rfl rfl rfl ?_
 rintro v w3 ⟨rfl, hN29, ⟨A29, c29, hQ29, hr29⟩, ⟨V29, cV29, hT29, hV29⟩, hK29⟩
 have hz_hK29 := hK29.size
 replace hK := Kp.tr hK hK29 (by intro x hx; simp only [List.mem_cons, List.not_mem_nil, or_false] at hx ⊢; omega)
 replace hV24 := hK29.rd hV24 (by intro g hg; simp at hg; omega)
 replace hb_gx := hN29
 replace hb_gr := hQ29
 replace hb_gc : Blk _ gc _ [(.int .i64 op), (.string (strB (partV l))), (.slice none 0 0), (.slice V24 (partV (partR l)).length cV24), (.slice V29 (rlV 0 16 (partR (partR l))).length cV29), (.int .u64 0), (.int .u64 0), (.string (strB ([] : List UInt8))), (.string (strB ([] : List UInt8))), (.string (strB ([] : List UInt8)))] := hT29
 have hlr29 := rlR_len 0 16 (partR (partR l))
 refine q_nil (k_then (wc_seq (wc_regionL ?_)))
 refine vm rfl rfl ?_
 refine wl_step (or_call0 cl108 rfl rfl (lifer _ gx gc gr _ _ A29 c29 (rlR 0 16 (partR (partR l))) (((false || partB kv l) || partB vv (partR l)) || rlB 0 16 tv (partR (partR l))) hb_gx hb_gr hr29 (by omega) (by omega) (by omega) (by omega) _ _ _ _ _ _ _ _ _ hb_gc (by omega) (by omega) (by omega) (by omega))) rfl rfl rfl ?_
 rintro v w4 ⟨rfl, hN31, ⟨A31, c31, hQ31, hr31⟩, hT31, hK31⟩
 have hz_hK31 := hK31.size
 replace hK := Kp.tr hK hK31 (by intro x hx; simp only [List.mem_cons, List.not_mem_nil, or_false] at hx ⊢; omega)
 replace hV24 := hK31.rd hV24 (by intro g hg; simp at hg; omega)
 replace hV29 := hK31.rd hV29 (by intro g hg; simp at hg; omega)
 replace hb_gx := hN31
 replace hb_gr := hQ31
 replace hb_gc : Blk _ gc _ [(.int .i64 op), (.string (strB (partV l))), (.slice none 0 0), (.slice V24 (partV (partR l)).length cV24), (.slice V29 (rlV 0 16 (partR (partR l))).length cV29), (.int .u64 (↑(numV (rlR 0 16 (partR (partR l)))) : Int)), (.int .u64 0), (.string (strB ([] : List UInt8))), (.string (strB ([] : List UInt8))), (.string (strB ([] : List UInt8)))] := hT31
 have hlr31 := numR_len (rlR 0 16 (partR (partR l)))
 refine q_nil (k_then (wc_seq (wc_regionL ?_)))
 refine vm rfl rfl ?_
 refine vn rfl rfl ?_
 refine wl_val (ov_field0 (off := 0) fo39_0 rfl) rfl rfl rfl ?_
 refine wl_val (ov_loadAt oc34 rfl hb_gc rfl) rfl rfl rfl ?_
 refine wl_spell (d := 35) rfl (v' := (.int .i64 1)) (by rw [hop]) ?_
 refine ve rfl rfl rfl ?_
 refine q_nil (k_then ?_)
 refine wc_cond_f rfl ?_
 refine q_skip (k_block ?_)
 refine e_end0 rfl ?_
 have e : rfold op l = (⟨op, (partV l), [], (partV (partR l)), (rlV 0 16 (partR (partR l))), ((numV (rlR 0 16 (partR (partR l))))), 0, ([] : List UInt8), ([] : List UInt8), ([] : List UInt8)⟩, (numR (rlR 0 16 (partR (partR l)))), ((((false || partB kv l) || partB vv (partR l)) || rlB 0 16 tv (partR (partR l))) || numB (rlR 0 16 (partR (partR l))) || decide (numV (rlR 0 16 (partR (partR l))) = 0))) := by rw [hop]; simp only [rfold, nd_1, List.foldl_cons, List.foldl_nil, rst_k, rst_v, rst_t, rst_l, rst_n, rst_m, rst_g, rst_p, rst_c, cmd0]
 rw [e]
 dsimp only [cmdc]
 exact ⟨rfl, hb_gx, ⟨_, _, hb_gr, hr31⟩, ⟨none, 0, V24, cV24, V29, cV29, hb_gc, Rd.nil _ _ _ _ _ _ (Nat.zero_le _), (Rd.top hV24).mono (by omega) (Nat.le_refl _), (Rd.top hV29).mono (by omega) (Nat.le_refl _)⟩, hK⟩
theorem partsr_2 (w : World) (gx gc gr lo hi : Nat) (A : Option Addr) (c : Nat) (l : List UInt8) (hb_gx : Blk w gx 153 [.pointer (some ⟨gc, 0, none⟩), .pointer (some ⟨gr, 0, none⟩), .slice none 0 0, .bool false]) (hb_gr : Blk w gr 178 [.bool true, .slice A l.length c]) (hr : RdB w lo hi A c l) (hgx : gx ≠ gr) (hxo : gx < lo ∨ hi ≤ gx) (hro : gr < lo ∨ hi ≤ gr) (hlen : l.length ≤ 140737488355328) (op : Int) (hb_gc : Blk w gc 39 (cmdc (cmd0 op) none 0 none 0 none 0)) (hcx : gc ≠ gx) (hcr : gc ≠ gr) (hco : gc < lo ∨ hi ≤ gc) (hhi : hi ≤ w.heap.size) (hop : op = 2) :
  Fn Tryz.prog 87 #[(.pointer (some ⟨gx, 0, none⟩))] w (fun v w' => v = .tuple #[] ∧ Blk w' gx 153 [.pointer (some ⟨gc, 0, none⟩), .pointer (some ⟨gr, 0, none⟩), .slice none 0 0, .bool (rfold op l).2.2] ∧ RdrAt w' gr lo hi (rfold op l).2.1 ∧ (∃ K ck V cv T ct, Blk w' gc 39 (cmdc (rfold op l).1 K ck V cv T ct) ∧ RdS w' w.heap.size w'.heap.size K ck (rfold op l).1.keys ∧ RdB w' w.heap.size w'.heap.size V cv (rfold op l).1.value ∧ RdS w' w.heap.size w'.heap.size T ct (rfold op l).1.tags) ∧ Kp [gx, gr, gc] w w')  := by
 have hK := Kp.refl [gx, gr, gc] w
 have hgxl := hb_gx.lt
 have hgrl := hb_gr.lt
 have hgcl := hb_gc.lt
 replace hb_gc : Blk w gc 39 [(.int .i64 op), (.string (strB ([] : List UInt8))), (.slice none 0 0), (.slice none 0 0), (.slice none 0 0), (.int .u64 0), (.int .u64 0), (.string (strB ([] : List UInt8))), (.string (strB ([] : List UInt8))), (.string (strB ([] : List UInt8)))] := hb_gc
 refine fn_enter (args := [(.pointer (some ⟨gx, 0, none⟩))]) Tryz.func87 rfl rfl rfl ?_
 show WC _ _ _ _ [(0, (.pointer (some ⟨gx, 0, none⟩)))] _
 refine wc_seq (wc_regionL ?_)
 refine vm rfl rfl ?_
 refine vn rfl rfl ?_
 refine wl_val (ov_field0 (off := 0) fo153_0 rfl) rfl rfl rfl ?_
 refine wl_val (ov_loadAt oc149 rfl hb_gx rfl) rfl rfl rfl ?_
 refine va rfl rfl ?_
 refine q_nil (k_then (wc_seq (wc_regionL ?_)))
 refine vm rfl rfl ?_
 refine vn rfl rfl ?_
 refine wl_val (ov_field0 (off := 0) fo39_0 rfl) rfl rfl rfl ?_
 refine wl_val (ov_loadAt oc34 rfl hb_gc rfl) rfl rfl rfl ?_
 refine wl_spell (d := 10) rfl (v' := (.int .i64 2)) (by rw [hop]) ?_
 refine q_nil (k_then (wc_block (wc_seq (wc_seq (wc_regionL ?_)))))
 refine ve rfl rfl rfl ?_
 refine va rfl rfl ?_
 refine q_nil (k_then ?_)
 refine wc_cond_f rfl ?_
 refine wc_seq (wc_regionL ?_)
 refine ve rfl rfl rfl ?_
 refine va rfl rfl ?_
 refine q_nil (k_then ?_)
 refine wc_cond_t rfl ?_
 refine q_skip (k_then ?_)
 refine wc_cond_t rfl ?_
 refine wc_seq (wc_regionL ?_)
 iterate 2 refine vm rfl rfl ?_
 refine vn rfl rfl ?_
 refine wl_val (ov_field0 (off := 1) fo39_1 rfl) rfl rfl rfl ?_
 refine wl_step (or_call0 cl103 rfl rfl (partr _ gx gc gr _ _ A c l false hb_gx hb_gr hr (by omega) (by omega) (by omega) (by omega) gc 1 _ _ hb_gc (Nat.le_of_ble_eq_true rfl) (by omega) (by omega) (by omega) kv 104 cl104 kv_any)) rfl rfl rfl ?_
 rintro v w1 ⟨rfl, hN22, ⟨A22, c22, hQ22, hr22⟩, hT22, hK22⟩
 have hz_hK22 := hK22.size
 replace hK := Kp.tr hK hK22 (by intro x hx; simp only [List.mem_cons, List.not_mem_nil, or_false] at hx ⊢; omega)
 replace hb_gx := hN22
 replace hb_gr := hQ22
 replace hb_gc : Blk _ gc _ [(.int .i64 op), (.string (strB (partV l))), (.slice none 0 0), (.slice none 0 0), (.slice none 0 0), (.int .u64 0), (.int .u64 0), (.string (strB ([] : List UInt8))), (.string (strB ([] : List UInt8))), (.string (strB ([] : List UInt8)))] := hT22
 have hlr22 := partR_len l
 have hlv22 := partV_len l
 refine q_nil (k_then (wc_seq (wc_regionL ?_)))
 refine vm rfl rfl ?_
 refine wl_step (or_call0 cl105 rfl rfl (valuer _ gx gc gr _ _ A22 c22 (partR l) (false || partB kv l) hb_gx hb_gr hr22 (by omega) (by omega) (by omega) (by omega) _ _ _ _ _ _ _ _ _ hb_gc (by omega) (by omega) (by omega) (by omega))) rfl rfl rfl ?_
 rintro v w2 ⟨rfl, hN24, ⟨A24, c24, hQ24, hr24⟩, ⟨V24, cV24, hT24, hV24⟩, hK24⟩
 have hz_hK24 := hK24.size
 replace hK := Kp.tr hK hK24 (by intro x hx; simp only [List.mem_cons, List.not_mem_nil, or_false] at hx ⊢; omega)
 replace hb_gx := hN24
 replace hb_gr := hQ24
 replace hb_gc : Blk _ gc _ [(.int .i64 op), (.string (strB (partV l))), (.slice none 0 0), (.slice V24 (partV (partR l)).length cV24), (.slice none 0 0), (.int .u64 0), (.int .u64 0), (.string (strB ([] : List UInt8))), (.string (strB ([] : List UInt8))), (.string (strB ([] : List UInt8)))] := hT24
 have hlr24 := partR_len (partR l)
 refine q_nil (k_then (wc_seq (wc_regionL ?_)))
 iterate 2 refine vm rfl rfl ?_
 refine vn rfl rfl ?_
 refine wl_val (ov_field0 (off := 4) fo39_4 rfl) rfl rfl rfl ?_
 refine wl_step (or_call0 cl106 rfl rfl (listTr _ gx gc gr _ _ A24 c24 (partR (partR l)) ((false || partB kv l) || partB vv (partR l)) hb_gx hb_gr hr24 (by omega) (by omega) (by omega) (by omega) _ _ _ _ _ _ _ _ _ hb_gc (by omega) (by omega) (by omega) (by omega))) rfl rfl rfl ?_
 rintro v w3 ⟨rfl, hN29, ⟨A29, c29, hQ29, hr29⟩, ⟨V29, cV29, hT29, hV29⟩, hK29⟩
 have hz_hK29 := hK29.size
 replace hK := Kp.tr hK hK29 (by intro x hx; simp only [List.mem_cons, List.not_mem_nil, or_false] at hx ⊢; omega)
 replace hV24 := hK29.rd hV24 (by intro g hg; simp at hg; omega)
 replace hb_gx := hN29
 replace hb_gr := hQ29
 replace hb_gc : Blk _ gc _ [(.int .i64 op), (.string (strB (partV l))), (.slice none 0 0), (.slice V24 (partV (partR l)).length cV24), (.slice V29 (rlV 0 16 (partR (partR l))).length cV29), (.int .u64 0), (.int .u64 0), (.string (strB ([] : List UInt8))), (.string (strB ([] : List UInt8))), (.string (strB ([] : List UInt8)))] := hT29
 have hlr29 := rlR_len 0 16 (partR (partR l))
 refine q_nil (k_then (wc_seq (wc_regionL ?_)))
 refine vm rfl rfl ?_
 refine wl_step (or_call0 cl108 rfl rfl (lifer _ gx gc gr _ _ A29 c29 (rlR 0 16 (partR (partR l))) (((false || partB kv l) || partB vv (partR l)) || rlB 0 16 tv (partR (partR l))) hb_gx hb_gr hr29 (by omega) (by omega) (by omega) (by omega) _ _ _ _ _ _ _ _ _ hb_gc (by omega) (by omega) (by omega) (by omega))) rfl rfl rfl ?_
 rintro v w4 ⟨rfl, hN31, ⟨A31, c31, hQ31, hr31⟩, hT31, hK31⟩
 have hz_hK31 := hK31.size
 replace hK := Kp.tr hK hK31 (by intro x hx; simp only [List.mem_cons, List.not_mem_nil, or_false] at hx ⊢; omega)
 replace hV24 := hK31.rd hV24 (by intro g hg; simp at hg; omega)
 replace hV29 := hK31.rd hV29 (by intro g hg; simp at hg; omega)
 replace hb_gx := hN31
 replace hb_gr := hQ31
 replace hb_gc : Blk _ gc _ [(.int .i64 op), (.string (strB (partV l))), (.slice none 0 0), (.slice V24 (partV (partR l)).length cV24), (.slice V29 (rlV 0 16 (partR (partR l))).length cV29), (.int .u64 (↑(numV (rlR 0 16 (partR (partR l)))) : Int)), (.int .u64 0), (.string (strB ([] : List UInt8))), (.string (strB ([] : List UInt8))), (.string (strB ([] : List UInt8)))] := hT31
 have hlr31 := numR_len (rlR 0 16 (partR (partR l)))
 refine q_nil (k_then (wc_seq (wc_regionL ?_)))
 refine vm rfl rfl ?_
 refine vn rfl rfl ?_
 refine wl_val (ov_field0 (off := 0) fo39_0 rfl) rfl rfl rfl ?_
 refine wl_val (ov_loadAt oc34 rfl hb_gc rfl) rfl rfl rfl ?_
 refine wl_spell (d := 35) rfl (v' := (.int .i64 2)) (by rw [hop]) ?_
 refine ve rfl rfl rfl ?_
 refine q_nil (k_then ?_)
 refine wc_cond_f rfl ?_
 refine q_skip (k_block ?_)
 refine e_end0 rfl ?_
 have e : rfold op l = (⟨op, (partV l), [], (partV (partR l)), (rlV 0 16 (partR (partR l))), ((numV (rlR 0 16 (partR (partR l))))), 0, ([] : List UInt8), ([] : List UInt8), ([] : List UInt8)⟩, (numR (rlR 0 16 (partR (partR l)))), ((((false || partB kv l) || partB vv (partR l)) || rlB 0 16 tv (partR (partR l))) || numB (rlR 0 16 (partR (partR l))) || decide (numV (rlR 0 16 (partR (partR l))) = 0))) := by rw [hop]; simp only [rfold, nd_2, List.foldl_cons, List.foldl_nil, rst_k, rst_v, rst_t, rst_l, rst_n, rst_m, rst_g, rst_p, rst_c, cmd0]
 rw [e]
 dsimp only [cmdc]
 exact ⟨rfl, hb_gx, ⟨_, _, hb_gr, hr31⟩, ⟨none, 0, V24, cV24, V29, cV29, hb_gc, Rd.nil _ _ _ _ _ _ (Nat.zero_le _), (Rd.top hV24).mono (by omega) (Nat.le_refl _), (Rd.top hV29).mono (by omega) (Nat.le_refl _)⟩, hK⟩
theorem partsr_3 (w : World) (gx gc gr lo hi : Nat) (A : Option Addr) (c : Nat) (l : List UInt8) (hb_gx : Blk w gx 153 [.pointer (some ⟨gc, 0, none⟩), .pointer (some ⟨gr, 0, none⟩), .slice none 0 0, .bool false]) (hb_gr : Blk w gr 178 [.bool true, .slice A l.length c]) (hr : RdB w lo hi A c l) (hgx : gx ≠ gr) (hxo : gx < lo ∨ hi ≤ gx) (hro : gr < lo ∨ hi ≤ gr) (hlen : l.length ≤ 140737488355328) (op : Int) (hb_gc : Blk w gc 39 (cmdc (cmd0 op) none 0 none 0 none 0)) (hcx : gc ≠ gx) (hcr : gc ≠ gr) (hco : gc < lo ∨ hi ≤ gc) (hhi : hi ≤ w.heap.size) (hop : op = 3) :
  Fn Tryz.prog 87 #[(.pointer (some ⟨gx, 0, none⟩))] w (fun v w' => v = .tuple #[] ∧ Blk w' gx 153 [.pointer (some ⟨gc, 0, none⟩), .pointer (some ⟨gr, 0, none⟩), .slice none 0 0, .bool (rfold op l).2.2] ∧ RdrAt w' gr lo hi (rfold op l).2.1 ∧ (∃ K ck V cv T ct, Blk w' gc 39 (cmdc (rfold op l).1 K ck V cv T ct) ∧ RdS w' w.heap.size w'.heap.size K ck (rfold op l).1.keys ∧ RdB w' w.heap.size w'.heap.size V cv (rfold op l).1.value ∧ RdS w' w.heap.size w'.heap.size T ct (rfold op l).1.tags) ∧ Kp [gx, gr, gc] w w')  := by
 have hK := Kp.refl [gx, gr, gc] w
 have hgxl := hb_gx.lt
 have hgrl := hb_gr.lt
 have hgcl := hb_gc.lt
 replace hb_gc : Blk w gc 39 [(.int .i64 op), (.string (strB ([] : List UInt8))), (.slice none 0 0), (.slice none 0 0), (.slice none 0 0), (.int .u64 0), (.int .u64 0), (.string (strB ([] : List UInt8))), (.string (strB ([] : List UInt8))), (.string (strB ([] : List UInt8)))] := hb_gc
 refine fn_enter (args := [(.pointer (some ⟨gx, 0, none⟩))]) Tryz.func87 rfl rfl rfl ?_
 show WC _ _ _ _ [(0, (.pointer (some ⟨gx, 0, none⟩)))] _
 refine wc_seq (wc_regionL ?_)
 refine vm rfl rfl ?_
 refine vn rfl rfl ?_
 refine wl_val (ov_field0 (off := 0) fo153_0 rfl) rfl rfl rfl ?_
 refine wl_val (ov_loadAt oc149 rfl hb_gx rfl) rfl rfl rfl ?_
 refine va rfl rfl ?_
 refine q_nil (k_then (wc_seq (wc_regionL ?_)))
 refine vm rfl rfl ?_
 refine vn rfl rfl ?_
 refine wl_val (ov_field0 (off := 0) fo39_0 rfl) rfl rfl rfl ?_
 refine wl_val (ov_loadAt oc34 rfl hb_gc rfl) rfl rfl rfl ?_
 refine wl_spell (d := 10) rfl (v' := (.int .i64 3)) (by rw [hop]) ?_
 refine q_nil (k_then (wc_block (wc_seq (wc_seq (wc_regionL ?_)))))
 refine ve rfl rfl rfl ?_
 refine va rfl rfl ?_
 refine q_nil (k_then ?_)
 refine wc_cond_f rfl ?_
 refine wc_seq (wc_regionL ?_)
 refine ve rfl rfl rfl ?_
 refine va rfl rfl ?_
 refine q_nil (k_then ?_)
 refine wc_cond_f rfl ?_
 refine wc_regionL ?_
 refine ve rfl rfl rfl ?_
 refine va rfl rfl ?_
 refine q_nil (k_then ?_)
 refine wc_cond_t rfl ?_
 refine wc_seq (wc_regionL ?_)
 iterate 2 refine vm rfl rfl ?_
 refine vn rfl rfl ?_
 refine wl_val (ov_field0 (off := 1) fo39_1 rfl) rfl rfl rfl ?_
 refine wl_step (or_call0 cl103 rfl rfl (partr _ gx gc gr _ _ A c l false hb_gx hb_gr hr (by omega) (by omega) (by omega) (by omega) gc 1 _ _ hb_gc (Nat.le_of_ble_eq_true rfl) (by omega) (by omega) (by omega) kv 104 cl104 kv_any)) rfl rfl rfl ?_
 rintro v w1 ⟨rfl, hN22, ⟨A22, c22, hQ22, hr22⟩, hT22, hK22⟩
 have hz_hK22 := hK22.size
 replace hK := Kp.tr hK hK22 (by intro x hx; simp only [List.mem_cons, List.not_mem_nil, or_false] at hx ⊢; omega)
 replace hb_gx := hN22
 replace hb_gr := hQ22
 replace hb_gc : Blk _ gc _ [(.int .i64 op), (.string (strB (partV l))), (.slice none 0 0), (.slice none 0 0), (.slice none 0 0), (.int .u64 0), (.int .u64 0), (.string (strB ([] : List UInt8))), (.string (strB ([] : List UInt8))), (.string (strB ([] : List UInt8)))] := hT22
 have hlr22 := partR_len l
 have hlv22 := partV_len l
 refine q_nil (k_then (wc_seq (wc_regionL ?_)))
 refine vm rfl rfl ?_
 refine wl_step (or_call0 cl105 rfl rfl (valuer _ gx gc gr _ _ A22 c22 (partR l) (false || partB kv l) hb_gx hb_gr hr22 (by omega) (by omega) (by omega) (by omega) _ _ _ _ _ _ _ _ _ hb_gc (by omega) (by omega) (by omega) (by omega))) rfl rfl rfl ?_
 rintro v w2 ⟨rfl, hN24, ⟨A24, c24, hQ24, hr24⟩, ⟨V24, cV24, hT24, hV24⟩, hK24⟩
 have hz_hK24 := hK24.size
 replace hK := Kp.tr hK hK24 (by intro x hx; simp only [List.mem_cons, List.not_mem_nil, or_false] at hx ⊢; omega)
 replace hb_gx := hN24
 replace hb_gr := hQ24
 replace hb_gc : Blk _ gc _ [(.int .i64 op), (.string (strB (partV l))), (.slice none 0 0), (.slice V24 (partV (partR l)).length cV24), (.slice none 0 0), (.int .u64 0), (.int .u64 0), (.string (strB ([] : List UInt8))), (.string (strB ([] : List UInt8))), (.string (strB ([] : List UInt8)))] := hT24
 have hlr24 := partR_len (partR l)
 refine q_nil (k_then (wc_seq (wc_regionL ?_)))
 iterate 2 refine vm rfl rfl ?_
 refine vn rfl rfl ?_
 refine wl_val (ov_field0 (off := 4) fo39_4 rfl) rfl rfl rfl ?_
 refine wl_step (or_call0 cl106 rfl rfl (listTr _ gx gc gr _ _ A24 c24 (partR (partR l)) ((false || partB kv l) || partB vv (partR l)) hb_gx hb_gr hr24 (by omega) (by omega) (by omega) (by omega) _ _ _ _ _ _ _ _ _ hb_gc (by omega) (by omega) (by omega) (by omega))) rfl rfl rfl ?_
 rintro v w3 ⟨rfl, hN29, ⟨A29, c29, hQ29, hr29⟩, ⟨V29, cV29, hT29, hV29⟩, hK29⟩
 have hz_hK29 := hK29.size
 replace hK := Kp.tr hK hK29 (by intro x hx; simp only [List.mem_cons, List.not_mem_nil, or_false] at hx ⊢; omega)
 replace hV24 := hK29.rd hV24 (by intro g hg; simp at hg; omega)
 replace hb_gx := hN29
 replace hb_gr := hQ29
 replace hb_gc : Blk _ gc _ [(.int .i64 op), (.string (strB (partV l))), (.slice none 0 0), (.slice V24 (partV (partR l)).length cV24), (.slice V29 (rlV 0 16 (partR (partR l))).length cV29), (.int .u64 0), (.int .u64 0), (.string (strB ([] : List UInt8))), (.string (strB ([] : List UInt8))), (.string (strB ([] : List UInt8)))] := hT29
 have hlr29 := rlR_len 0 16 (partR (partR l))
 refine q_nil (k_then (wc_seq (wc_regionL ?_)))
 refine vm rfl rfl ?_
 refine wl_step (or_call0 cl108 rfl rfl (lifer _ gx gc gr _ _ A29 c29 (rlR 0 16 (partR (partR l))) (((false || partB kv l) || partB vv (partR l)) || rlB 0 16 tv (partR (partR l))) hb_gx hb_gr hr29 (by omega) (by omega) (by omega) (by omega) _ _ _ _ _ _ _ _ _ hb_gc (by omega) (by omega) (by omega) (by omega))) rfl rfl rfl ?_
 rintro v w4 ⟨rfl, hN31, ⟨A31, c31, hQ31, hr31⟩, hT31, hK31⟩
 have hz_hK31 := hK31.size
 replace hK := Kp.tr hK hK31 (by intro x hx; simp only [List.mem_cons, List.not_mem_nil, or_false] at hx ⊢; omega)
 replace hV24 := hK31.rd hV24 (by intro g hg; simp at hg; omega)
 replace hV29 := hK31.rd hV29 (by intro g hg; simp at hg; omega)
 replace hb_gx := hN31
 replace hb_gr := hQ31
 replace hb_gc : Blk _ gc _ [(.int .i64 op), (.string (strB (partV l))), (.slice none 0 0), (.slice V24 (partV (partR l)).length cV24), (.slice V29 (rlV 0 16 (partR (partR l))).length cV29), (.int .u64 (↑(numV (rlR 0 16 (partR (partR l)))) : Int)), (.int .u64 0), (.string (strB ([] : List UInt8))), (.string (strB ([] : List UInt8))), (.string (strB ([] : List UInt8)))] := hT31
 have hlr31 := numR_len (rlR 0 16 (partR (partR l)))
 refine q_nil (k_then (wc_seq (wc_regionL ?_)))
 refine vm rfl rfl ?_
 refine vn rfl rfl ?_
 refine wl_val (ov_field0 (off := 0) fo39_0 rfl) rfl rfl rfl ?_
 refine wl_val (ov_loadAt oc34 rfl hb_gc rfl) rfl rfl rfl ?_
 refine wl_spell (d := 35) rfl (v' := (.int .i64 3)) (by rw [hop]) ?_
 refine ve rfl rfl rfl ?_
 refine q_nil (k_then ?_)
 refine wc_cond_t rfl ?_
 refine wc_regionL ?_
 iterate 2 refine vm rfl rfl ?_
 refine vn rfl rfl ?_
 refine wl_val (ov_field0 (off := 6) fo39_6 rfl) rfl rfl rfl ?_
 refine wl_step (or_call0 cl109 rfl rfl (numr _ gx gc gr _ _ A31 c31 (numR (rlR 0 16 (partR (partR l)))) ((((false || partB kv l) || partB vv (partR l)) || rlB 0 16 tv (partR (partR l))) || numB (rlR 0 16 (partR (partR l))) || decide (numV (rlR 0 16 (partR (partR l))) = 0)) hb_gx hb_gr hr31 (by omega) (by omega) (by omega) (by omega) gc 6 _ _ hb_gc (Nat.le_of_ble_eq_true rfl) (by omega) (by omega) (by omega))) rfl rfl rfl ?_
 rintro v w5 ⟨rfl, hN41, ⟨A41, c41, hQ41, hr41⟩, hT41, hK41⟩
 have hz_hK41 := hK41.size
 replace hK := Kp.tr hK hK41 (by intro x hx; simp only [List.mem_cons, List.not_mem_nil, or_false] at hx ⊢; omega)
 replace hV24 := hK41.rd hV24 (by intro g hg; simp at hg; omega)
 replace hV29 := hK41.rd hV29 (by intro g hg; simp at hg; omega)
 replace hb_gx := hN41
 replace hb_gr := hQ41
 replace hb_gc : Blk _ gc _ [(.int .i64 op), (.string (strB (partV l))), (.slice none 0 0), (.slice V24 (partV (partR l)).length cV24), (.slice V29 (rlV 0 16 (partR (partR l))).length cV29), (.int .u64 (↑(numV (rlR 0 16 (partR (partR l)))) : Int)), (.int .u64 (↑(numV (numR (rlR 0 16 (partR (partR l))))) : Int)), (.string (strB ([] : List UInt8))), (.string (strB ([] : List UInt8))), (.string (strB ([] : List UInt8)))] := hT41
 have hlr41 := numR_len (numR (rlR 0 16 (partR (partR l))))
 have hlv41 := numV_lt (numR (rlR 0 16 (partR (partR l))))
 refine q_nil (k_block ?_)
 refine e_end0 rfl ?_
 have e : rfold op l = (⟨op, (partV l), [], (partV (partR l)), (rlV 0 16 (partR (partR l))), ((numV (rlR 0 16 (partR (partR l))))), ((numV (numR (rlR 0 16 (partR (partR l)))))), ([] : List UInt8), ([] : List UInt8), ([] : List UInt8)⟩, (numR (numR (rlR 0 16 (partR (partR l))))), (((((false || partB kv l) || partB vv (partR l)) || rlB 0 16 tv (partR (partR l))) || numB (rlR 0 16 (partR (partR l))) || decide (numV (rlR 0 16 (partR (partR l))) = 0)) || numB (numR (rlR 0 16 (partR (partR l)))))) := by rw [hop]; simp only [rfold, nd_3, List.foldl_cons, List.foldl_nil, rst_k, rst_v, rst_t, rst_l, rst_n, rst_m, rst_g, rst_p, rst_c, cmd0]
 rw [e]
 dsimp only [cmdc]
 exact ⟨rfl, hb_gx, ⟨_, _, hb_gr, hr41⟩, ⟨none, 0, V24, cV24, V29, cV29, hb_gc, Rd.nil _ _ _ _ _ _ (Nat.zero_le _), (Rd.top hV24).mono (by omega) (Nat.le_refl _), (Rd.top hV29).mono (by omega) (Nat.le_refl _)⟩, hK⟩
theorem partsr_4 (w : World) (gx gc gr lo hi : Nat) (A : Option Addr) (c : Nat) (l : List UInt8) (hb_gx : Blk w gx 153 [.pointer (some ⟨gc, 0, none⟩), .pointer (some ⟨gr, 0, none⟩), .slice none 0 0, .bool false]) (hb_gr : Blk w gr 178 [.bool true, .slice A l.length c]) (hr : RdB w lo hi A c l) (hgx : gx ≠ gr) (hxo : gx < lo ∨ hi ≤ gx) (hro : gr < lo ∨ hi ≤ gr) (hlen : l.length ≤ 140737488355328) (op : Int) (hb_gc : Blk w gc 39 (cmdc (cmd0 op) none 0 none 0 none 0)) (hcx : gc ≠ gx) (hcr : gc ≠ gr) (hco : gc < lo ∨ hi ≤ gc) (hhi : hi ≤ w.heap.size) (hop : op = 4) :
  Fn Tryz.prog 87 #[(.pointer (some ⟨gx, 0, none⟩))] w (fun v w' => v = .tuple #[] ∧ Blk w' gx 153 [.pointer (some ⟨gc, 0, none⟩), .pointer (some ⟨gr, 0, none⟩), .slice none 0 0, .bool (rfold op l).2.2] ∧ RdrAt w' gr lo hi (rfold op l).2.1 ∧ (∃ K ck V cv T ct, Blk w' gc 39 (cmdc (rfold op l).1 K ck V cv T ct) ∧ RdS w' w.heap.size w'.heap.size K ck (rfold op l).1.keys ∧ RdB w' w.heap.size w'.heap.size V cv (rfold op l).1.value ∧ RdS w' w.heap.size w'.heap.size T ct (rfold op l).1.tags) ∧ Kp [gx, gr, gc] w w')  := by
 have hK := Kp.refl [gx, gr, gc] w
 have hgxl := hb_gx.lt
 have hgrl := hb_gr.lt
 have hgcl := hb_gc.lt
 replace hb_gc : Blk w gc 39 [(.int .i64 op), (.string (strB ([] : List UInt8))), (.slice none 0 0), (.slice none 0 0), (.slice none 0 0), (.int .u64 0), (.int .u64 0), (.string (strB ([] : List UInt8))), (.string (strB ([] : List UInt8))), (.string (strB ([] : List UInt8)))] := hb_gc
 refine fn_enter (args := [(.pointer (some ⟨gx, 0, none⟩))]) Tryz.func87 rfl rfl rfl ?_
 show WC _ _ _ _ [(0, (.pointer (some ⟨gx, 0, none⟩)))] _
 refine wc_seq (wc_regionL ?_)
 refine vm rfl rfl ?_
 refine vn rfl rfl ?_
 refine wl_val (ov_field0 (off := 0) fo153_0 rfl) rfl rfl rfl ?_
 refine wl_val (ov_loadAt oc149 rfl hb_gx rfl) rfl rfl rfl ?_
 refine va rfl rfl ?_
 refine q_nil (k_then (wc_seq (wc_regionL ?_)))
 refine vm rfl rfl ?_
 refine vn rfl rfl ?_
 refine wl_val (ov_field0 (off := 0) fo39_0 rfl) rfl rfl rfl ?_
 refine wl_val (ov_loadAt oc34 rfl hb_gc rfl) rfl rfl rfl ?_
 refine wl_spell (d := 10) rfl (v' := (.int .i64 4)) (by rw [hop]) ?_
 refine q_nil (k_then (wc_block (wc_seq (wc_seq (wc_regionL ?_)))))
 refine ve rfl rfl rfl ?_
 refine va rfl rfl ?_
 refine q_nil (k_then ?_)
 refine wc_cond_f rfl ?_
 refine wc_seq (wc_regionL ?_)
 refine ve rfl rfl rfl ?_
 refine va rfl rfl ?_
 refine q_nil (k_then ?_)
 refine wc_cond_f rfl ?_
 refine wc_regionL ?_
 refine ve rfl rfl rfl ?_
 refine va rfl rfl ?_
 refine q_nil (k_then ?_)
 refine wc_cond_f rfl ?_
 refine wc_seq (wc_seq (wc_regionL ?_))
 refine ve rfl rfl rfl ?_
 refine va rfl rfl ?_
 refine q_nil (k_then ?_)
 refine wc_cond_t rfl ?_
 refine q_skip (k_then ?_)
 refine wc_cond_t rfl ?_
 refine wc_regionL ?_
 iterate 2 refine vm rfl rfl ?_
 refine vn rfl rfl ?_
 refine wl_val (ov_field0 (off := 1) fo39_1 rfl) rfl rfl rfl ?_
 refine wl_step (or_call0 cl103 rfl rfl (partr _ gx gc gr _ _ A c l false hb_gx hb_gr hr (by omega) (by omega) (by omega) (by omega) gc 1 _ _ hb_gc (Nat.le_of_ble_eq_true rfl) (by omega) (by omega) (by omega) kv 104 cl104 kv_any)) rfl rfl rfl ?_
 rintro v w1 ⟨rfl, hN50, ⟨A50, c50, hQ50, hr50⟩, hT50, hK50⟩
 have hz_hK50 := hK50.size
 replace hK := Kp.tr hK hK50 (by intro x hx; simp only [List.mem_cons, List.not_mem_nil, or_false] at hx ⊢; omega)
 replace hb_gx := hN50
 replace hb_gr := hQ50
 replace hb_gc : Blk _ gc _ [(.int .i64 op), (.string (strB (partV l))), (.slice none 0 0), (.slice none 0 0), (.slice none 0 0), (.int .u64 0), (.int .u64 0), (.string (strB ([] : List UInt8))), (.string (strB ([] : List UInt8))), (.string (strB ([] : List UInt8)))] := hT50
 have hlr50 := partR_len l
 have hlv50 := partV_len l
 refine q_nil (k_block ?_)
 refine e_end0 rfl ?_
 have e : rfold op l = (⟨op, (partV l), [], [], [], 0, 0, ([] : List UInt8), ([] : List UInt8), ([] : List UInt8)⟩, (partR l), (false || partB kv l)) := by rw [hop]; simp only [rfold, nd_4, List.foldl_cons, List.foldl_nil, rst_k, rst_v, rst_t, rst_l, rst_n, rst_m, rst_g, rst_p, rst_c, cmd0]
 rw [e]
 dsimp only [cmdc]
 exact ⟨rfl, hb_gx, ⟨_, _, hb_gr, hr50⟩, ⟨none, 0, none, 0, none, 0, hb_gc, Rd.nil _ _ _ _ _ _ (Nat.zero_le _), Rd.nil _ _ _ _ _ _ (Nat.zero_le _), Rd.nil _ _ _ _ _ _ (Nat.zero_le _)⟩, hK⟩
theorem partsr_5 (w : World) (gx gc gr lo hi : Nat) (A : Option Addr) (c : Nat) (l : List UInt8) (hb_gx : Blk w gx 153 [.pointer (some ⟨gc, 0, none⟩), .pointer (some ⟨gr, 0, none⟩), .slice none 0 0, .bool false]) (hb_gr : Blk w gr 178 [.bool true, .slice A l.length c]) (hr : RdB w lo hi A c l) (hgx : gx ≠ gr) (hxo : gx < lo ∨ hi ≤ gx) (hro : gr < lo ∨ hi ≤ gr) (hlen : l.length ≤ 140737488355328) (op : Int) (hb_gc : Blk w gc 39 (cmdc (cmd0 op) none 0 none 0 none 0)) (hcx : gc ≠ gx) (hcr : gc ≠ gr) (hco : gc < lo ∨ hi ≤ gc) (hhi : hi ≤ w.heap.size) (hop : op = 5) :
  Fn Tryz.prog 87 #[(.pointer (some ⟨gx, 0, none⟩))] w (fun v w' => v = .tuple #[] ∧ Blk w' gx 153 [.pointer (some ⟨gc, 0, none⟩), .pointer (some ⟨gr, 0, none⟩), .slice none 0 0, .bool (rfold op l).2.2] ∧ RdrAt w' gr lo hi (rfold op l).2.1 ∧ (∃ K ck V cv T ct, Blk w' gc 39 (cmdc (rfold op l).1 K ck V cv T ct) ∧ RdS w' w.heap.size w'.heap.size K ck (rfold op l).1.keys ∧ RdB w' w.heap.size w'.heap.size V cv (rfold op l).1.value ∧ RdS w' w.heap.size w'.heap.size T ct (rfold op l).1.tags) ∧ Kp [gx, gr, gc] w w')  := by
 have hK := Kp.refl [gx, gr, gc] w
 have hgxl := hb_gx.lt
 have hgrl := hb_gr.lt
 have hgcl := hb_gc.lt
 replace hb_gc : Blk w gc 39 [(.int .i64 op), (.string (strB ([] : List UInt8))), (.slice none 0 0), (.slice none 0 0), (.slice none 0 0), (.int .u64 0), (.int .u64 0), (.string (strB ([] : List UInt8))), (.string (strB ([] : List UInt8))), (.string (strB ([] : List UInt8)))] := hb_gc
 refine fn_enter (args := [(.pointer (some ⟨gx, 0, none⟩))]) Tryz.func87 rfl rfl rfl ?_
 show WC _ _ _ _ [(0, (.pointer (some ⟨gx, 0, none⟩)))] _
 refine wc_seq (wc_regionL ?_)
 refine vm rfl rfl ?_
 refine vn rfl rfl ?_
 refine wl_val (ov_field0 (off := 0) fo153_0 rfl) rfl rfl rfl ?_
 refine wl_val (ov_loadAt oc149 rfl hb_gx rfl) rfl rfl rfl ?_
 refine va rfl rfl ?_
 refine q_nil (k_then (wc_seq (wc_regionL ?_)))
 refine vm rfl rfl ?_
 refine vn rfl rfl ?_
 refine wl_val (ov_field0 (off := 0) fo39_0 rfl) rfl rfl rfl ?_
 refine wl_val (ov_loadAt oc34 rfl hb_gc rfl) rfl rfl rfl ?_
 refine wl_spell (d := 10) rfl (v' := (.int .i64 5)) (by rw [hop]) ?_
 refine q_nil (k_then (wc_block (wc_seq (wc_seq (wc_regionL ?_)))))
 refine ve rfl rfl rfl ?_
 refine va rfl rfl ?_
 refine q_nil (k_then ?_)
 refine wc_cond_f rfl ?_
 refine wc_seq (wc_regionL ?_)
 refine ve rfl rfl rfl ?_
 refine va rfl rfl ?_
 refine q_nil (k_then ?_)
 refine wc_cond_f rfl ?_
 refine wc_regionL ?_
 refine ve rfl rfl rfl ?_
 refine va rfl rfl ?_
 refine q_nil (k_then ?_)
 refine wc_cond_f rfl ?_
 refine wc_seq (wc_seq (wc_regionL ?_))
 refine ve rfl rfl rfl ?_
 refine va rfl rfl ?_
 refine q_nil (k_then ?_)
 refine wc_cond_f rfl ?_
 refine wc_seq (wc_regionL ?_)
 refine ve rfl rfl rfl ?_
 refine va rfl rfl ?_
 refine q_nil (k_then ?_)
 refine wc_cond_f rfl ?_
 refine wc_regionL ?_
 refine ve rfl rfl rfl ?_
 refine va rfl rfl ?_
 refine q_nil (k_then ?_)
 refine wc_cond_f rfl ?_
 refine wc_seq (wc_regionL ?_)
 refine ve rfl rfl rfl ?_
 refine va rfl rfl ?_
 refine q_nil (k_then ?_)
 refine wc_cond_t rfl ?_
 refine wc_regionL ?_
 iterate 2 refine vm rfl rfl ?_
 refine vn rfl rfl ?_
 refine wl_val (ov_field0 (off := 2) fo39_2 rfl) rfl rfl rfl ?_
 refine wl_step (or_call0 cl106 rfl rfl (listKr _ gx gc gr _ _ A c l false hb_gx hb_gr hr (by omega) (by omega) (by omega) (by omega) _ _ _ _ _ _ _ _ _ hb_gc (by omega) (by omega) (by omega) (by omega))) rfl rfl rfl ?_
 rintro v w1 ⟨rfl, hN57, ⟨A57, c57, hQ57, hr57⟩, ⟨V57, cV57, hT57, hV57⟩, hK57⟩
 have hz_hK57 := hK57.size
 replace hK := Kp.tr hK hK57 (by intro x hx; simp only [List.mem_cons, List.not_mem_nil, or_false] at hx ⊢; omega)
 replace hb_gx := hN57
 replace hb_gr := hQ57
 replace hb_gc : Blk _ gc _ [(.int .i64 op), (.string (strB ([] : List UInt8))), (.slice V57 (rlV 1 16 l).length cV57), (.slice none 0 0), (.slice none 0 0), (.int .u64 0), (.int .u64 0), (.string (strB ([] : List UInt8))), (.string (strB ([] : List UInt8))), (.string (strB ([] : List UInt8)))] := hT57
 have hlr57 := rlR_len 1 16 l
 refine q_nil (k_block ?_)
 refine e_end0 rfl ?_
 have e : rfold op l = (⟨op, ([] : List UInt8), (rlV 1 16 l), [], [], 0, 0, ([] : List UInt8), ([] : List UInt8), ([] : List UInt8)⟩, (rlR 1 16 l), (false || rlB 1 16 kv l)) := by rw [hop]; simp only [rfold, nd_5, List.foldl_cons, List.foldl_nil, rst_k, rst_v, rst_t, rst_l, rst_n, rst_m, rst_g, rst_p, rst_c, cmd0]
 rw [e]
 dsimp only [cmdc]
 exact ⟨rfl, hb_gx, ⟨_, _, hb_gr, hr57⟩, ⟨V57, cV57, none, 0, none, 0, hb_gc, (Rd.top hV57).mono (by omega) (Nat.le_refl _), Rd.nil _ _ _ _ _ _ (Nat.zero_le _), Rd.nil _ _ _ _ _ _ (Nat.zero_le _)⟩, hK⟩
theorem partsr_6 (w : World) (gx gc gr lo hi : Nat) (A : Option Addr) (c : Nat) (l : List UInt8) (hb_gx : Blk w gx 153 [.pointer (some ⟨gc, 0, none⟩), .pointer (some ⟨gr, 0, none⟩), .slice none 0 0, .bool false]) (hb_gr : Blk w gr 178 [.bool true, .slice A l.length c]) (hr : RdB w lo hi A c l) (hgx : gx ≠ gr) (hxo : gx < lo ∨ hi ≤ gx) (hro : gr < lo ∨ hi ≤ gr) (hlen : l.length ≤ 140737488355328) (op : Int) (hb_gc : Blk w gc 39 (cmdc (cmd0 op) none 0 none 0 none 0)) (hcx : gc ≠ gx) (hcr : gc ≠ gr) (hco : gc < lo ∨ hi ≤ gc) (hhi : hi ≤ w.heap.size) (hop : op = 6) :
  Fn Tryz.prog 87 #[(.pointer (some ⟨gx, 0, none⟩))] w (fun v w' => v = .tuple #[] ∧ Blk w' gx 153 [.pointer (some ⟨gc, 0, none⟩), .pointer (some ⟨gr, 0, none⟩), .slice none 0 0, .bool (rfold op l).2.2] ∧ RdrAt w' gr lo hi (rfold op l).2.1 ∧ (∃ K ck V cv T ct, Blk w' gc 39 (cmdc (rfold op l).1 K ck V cv T ct) ∧ RdS w' w.heap.size w'.heap.size K ck (rfold op l).1.keys ∧ RdB w' w.heap.size w'.heap.size V cv (rfold op l).1.value ∧ RdS w' w.heap.size w'.heap.size T ct (rfold op l).1.tags) ∧ Kp [gx, gr, gc] w w')  := by
 have hK := Kp.refl [gx, gr, gc] w
 have hgxl := hb_gx.lt
 have hgrl := hb_gr.lt
 have hgcl := hb_gc.lt
 replace hb_gc : Blk w gc 39 [(.int .i64 op), (.string (strB ([] : List UInt8))), (.slice none 0 0), (.slice none 0 0), (.slice none 0 0), (.int .u64 0), (.int .u64 0), (.string (strB ([] : List UInt8))), (.string (strB ([] : List UInt8))), (.string (strB ([] : List UInt8)))] := hb_gc
 refine fn_enter (args := [(.pointer (some ⟨gx, 0, none⟩))]) Tryz.func87 rfl rfl rfl ?_
 show WC _ _ _ _ [(0, (.pointer (some ⟨gx, 0, none⟩)))] _
 refine wc_seq (wc_regionL ?_)
 refine vm rfl rfl ?_
 refine vn rfl rfl ?_
 refine wl_val (ov_field0 (off := 0) fo153_0 rfl) rfl rfl rfl ?_
 refine wl_val (ov_loadAt oc149 rfl hb_gx rfl) rfl rfl rfl ?_
 refine va rfl rfl ?_
 refine q_nil (k_then (wc_seq (wc_regionL ?_)))
 refine vm rfl rfl ?_
 refine vn rfl rfl ?_
 refine wl_val (ov_field0 (off := 0) fo39_0 rfl) rfl rfl rfl ?_
 refine wl_val (ov_loadAt oc34 rfl hb_gc rfl) rfl rfl rfl ?_
 refine wl_spell (d := 10) rfl (v' := (.int .i64 6)) (by rw [hop]) ?_
 refine q_nil (k_then (wc_block (wc_seq (wc_seq (wc_regionL ?_)))))
 refine ve rfl rfl rfl ?_
 refine va rfl rfl ?_
 refine q_nil (k_then ?_)
 refine wc_cond_f rfl ?_
 refine wc_seq (wc_regionL ?_)
 refine ve rfl rfl rfl ?_
 refine va rfl rfl ?_
 refine q_nil (k_then ?_)
 refine wc_cond_f rfl ?_
 refine wc_regionL ?_
 refine ve rfl rfl rfl ?_
 refine va rfl rfl ?_
 refine q_nil (k_then ?_)
 refine wc_cond_f rfl ?_
 refine wc_seq (wc_seq (wc_regionL ?_))
 refine ve rfl rfl rfl ?_
 refine va rfl rfl ?_
 refine q_nil (k_then ?_)
 refine wc_cond_f rfl ?_
 refine wc_seq (wc_regionL ?_)
 refine ve rfl rfl rfl ?_
 refine va rfl rfl ?_
 refine q_nil (k_then ?_)
 refine wc_cond_f rfl ?_
 refine wc_regionL ?_
 refine ve rfl rfl rfl ?_
 refine va rfl rfl ?_
 refine q_nil (k_then ?_)
 refine wc_cond_f rfl ?_
 refine wc_seq (wc_regionL ?_)
 refine ve rfl rfl rfl ?_
 refine va rfl rfl ?_
 refine q_nil (k_then ?_)
 refine wc_cond_f rfl ?_
 refine wc_seq (wc_regionL ?_)
 refine ve rfl rfl rfl ?_
 refine va rfl rfl ?_
 refine q_nil (k_then ?_)
 refine wc_cond_t rfl ?_
 refine wc_seq (wc_regionL ?_)
 iterate 2 refine vm rfl rfl ?_
 refine vn rfl rfl ?_
 refine wl_val (ov_field0 (off := 1) fo39_1 rfl) rfl rfl rfl ?_
 refine wl_step (or_call0 cl103 rfl rfl (partr _ gx gc gr _ _ A c l false hb_gx hb_gr hr (by omega) (by omega) (by omega) (by omega) gc 1 _ _ hb_gc (Nat.le_of_ble_eq_true rfl) (by omega) (by omega) (by omega) kv 104 cl104 kv_any)) rfl rfl rfl ?_
 rintro v w1 ⟨rfl, hN64, ⟨A64, c64, hQ64, hr64⟩, hT64, hK64⟩
 have hz_hK64 := hK64.size
 replace hK := Kp.tr hK hK64 (by intro x hx; simp only [List.mem_cons, List.not_mem_nil, or_false] at hx ⊢; omega)
 replace hb_gx := hN64
 replace hb_gr := hQ64
 replace hb_gc : Blk _ gc _ [(.int .i64 op), (.string (strB (partV l))), (.slice none 0 0), (.slice none 0 0), (.slice none 0 0), (.int .u64 0), (.int .u64 0), (.string (strB ([] : List UInt8))), (.string (strB ([] : List UInt8))), (.string (strB ([] : List UInt8)))] := hT64
 have hlr64 := partR_len l
 have hlv64 := partV_len l
 refine q_nil (k_then (wc_regionL ?_))
 refine vm rfl rfl ?_
 refine wl_step (or_call0 cl108 rfl rfl (lifer _ gx gc gr _ _ A64 c64 (partR l) (false || partB kv l) hb_gx hb_gr hr64 (by omega) (by omega) (by omega) (by omega) _ _ _ _ _ _ _ _ _ hb_gc (by omega) (by omega) (by omega) (by omega))) rfl rfl rfl ?_
 rintro v w2 ⟨rfl, hN66, ⟨A66, c66, hQ66, hr66⟩, hT66, hK66⟩
 have hz_hK66 := hK66.size
 replace hK := Kp.tr hK hK66 (by intro x hx; simp only [List.mem_cons, List.not_mem_nil, or_false] at hx ⊢; omega)
 replace hb_gx := hN66
 replace hb_gr := hQ66
 replace hb_gc : Blk _ gc _ [(.int .i64 op), (.string (strB (partV l))), (.slice none 0 0), (.slice none 0 0), (.slice none 0 0), (.int .u64 (↑(numV (partR l)) : Int)), (.int .u64 0), (.string (strB ([] : List UInt8))), (.string (strB ([] : List UInt8))), (.string (strB ([] : List UInt8)))] := hT66
 have hlr66 := numR_len (partR l)
 refine q_nil (k_block ?_)
 refine e_end0 rfl ?_
 have e : rfold op l = (⟨op, (partV l), [], [], [], ((numV (partR l))), 0, ([] : List UInt8), ([] : List UInt8), ([] : List UInt8)⟩, (numR (partR l)), ((false || partB kv l) || numB (partR l) || decide (numV (partR l) = 0))) := by rw [hop]; simp only [rfold, nd_6, List.foldl_cons, List.foldl_nil, rst_k, rst_v, rst_t, rst_l, rst_n, rst_m, rst_g, rst_p, rst_c, cmd0]
 rw [e]
 dsimp only [cmdc]
 exact ⟨rfl, hb_gx, ⟨_, _, hb_gr, hr66⟩, ⟨none, 0, none, 0, none, 0, hb_gc, Rd.nil _ _ _ _ _ _ (Nat.zero_le _), Rd.nil _ _ _ _ _ _ (Nat.zero_le _), Rd.nil _ _ _ _ _ _ (Nat.zero_le _)⟩, hK⟩
theorem partsr_7 (w : World) (gx gc gr lo hi : Nat) (A : Option Addr) (c : Nat) (l : List UInt8) (hb_gx : Blk w gx 153 [.pointer (some ⟨gc, 0, none⟩), .pointer (some ⟨gr, 0, none⟩), .slice none 0 0, .bool false]) (hb_gr : Blk w gr 178 [.bool true, .slice A l.length c]) (hr : RdB w lo hi A c l) (hgx : gx ≠ gr) (hxo : gx < lo ∨ hi ≤ gx) (hro : gr < lo ∨ hi ≤ gr) (hlen : l.length ≤ 140737488355328) (op : Int) (hb_gc : Blk w gc 39 (cmdc (cmd0 op) none 0 none 0 none 0)) (hcx : gc ≠ gx) (hcr : gc ≠ gr) (hco : gc < lo ∨ hi ≤ gc) (hhi : hi ≤ w.heap.size) (hop : op = 7) :
  Fn Tryz.prog 87 #[(.pointer (some ⟨gx, 0, none⟩))] w (fun v w' => v = .tuple #[] ∧ Blk w' gx 153 [.pointer (some ⟨gc, 0, none⟩), .pointer (some ⟨gr, 0, none⟩), .slice none 0 0, .bool (rfold op l).2.2] ∧ RdrAt w' gr lo hi (rfold op l).2.1 ∧ (∃ K ck V cv T ct, Blk w' gc 39 (cmdc (rfold op l).1 K ck V cv T ct) ∧ RdS w' w.heap.size w'.heap.size K ck (rfold op l).1.keys ∧ RdB w' w.heap.size w'.heap.size V cv (rfold op l).1.value ∧ RdS w' w.heap.size w'.heap.size T ct (rfold op l).1.tags) ∧ Kp [gx, gr, gc] w w')  := by
 have hK := Kp.refl [gx, gr, gc] w
 have hgxl := hb_gx.lt
 have hgrl := hb_gr.lt
 have hgcl := hb_gc.lt
 replace hb_gc : Blk w gc 39 [(.int .i64 op), (.string (strB ([] : List UInt8))), (.slice none 0 0), (.slice none 0 0), (.slice none 0 0), (.int .u64 0), (.int .u64 0), (.string (strB ([] : List UInt8))), (.string (strB ([] : List UInt8))), (.string (strB ([] : List UInt8)))] := hb_gc
 refine fn_enter (args := [(.pointer (some ⟨gx, 0, none⟩))]) Tryz.func87 rfl rfl rfl ?_
 show WC _ _ _ _ [(0, (.pointer (some ⟨gx, 0, none⟩)))] _
 refine wc_seq (wc_regionL ?_)
 refine vm rfl rfl ?_
 refine vn rfl rfl ?_
 refine wl_val (ov_field0 (off := 0) fo153_0 rfl) rfl rfl rfl ?_
 refine wl_val (ov_loadAt oc149 rfl hb_gx rfl) rfl rfl rfl ?_
 refine va rfl rfl ?_
 refine q_nil (k_then (wc_seq (wc_regionL ?_)))
 refine vm rfl rfl ?_
 refine vn rfl rfl ?_
 refine wl_val (ov_field0 (off := 0) fo39_0 rfl) rfl rfl rfl ?_
 refine wl_val (ov_loadAt oc34 rfl hb_gc rfl) rfl rfl rfl ?_
 refine wl_spell (d := 10) rfl (v' := (.int .i64 7)) (by rw [hop]) ?_
 refine q_nil (k_then (wc_block (wc_seq (wc_seq (wc_regionL ?_)))))
 refine ve rfl rfl rfl ?_
 refine va rfl rfl ?_
 refine q_nil (k_then ?_)
 refine wc_cond_f rfl ?_
 refine wc_seq (wc_regionL ?_)
 refine ve rfl rfl rfl ?_
 refine va rfl rfl ?_
 refine q_nil (k_then ?_)
 refine wc_cond_f rfl ?_
 refine wc_regionL ?_
 refine ve rfl rfl rfl ?_
 refine va rfl rfl ?_
 refine q_nil (k_then ?_)
 refine wc_cond_f rfl ?_
 refine wc_seq (wc_seq (wc_regionL ?_))
 refine ve rfl rfl rfl ?_
 refine va rfl rfl ?_
 refine q_nil (k_then ?_)
 refine wc_cond_f rfl ?_
 refine wc_seq (wc_regionL ?_)
 refine ve rfl rfl rfl ?_
 refine va rfl rfl ?_
 refine q_nil (k_then ?_)
 refine wc_cond_t rfl ?_
 refine q_skip (k_then ?_)
 refine wc_cond_t rfl ?_
 refine wc_regionL ?_
 iterate 2 refine vm rfl rfl ?_
 refine vn rfl rfl ?_
 refine wl_val (ov_field0 (off := 1) fo39_1 rfl) rfl rfl rfl ?_
 refine wl_step (or_call0 cl103 rfl rfl (partr _ gx gc gr _ _ A c l false hb_gx hb_gr hr (by omega) (by omega) (by omega) (by omega) gc 1 _ _ hb_gc (Nat.le_of_ble_eq_true rfl) (by omega) (by omega) (by omega) kv 104 cl104 kv_any)) rfl rfl rfl ?_
 rintro v w1 ⟨rfl, hN50, ⟨A50, c50, hQ50, hr50⟩, hT50, hK50⟩
 have hz_hK50 := hK50.size
 replace hK := Kp.tr hK hK50 (by intro x hx; simp only [List.mem_cons, List.not_mem_nil, or_false] at hx ⊢; omega)
 replace hb_gx := hN50
 replace hb_gr := hQ50
 replace hb_gc : Blk _ gc _ [(.int .i64 op), (.string (strB (partV l))), (.slice none 0 0), (.slice none 0 0), (.slice none 0 0), (.int .u64 0), (.int .u64 0), (.string (strB ([] : List UInt8))), (.string (strB ([] : List UInt8))), (.string (strB ([] : List UInt8)))] := hT50
 have hlr50 := partR_len l
 have hlv50 := partV_len l
 refine q_nil (k_block ?_)
 refine e_end0 rfl ?_
 have e : rfold op l = (⟨op, (partV l), [], [], [], 0, 0, ([] : List UInt8), ([] : List UInt8), ([] : List UInt8)⟩, (partR l), (false || partB kv l)) := by rw [hop]; simp only [rfold, nd_7, List.foldl_cons, List.foldl_nil, rst_k, rst_v, rst_t, rst_l, rst_n, rst_m, rst_g, rst_p, rst_c, cmd0]
 rw [e]
 dsimp only [cmdc]
 exact ⟨rfl, hb_gx, ⟨_, _, hb_gr, hr50⟩, ⟨none, 0, none, 0, none, 0, hb_gc, Rd.nil _ _ _ _ _ _ (Nat.zero_le _), Rd.nil _ _ _ _ _ _ (Nat.zero_le _), Rd.nil _ _ _ _ _ _ (Nat.zero_le _)⟩, hK⟩
theorem partsr_8 (w : World) (gx gc gr lo hi : Nat) (A : Option Addr) (c : Nat) (l : List UInt8) (hb_gx : Blk w gx 153 [.pointer (some ⟨gc, 0, none⟩), .pointer (some ⟨gr, 0, none⟩), .slice none 0 0, .bool false]) (hb_gr : Blk w gr 178 [.bool true, .slice A l.length c]) (hr : RdB w lo hi A c l) (hgx : gx ≠ gr) (hxo : gx < lo ∨ hi ≤ gx) (hro : gr < lo ∨ hi ≤ gr) (hlen : l.length ≤ 140737488355328) (op : Int) (hb_gc : Blk w gc 39 (cmdc (cmd0 op) none 0 none 0 none 0)) (hcx : gc ≠ gx) (hcr : gc ≠ gr) (hco : gc < lo ∨ hi ≤ gc) (hhi : hi ≤ w.heap.size) (hop : op = 8) :
  Fn Tryz.prog 87 #[(.pointer (some ⟨gx, 0, none⟩))] w (fun v w' => v = .tuple #[] ∧ Blk w' gx 153 [.pointer (some ⟨gc, 0, none⟩), .pointer (some ⟨gr, 0, none⟩), .slice none 0 0, .bool (rfold op l).2.2] ∧ RdrAt w' gr lo hi (rfold op l).2.1 ∧ (∃ K ck V cv T ct, Blk w' gc 39 (cmdc (rfold op l).1 K ck V cv T ct) ∧ RdS w' w.heap.size w'.heap.size K ck (rfold op l).1.keys ∧ RdB w' w.heap.size w'.heap.size V cv (rfold op l).1.value ∧ RdS w' w.heap.size w'.heap.size T ct (rfold op l).1.tags) ∧ Kp [gx, gr, gc] w w')  := by
 have hK := Kp.refl [gx, gr, gc] w
 have hgxl := hb_gx.lt
 have hgrl := hb_gr.lt
 have hgcl := hb_gc.lt
 replace hb_gc : Blk w gc 39 [(.int .i64 op), (.string (strB ([] : List UInt8))), (.slice none 0 0), (.slice none 0 0), (.slice none 0 0), (.int .u64 0), (.int .u64 0), (.string (strB ([] : List UInt8))), (.string (strB ([] : List UInt8))), (.string (strB ([] : List UInt8)))] := hb_gc
 refine fn_enter (args := [(.pointer (some ⟨gx, 0, none⟩))]) Tryz.func87 rfl rfl rfl ?_
 show WC _ _ _ _ [(0, (.pointer (some ⟨gx, 0, none⟩)))] _
 refine wc_seq (wc_regionL ?_)
 refine vm rfl rfl ?_
 refine vn rfl rfl ?_
 refine wl_val (ov_field0 (off := 0) fo153_0 rfl) rfl rfl rfl ?_
 refine wl_val (ov_loadAt oc149 rfl hb_gx rfl) rfl rfl rfl ?_
 refine va rfl rfl ?_
 refine q_nil (k_then (wc_seq (wc_regionL ?_)))
 refine vm rfl rfl ?_
 refine vn rfl rfl ?_
 refine wl_val (ov_field0 (off := 0) fo39_0 rfl) rfl rfl rfl ?_
 refine wl_val (ov_loadAt oc34 rfl hb_gc rfl) rfl rfl rfl ?_
 refine wl_spell (d := 10) rfl (v' := (.int .i64 8)) (by rw [hop]) ?_
 refine q_nil (k_then (wc_block (wc_seq (wc_seq (wc_regionL ?_)))))
 refine ve rfl rfl rfl ?_
 refine va rfl rfl ?_
 refine q_nil (k_then ?_)
 refine wc_cond_f rfl ?_
 refine wc_seq (wc_regionL ?_)
 refine ve rfl rfl rfl ?_
 refine va rfl rfl ?_
 refine q_nil (k_then ?_)
 refine wc_cond_f rfl ?_
 refine wc_regionL ?_
 refine ve rfl rfl rfl ?_
 refine va rfl rfl ?_
 refine q_nil (k_then ?_)
 refine wc_cond_f rfl ?_
 refine wc_seq (wc_seq (wc_regionL ?_))
 refine ve rfl rfl rfl ?_
 refine va rfl rfl ?_
 refine q_nil (k_then ?_)
 refine wc_cond_f rfl ?_
 refine wc_seq (wc_regionL ?_)
 refine ve rfl rfl rfl ?_
 refine va rfl rfl ?_
 refine q_nil (k_then ?_)
 refine wc_cond_f rfl ?_
 refine wc_regionL ?_
 refine ve rfl rfl rfl ?_
 refine va rfl rfl ?_
 refine q_nil (k_then ?_)
 refine wc_cond_f rfl ?_
 refine wc_seq (wc_regionL ?_)
 refine ve rfl rfl rfl ?_
 refine va rfl rfl ?_
 refine q_nil (k_then ?_)
 refine wc_cond_f rfl ?_
 refine wc_seq (wc_regionL ?_)
 refine ve rfl rfl rfl ?_
 refine va rfl rfl ?_
 refine q_nil (k_then ?_)
 refine wc_cond_f rfl ?_
 refine wc_seq (wc_seq (wc_regionL ?_))
 refine ve rfl rfl rfl ?_
 refine va rfl rfl ?_
 refine q_nil (k_then ?_)
 refine wc_cond_t rfl ?_
 refine q_skip (k_then ?_)
 refine wc_cond_t rfl ?_
 refine wc_regionL ?_
 iterate 2 refine vm rfl rfl ?_
 refine vn rfl rfl ?_
 refine wl_val (ov_field0 (off := 7) fo39_7 rfl) rfl rfl rfl ?_
 refine wl_step (or_call0 cl103 rfl rfl (partr _ gx gc gr _ _ A c l false hb_gx hb_gr hr (by omega) (by omega) (by omega) (by omega) gc 7 _ _ hb_gc (Nat.le_of_ble_eq_true rfl) (by omega) (by omega) (by omega) tv 107 cl107 tv_any)) rfl rfl rfl ?_
 rintro v w1 ⟨rfl, hN74, ⟨A74, c74, hQ74, hr74⟩, hT74, hK74⟩
 have hz_hK74 := hK74.size
 replace hK := Kp.tr hK hK74 (by intro x hx; simp only [List.mem_cons, List.not_mem_nil, or_false] at hx ⊢; omega)
 replace hb_gx := hN74
 replace hb_gr := hQ74
 replace hb_gc : Blk _ gc _ [(.int .i64 op), (.string (strB ([] : List UInt8))), (.slice none 0 0), (.slice none 0 0), (.slice none 0 0), (.int .u64 0), (.int .u64 0), (.string (strB (partV l))), (.string (strB ([] : List UInt8))), (.string (strB ([] : List UInt8)))] := hT74
 have hlr74 := partR_len l
 have hlv74 := partV_len l
 refine q_nil (k_block ?_)
 refine e_end0 rfl ?_
 have e : rfold op l = (⟨op, ([] : List UInt8), [], [], [], 0, 0, (partV l), ([] : List UInt8), ([] : List UInt8)⟩, (partR l), (false || partB tv l)) := by rw [hop]; simp only [rfold, nd_8, List.foldl_cons, List.foldl_nil, rst_k, rst_v, rst_t, rst_l, rst_n, rst_m, rst_g, rst_p, rst_c, cmd0]
 rw [e]
 dsimp only [cmdc]
 exact ⟨rfl, hb_gx, ⟨_, _, hb_gr, hr74⟩, ⟨none, 0, none, 0, none, 0, hb_gc, Rd.nil _ _ _ _ _ _ (Nat.zero_le _), Rd.nil _ _ _ _ _ _ (Nat.zero_le _), Rd.nil _ _ _ _ _ _ (Nat.zero_le _)⟩, hK⟩
theorem partsr_9 (w : World) (gx gc gr lo hi : Nat) (A : Option Addr) (c : Nat) (l : List UInt8) (hb_gx : Blk w gx 153 [.pointer (some ⟨gc, 0, none⟩), .pointer (some ⟨gr, 0, none⟩), .slice none 0 0, .bool false]) (hb_gr : Blk w gr 178 [.bool true, .slice A l.length c]) (hr : RdB w lo hi A c l) (hgx : gx ≠ gr) (hxo : gx < lo ∨ hi ≤ gx) (hro : gr < lo ∨ hi ≤ gr) (hlen : l.length ≤ 140737488355328) (op : Int) (hb_gc : Blk w gc 39 (cmdc (cmd0 op) none 0 none 0 none 0)) (hcx : gc ≠ gx) (hcr : gc ≠ gr) (hco : gc < lo ∨ hi ≤ gc) (hhi : hi ≤ w.heap.size) (hop : op = 9) :
  Fn Tryz.prog 87 #[(.pointer (some ⟨gx, 0, none⟩))] w (fun v w' => v = .tuple #[] ∧ Blk w' gx 153 [.pointer (some ⟨gc, 0, none⟩), .pointer (some ⟨gr, 0, none⟩), .slice none 0 0, .bool (rfold op l).2.2] ∧ RdrAt w' gr lo hi (rfold op l).2.1 ∧ (∃ K ck V cv T ct, Blk w' gc 39 (cmdc (rfold op l).1 K ck V cv T ct) ∧ RdS w' w.heap.size w'.heap.size K ck (rfold op l).1.keys ∧ RdB w' w.heap.size w'.heap.size V cv (rfold op l).1.value ∧ RdS w' w.heap.size w'.heap.size T ct (rfold op l).1.tags) ∧ Kp [gx, gr, gc] w w')  := by
 have hK := Kp.refl [gx, gr, gc] w
 have hgxl := hb_gx.lt
 have hgrl := hb_gr.lt
 have hgcl := hb_gc.lt
 replace hb_gc : Blk w gc 39 [(.int .i64 op), (.string (strB ([] : List UInt8))), (.slice none 0 0), (.slice none 0 0), (.slice none 0 0), (.int .u64 0), (.int .u64 0), (.string (strB ([] : List UInt8))), (.string (strB ([] : List UInt8))), (.string (strB ([] : List UInt8)))] := hb_gc
 refine fn_enter (args := [(.pointer (some ⟨gx, 0, none⟩))]) Tryz.func87 rfl rfl rfl ?_
 show WC _ _ _ _ [(0, (.pointer (some ⟨gx, 0, none⟩)))] _
 refine wc_seq (wc_regionL ?_)
 refine vm rfl rfl ?_
 refine vn rfl rfl ?_
 refine wl_val (ov_field0 (off := 0) fo153_0 rfl) rfl rfl rfl ?_
 refine wl_val (ov_loadAt oc149 rfl hb_gx rfl) rfl rfl rfl ?_
 refine va rfl rfl ?_
 refine q_nil (k_then (wc_seq (wc_regionL ?_)))
 refine vm rfl rfl ?_
 refine vn rfl rfl ?_
 refine wl_val (ov_field0 (off := 0) fo39_0 rfl) rfl rfl rfl ?_
 refine wl_val (ov_loadAt oc34 rfl hb_gc rfl) rfl rfl rfl ?_
 refine wl_spell (d := 10) rfl (v' := (.int .i64 9)) (by rw [hop]) ?_
 refine q_nil (k_then (wc_block (wc_seq (wc_seq (wc_regionL ?_)))))
 refine ve rfl rfl rfl ?_
 refine va rfl rfl ?_
 refine q_nil (k_then ?_)
 refine wc_cond_f rfl ?_
 refine wc_seq (wc_regionL ?_)
 refine ve rfl rfl rfl ?_
 refine va rfl rfl ?_
 refine q_nil (k_then ?_)
 refine wc_cond_f rfl ?_
 refine wc_regionL ?_
 refine ve rfl rfl rfl ?_
 refine va rfl rfl ?_
 refine q_nil (k_then ?_)
 refine wc_cond_f rfl ?_
 refine wc_seq (wc_seq (wc_regionL ?_))
 refine ve rfl rfl rfl ?_
 refine va rfl rfl ?_
 refine q_nil (k_then ?_)
 refine wc_cond_f rfl ?_
 refine wc_seq (wc_regionL ?_)
 refine ve rfl rfl rfl ?_
 refine va rfl rfl ?_
 refine q_nil (k_then ?_)
 refine wc_cond_f rfl ?_
 refine wc_regionL ?_
 refine ve rfl rfl rfl ?_
 refine va rfl rfl ?_
 refine q_nil (k_then ?_)
 refine wc_cond_f rfl ?_
 refine wc_seq (wc_regionL ?_)
 refine ve rfl rfl rfl ?_
 refine va rfl rfl ?_
 refine q_nil (k_then ?_)
 refine wc_cond_f rfl ?_
 refine wc_seq (wc_regionL ?_)
 refine ve rfl rfl rfl ?_
 refine va rfl rfl ?_
 refine q_nil (k_then ?_)
 refine wc_cond_f rfl ?_
 refine wc_seq (wc_seq (wc_regionL ?_))
 refine ve rfl rfl rfl ?_
 refine va rfl rfl ?_
 refine q_nil (k_then ?_)
 refine wc_cond_f rfl ?_
 refine wc_regionL ?_
 refine ve rfl rfl rfl ?_
 refine va rfl rfl ?_
 refine q_nil (k_then ?_)
 refine wc_cond_t rfl ?_
 refine wc_regionL ?_
 iterate 2 refine vm rfl rfl ?_
 refine vn rfl rfl ?_
 refine wl_val (ov_field0 (off := 7) fo39_7 rfl) rfl rfl rfl ?_
 refine wl_step (or_call0 cl103 rfl rfl (partr _ gx gc gr _ _ A c l false hb_gx hb_gr hr (by omega) (by omega) (by omega) (by omega) gc 7 _ _ hb_gc (Nat.le_of_ble_eq_true rfl) (by omega) (by omega) (by omega) tv 107 cl107 tv_any)) rfl rfl rfl ?_
 rintro v w1 ⟨rfl, hN74, ⟨A74, c74, hQ74, hr74⟩, hT74, hK74⟩
 have hz_hK74 := hK74.size
 replace hK := Kp.tr hK hK74 (by intro x hx; simp only [List.mem_cons, List.not_mem_nil, or_false] at hx ⊢; omega)
 replace hb_gx := hN74
 replace hb_gr := hQ74
 replace hb_gc : Blk _ gc _ [(.int .i64 op), (.string (strB ([] : List UInt8))), (.slice none 0 0), (.slice none 0 0), (.slice none 0 0), (.int .u64 0), (.int .u64 0), (.string (strB (partV l))), (.string (strB ([] : List UInt8))), (.string (strB ([] : List UInt8)))] := hT74
 have hlr74 := partR_len l
 have hlv74 := partV_len l
 refine q_nil (k_block ?_)
 refine e_end0 rfl ?_
 have e : rfold op l = (⟨op, ([] : List UInt8), [], [], [], 0, 0, (partV l), ([] : List UInt8), ([] : List UInt8)⟩, (partR l), (false || partB tv l)) := by rw [hop]; simp only [rfold, nd_9, List.foldl_cons, List.foldl_nil, rst_k, rst_v, rst_t, rst_l, rst_n, rst_m, rst_g, rst_p, rst_c, cmd0]
 rw [e]
 dsimp only [cmdc]
 exact ⟨rfl, hb_gx, ⟨_, _, hb_gr, hr74⟩, ⟨none, 0, none, 0, none, 0, hb_gc, Rd.nil _ _ _ _ _ _ (Nat.zero_le _), Rd.nil _ _ _ _ _ _ (Nat.zero_le _), Rd.nil _ _ _ _ _ _ (Nat.zero_le _)⟩, hK⟩
theorem partsr_10 (w : World) (gx gc gr lo hi : Nat) (A : Option Addr) (c : Nat) (l : List UInt8) (hb_gx : Blk w gx 153 [.pointer (some ⟨gc, 0, none⟩), .pointer (some ⟨gr, 0, none⟩), .slice none 0 0, .bool false]) (hb_gr : Blk w gr 178 [.bool true, .slice A l.length c]) (hr : RdB w lo hi A c l) (hgx : gx ≠ gr) (hxo : gx < lo ∨ hi ≤ gx) (hro : gr < lo ∨ hi ≤ gr) (hlen : l.length ≤ 140737488355328) (op : Int) (hb_gc : Blk w gc 39 (cmdc (cmd0 op) none 0 none 0 none 0)) (hcx : gc ≠ gx) (hcr : gc ≠ gr) (hco : gc < lo ∨ hi ≤ gc) (hhi : hi ≤ w.heap.size) (hop : op = 10) :
  Fn Tryz.prog 87 #[(.pointer (some ⟨gx, 0, none⟩))] w (fun v w' => v = .tuple #[] ∧ Blk w' gx 153 [.pointer (some ⟨gc, 0, none⟩), .pointer (some ⟨gr, 0, none⟩), .slice none 0 0, .bool (rfold op l).2.2] ∧ RdrAt w' gr lo hi (rfold op l).2.1 ∧ (∃ K ck V cv T ct, Blk w' gc 39 (cmdc (rfold op l).1 K ck V cv T ct) ∧ RdS w' w.heap.size w'.heap.size K ck (rfold op l).1.keys ∧ RdB w' w.heap.size w'.heap.size V cv (rfold op l).1.value ∧ RdS w' w.heap.size w'.heap.size T ct (rfold op l).1.tags) ∧ Kp [gx, gr, gc] w w')  := by
 have hK := Kp.refl [gx, gr, gc] w
 have hgxl := hb_gx.lt
 have hgrl := hb_gr.lt
 have hgcl := hb_gc.lt
 replace hb_gc : Blk w gc 39 [(.int .i64 op), (.string (strB ([] : List UInt8))), (.slice none 0 0), (.slice none 0 0), (.slice none 0 0), (.int .u64 0), (.int .u64 0), (.string (strB ([] : List UInt8))), (.string (strB ([] : List UInt8))), (.string (strB ([] : List UInt8)))] := hb_gc
 refine fn_enter (args := [(.pointer (some ⟨gx, 0, none⟩))]) Tryz.func87 rfl rfl rfl ?_
 show WC _ _ _ _ [(0, (.pointer (some ⟨gx, 0, none⟩)))] _
 refine wc_seq (wc_regionL ?_)
 refine vm rfl rfl ?_
 refine vn rfl rfl ?_
 refine wl_val (ov_field0 (off := 0) fo153_0 rfl) rfl rfl rfl ?_
 refine wl_val (ov_loadAt oc149 rfl hb_gx rfl) rfl rfl rfl ?_
 refine va rfl rfl ?_
 refine q_nil (k_then (wc_seq (wc_regionL ?_)))
 refine vm rfl rfl ?_
 refine vn rfl rfl ?_
 refine wl_val (ov_field0 (off := 0) fo39_0 rfl) rfl rfl rfl ?_
 refine wl_val (ov_loadAt oc34 rfl hb_gc rfl) rfl rfl rfl ?_
 refine wl_spell (d := 10) rfl (v' := (.int .i64 10)) (by rw [hop]) ?_
 refine q_nil (k_then (wc_block (wc_seq (wc_seq (wc_regionL ?_)))))
 refine ve rfl rfl rfl ?_
 refine va rfl rfl ?_
 refine q_nil (k_then ?_)
 refine wc_cond_f rfl ?_
 refine wc_seq (wc_regionL ?_)
 refine ve rfl rfl rfl ?_
 refine va rfl rfl ?_
 refine q_nil (k_then ?_)
 refine wc_cond_f rfl ?_
 refine wc_regionL ?_
 refine ve rfl rfl rfl ?_
 refine va rfl rfl ?_
 refine q_nil (k_then ?_)
 refine wc_cond_f rfl ?_
 refine wc_seq (wc_seq (wc_regionL ?_))
 refine ve rfl rfl rfl ?_
 refine va rfl rfl ?_
 refine q_nil (k_then ?_)
 refine wc_cond_f rfl ?_
 refine wc_seq (wc_regionL ?_)
 refine ve rfl rfl rfl ?_
 refine va rfl rfl ?_
 refine q_nil (k_then ?_)
 refine wc_cond_f rfl ?_
 refine wc_regionL ?_
 refine ve rfl rfl rfl ?_
 refine va rfl rfl ?_
 refine q_nil (k_then ?_)
 refine wc_cond_f rfl ?_
 refine wc_seq (wc_regionL ?_)
 refine ve rfl rfl rfl ?_
 refine va rfl rfl ?_
 refine q_nil (k_then ?_)
 refine wc_cond_f rfl ?_
 refine wc_seq (wc_regionL ?_)
 refine ve rfl rfl rfl ?_
 refine va rfl rfl ?_
 refine q_nil (k_then ?_)
 refine wc_cond_f rfl ?_
 refine wc_seq (wc_seq (wc_regionL ?_))
 refine ve rfl rfl rfl ?_
 refine va rfl rfl ?_
 refine q_nil (k_then ?_)
 refine wc_cond_f rfl ?_
 refine wc_regionL ?_
 refine ve rfl rfl rfl ?_
 refine va rfl rfl ?_
 refine q_nil (k_then ?_)
 refine wc_cond_f rfl ?_
 refine wc_seq (wc_regionL ?_)
 refine ve rfl rfl rfl ?_
 refine va rfl rfl ?_
 refine q_nil (k_then ?_)
 refine wc_cond_t rfl ?_
 refine wc_regionL ?_
 iterate 2 refine vm rfl rfl ?_
 refine vn rfl rfl ?_
 refine wl_val (ov_field0 (off := 8) fo39_8 rfl) rfl rfl rfl ?_
 refine wl_step (or_call0 cl103 rfl rfl (partr _ gx gc gr _ _ A c l false hb_gx hb_gr hr (by omega) (by omega) (by omega) (by omega) gc 8 _ _ hb_gc (Nat.le_of_ble_eq_true rfl) (by omega) (by omega) (by omega) pv 110 cl110 pv_any)) rfl rfl rfl ?_
 rintro v w1 ⟨rfl, hN81, ⟨A81, c81, hQ81, hr81⟩, hT81, hK81⟩
 have hz_hK81 := hK81.size
 replace hK := Kp.tr hK hK81 (by intro x hx; simp only [List.mem_cons, List.not_mem_nil, or_false] at hx ⊢; omega)
 replace hb_gx := hN81
 replace hb_gr := hQ81
 replace hb_gc : Blk _ gc _ [(.int .i64 op), (.string (strB ([] : List UInt8))), (.slice none 0 0), (.slice none 0 0), (.slice none 0 0), (.int .u64 0), (.int .u64 0), (.string (strB ([] : List UInt8))), (.string (strB (partV l))), (.string (strB ([] : List UInt8)))] := hT81
 have hlr81 := partR_len l
 have hlv81 := partV_len l
 refine q_nil (k_block ?_)
 refine e_end0 rfl ?_
 have e : rfold op l = (⟨op, ([] : List UInt8), [], [], [], 0, 0, ([] : List UInt8), (partV l), ([] : List UInt8)⟩, (partR l), (false || partB pv l)) := by rw [hop]; simp only [rfold, nd_10, List.foldl_cons, List.foldl_nil, rst_k, rst_v, rst_t, rst_l, rst_n, rst_m, rst_g, rst_p, rst_c, cmd0]
 rw [e]
 dsimp only [cmdc]
 exact ⟨rfl, hb_gx, ⟨_, _, hb_gr, hr81⟩, ⟨none, 0, none, 0, none, 0, hb_gc, Rd.nil _ _ _ _ _ _ (Nat.zero_le _), Rd.nil _ _ _ _ _ _ (Nat.zero_le _), Rd.nil _ _ _ _ _ _ (Nat.zero_le _)⟩, hK⟩
theorem partsr_11 (w : World) (gx gc gr lo hi : Nat) (A : Option Addr) (c : Nat) (l : List UInt8) (hb_gx : Blk w gx 153 [.pointer (some ⟨gc, 0, none⟩), .pointer (some ⟨gr, 0, none⟩), .slice none 0 0, .bool false]) (hb_gr : Blk w gr 178 [.bool true, .slice A l.length c]) (hr : RdB w lo hi A c l) (hgx : gx ≠ gr) (hxo : gx < lo ∨ hi ≤ gx) (hro : gr < lo ∨ hi ≤ gr) (hlen : l.length ≤ 140737488355328) (op : Int) (hb_gc : Blk w gc 39 (cmdc (cmd0 op) none 0 none 0 none 0)) (hcx : gc ≠ gx) (hcr : gc ≠ gr) (hco : gc < lo ∨ hi ≤ gc) (hhi : hi ≤ w.heap.size) (hop : op = 11) :
  Fn Tryz.prog 87 #[(.pointer (some ⟨gx, 0, none⟩))] w (fun v w' => v = .tuple #[] ∧ Blk w' gx 153 [.pointer (some ⟨gc, 0, none⟩), .pointer (some ⟨gr, 0, none⟩), .slice none 0 0, .bool (rfold op l).2.2] ∧ RdrAt w' gr lo hi (rfold op l).2.1 ∧ (∃ K ck V cv T ct, Blk w' gc 39 (cmdc (rfold op l).1 K ck V cv T ct) ∧ RdS w' w.heap.size w'.heap.size K ck (rfold op l).1.keys ∧ RdB w' w.heap.size w'.heap.size V cv (rfold op l).1.value ∧ RdS w' w.heap.size w'.heap.size T ct (rfold op l).1.tags) ∧ Kp [gx, gr, gc] w w')  := by
 have hK := Kp.refl [gx, gr, gc] w
 have hgxl := hb_gx.lt
 have hgrl := hb_gr.lt
 have hgcl := hb_gc.lt
 replace hb_gc : Blk w gc 39 [(.int .i64 op), (.string (strB ([] : List UInt8))), (.slice none 0 0), (.slice none 0 0), (.slice none 0 0), (.int .u64 0), (.int .u64 0), (.string (strB ([] : List UInt8))), (.string (strB ([] : List UInt8))), (.string (strB ([] : List UInt8)))] := hb_gc
 refine fn_enter (args := [(.pointer (some ⟨gx, 0, none⟩))]) Tryz.func87 rfl rfl rfl ?_
 show WC _ _ _ _ [(0, (.pointer (some ⟨gx, 0, none⟩)))] _
 refine wc_seq (wc_regionL ?_)
 refine vm rfl rfl ?_
 refine vn rfl rfl ?_
 refine wl_val (ov_field0 (off := 0) fo153_0 rfl) rfl rfl rfl ?_
 refine wl_val (ov_loadAt oc149 rfl hb_gx rfl) rfl rfl rfl ?_
 refine va rfl rfl ?_
 refine q_nil (k_then (wc_seq (wc_regionL ?_)))
 refine vm rfl rfl ?_
 refine vn rfl rfl ?_
 refine wl_val (ov_field0 (off := 0) fo39_0 rfl) rfl rfl rfl ?_
 refine wl_val (ov_loadAt oc34 rfl hb_gc rfl) rfl rfl rfl ?_
 refine wl_spell (d := 10) rfl (v' := (.int .i64 11)) (by rw [hop]) ?_
 refine q_nil (k_then (wc_block (wc_seq (wc_seq (wc_regionL ?_)))))
 refine ve rfl rfl rfl ?_
 refine va rfl rfl ?_
 refine q_nil (k_then ?_)
 refine wc_cond_f rfl ?_
 refine wc_seq (wc_regionL ?_)
 refine ve rfl rfl rfl ?_
 refine va rfl rfl ?_
 refine q_nil (k_then ?_)
 refine wc_cond_f rfl ?_
 refine wc_regionL ?_
 refine ve rfl rfl rfl ?_
 refine va rfl rfl ?_
 refine q_nil (k_then ?_)
 refine wc_cond_f rfl ?_
 refine wc_seq (wc_seq (wc_regionL ?_))
 refine ve rfl rfl rfl ?_
 refine va rfl rfl ?_
 refine q_nil (k_then ?_)
 refine wc_cond_f rfl ?_
 refine wc_seq (wc_regionL ?_)
 refine ve rfl rfl rfl ?_
 refine va rfl rfl ?_
 refine q_nil (k_then ?_)
 refine wc_cond_f rfl ?_
 refine wc_regionL ?_
 refine ve rfl rfl rfl ?_
 refine va rfl rfl ?_
 refine q_nil (k_then ?_)
 refine wc_cond_f rfl ?_
 refine wc_seq (wc_regionL ?_)
 refine ve rfl rfl rfl ?_
 refine va rfl rfl ?_
 refine q_nil (k_then ?_)
 refine wc_cond_f rfl ?_
 refine wc_seq (wc_regionL ?_)
 refine ve rfl rfl rfl ?_
 refine va rfl rfl ?_
 refine q_nil (k_then ?_)
 refine wc_cond_f rfl ?_
 refine wc_seq (wc_seq (wc_regionL ?_))
 refine ve rfl rfl rfl ?_
 refine va rfl rfl ?_
 refine q_nil (k_then ?_)
 refine wc_cond_f rfl ?_
 refine wc_regionL ?_
 refine ve rfl rfl rfl ?_
 refine va rfl rfl ?_
 refine q_nil (k_then ?_)
 refine wc_cond_f rfl ?_
 refine wc_seq (wc_regionL ?_)
 refine ve rfl rfl rfl ?_
 refine va rfl rfl ?_
 refine q_nil (k_then ?_)
 refine wc_cond_f rfl ?_
 refine wc_seq (wc_seq (wc_regionL ?_))
 refine ve rfl rfl rfl ?_
 refine va rfl rfl ?_
 refine q_nil (k_then ?_)
 refine wc_cond_t rfl ?_
 refine q_skip (k_then ?_)
 refine wc_cond_t rfl ?_
 refine wc_seq (wc_regionL ?_)
 iterate 2 refine vm rfl rfl ?_
 refine vn rfl rfl ?_
 refine wl_val (ov_field0 (off := 1) fo39_1 rfl) rfl rfl rfl ?_
 refine wl_step (or_call0 cl103 rfl rfl (partr _ gx gc gr _ _ A c l false hb_gx hb_gr hr (by omega) (by omega) (by omega) (by omega) gc 1 _ _ hb_gc (Nat.le_of_ble_eq_true rfl) (by omega) (by omega) (by omega) kv 104 cl104 kv_any)) rfl rfl rfl ?_
 rintro v w1 ⟨rfl, hN89, ⟨A89, c89, hQ89, hr89⟩, hT89, hK89⟩
 have hz_hK89 := hK89.size
 replace hK := Kp.tr hK hK89 (by intro x hx; simp only [List.mem_cons, List.not_mem_nil, or_false] at hx ⊢; omega)
 replace hb_gx := hN89
 replace hb_gr := hQ89
 replace hb_gc : Blk _ gc _ [(.int .i64 op), (.string (strB (partV l))), (.slice none 0 0), (.slice none 0 0), (.slice none 0 0), (.int .u64 0), (.int .u64 0), (.string (strB ([] : List UInt8))), (.string (strB ([] : List UInt8))), (.string (strB ([] : List UInt8)))] := hT89
 have hlr89 := partR_len l
 have hlv89 := partV_len l
 refine q_nil (k_then (wc_regionL ?_))
 iterate 2 refine vm rfl rfl ?_
 refine vn rfl rfl ?_
 refine wl_val (ov_field0 (off := 9) fo39_9 rfl) rfl rfl rfl ?_
 refine wl_step (or_call0 cl103 rfl rfl (partr _ gx gc gr _ _ A89 c89 (partR l) (false || partB kv l) hb_gx hb_gr hr89 (by omega) (by omega) (by omega) (by omega) gc 9 _ _ hb_gc (Nat.le_of_ble_eq_true rfl) (by omega) (by omega) (by omega) kv 104 cl104 kv_any)) rfl rfl rfl ?_
 rintro v w2 ⟨rfl, hN94, ⟨A94, c94, hQ94, hr94⟩, hT94, hK94⟩
 have hz_hK94 := hK94.size
 replace hK := Kp.tr hK hK94 (by intro x hx; simp only [List.mem_cons, List.not_mem_nil, or_false] at hx ⊢; omega)
 replace hb_gx := hN94
 replace hb_gr := hQ94
 replace hb_gc : Blk _ gc _ [(.int .i64 op), (.string (strB (partV l))), (.slice none 0 0), (.slice none 0 0), (.slice none 0 0), (.int .u64 0), (.int .u64 0), (.string (strB ([] : List UInt8))), (.string (strB ([] : List UInt8))), (.string (strB (partV (partR l))))] := hT94
 have hlr94 := partR_len (partR l)
 have hlv94 := partV_len (partR l)
 refine q_nil (k_block ?_)
 refine e_end0 rfl ?_
 have e : rfold op l = (⟨op, (partV l), [], [], [], 0, 0, ([] : List UInt8), ([] : List UInt8), (partV (partR l))⟩, (partR (partR l)), ((false || partB kv l) || partB kv (partR l))) := by rw [hop]; simp only [rfold, nd_11, List.foldl_cons, List.foldl_nil, rst_k, rst_v, rst_t, rst_l, rst_n, rst_m, rst_g, rst_p, rst_c, cmd0]
 rw [e]
 dsimp only [cmdc]
 exact ⟨rfl, hb_gx, ⟨_, _, hb_gr, hr94⟩, ⟨none, 0, none, 0, none, 0, hb_gc, Rd.nil _ _ _ _ _ _ (Nat.zero_le _), Rd.nil _ _ _ _ _ _ (Nat.zero_le _), Rd.nil _ _ _ _ _ _ (Nat.zero_le _)⟩, hK⟩
theorem partsr_12 (w : World) (gx gc gr lo hi : Nat) (A : Option Addr) (c : Nat) (l : List UInt8) (hb_gx : Blk w gx 153 [.pointer (some ⟨gc, 0, none⟩), .pointer (some ⟨gr, 0, none⟩), .slice none 0 0, .bool false]) (hb_gr : Blk w gr 178 [.bool true, .slice A l.length c]) (hr : RdB w lo hi A c l) (hgx : gx ≠ gr) (hxo : gx < lo ∨ hi ≤ gx) (hro : gr < lo ∨ hi ≤ gr) (hlen : l.length ≤ 140737488355328) (op : Int) (hb_gc : Blk w gc 39 (cmdc (cmd0 op) none 0 none 0 none 0)) (hcx : gc ≠ gx) (hcr : gc ≠ gr) (hco : gc < lo ∨ hi ≤ gc) (hhi : hi ≤ w.heap.size) (hop : op = 12) :
  Fn Tryz.prog 87 #[(.pointer (some ⟨gx, 0, none⟩))] w (fun v w' => v = .tuple #[] ∧ Blk w' gx 153 [.pointer (some ⟨gc, 0, none⟩), .pointer (some ⟨gr, 0, none⟩), .slice none 0 0, .bool (rfold op l).2.2] ∧ RdrAt w' gr lo hi (rfold op l).2.1 ∧ (∃ K ck V cv T ct, Blk w' gc 39 (cmdc (rfold op l).1 K ck V cv T ct) ∧ RdS w' w.heap.size w'.heap.size K ck (rfold op l).1.keys ∧ RdB w' w.heap.size w'.heap.size V cv (rfold op l).1.value ∧ RdS w' w.heap.size w'.heap.size T ct (rfold op l).1.tags) ∧ Kp [gx, gr, gc] w w')  := by
 have hK := Kp.refl [gx, gr, gc] w
 have hgxl := hb_gx.lt
 have hgrl := hb_gr.lt
 have hgcl := hb_gc.lt
 replace hb_gc : Blk w gc 39 [(.int .i64 op), (.string (strB ([] : List UInt8))), (.slice none 0 0), (.slice none 0 0), (.slice none 0 0), (.int .u64 0), (.int .u64 0), (.string (strB ([] : List UInt8))), (.string (strB ([] : List UInt8))), (.string (strB ([] : List UInt8)))] := hb_gc
 refine fn_enter (args := [(.pointer (some ⟨gx, 0, none⟩))]) Tryz.func87 rfl rfl rfl ?_
 show WC _ _ _ _ [(0, (.pointer (some ⟨gx, 0, none⟩)))] _
 refine wc_seq (wc_regionL ?_)
 refine vm rfl rfl ?_
 refine vn rfl rfl ?_
 refine wl_val (ov_field0 (off := 0) fo153_0 rfl) rfl rfl rfl ?_
 refine wl_val (ov_loadAt oc149 rfl hb_gx rfl) rfl rfl rfl ?_
 refine va rfl rfl ?_
 refine q_nil (k_then (wc_seq (wc_regionL ?_)))
 refine vm rfl rfl ?_
 refine vn rfl rfl ?_
 refine wl_val (ov_field0 (off := 0) fo39_0 rfl) rfl rfl rfl ?_
 refine wl_val (ov_loadAt oc34 rfl hb_gc rfl) rfl rfl rfl ?_
 refine wl_spell (d := 10) rfl (v' := (.int .i64 12)) (by rw [hop]) ?_
 refine q_nil (k_then (wc_block (wc_seq (wc_seq (wc_regionL ?_)))))
 refine ve rfl rfl rfl ?_
 refine va rfl rfl ?_
 refine q_nil (k_then ?_)
 refine wc_cond_f rfl ?_
 refine wc_seq (wc_regionL ?_)
 refine ve rfl rfl rfl ?_
 refine va rfl rfl ?_
 refine q_nil (k_then ?_)
 refine wc_cond_f rfl ?_
 refine wc_regionL ?_
 refine ve rfl rfl rfl ?_
 refine va rfl rfl ?_
 refine q_nil (k_then ?_)
 refine wc_cond_f rfl ?_
 refine wc_seq (wc_seq (wc_regionL ?_))
 refine ve rfl rfl rfl ?_
 refine va rfl rfl ?_
 refine q_nil (k_then ?_)
 refine wc_cond_f rfl ?_
 refine wc_seq (wc_regionL ?_)
 refine ve rfl rfl rfl ?_
 refine va rfl rfl ?_
 refine q_nil (k_then ?_)
 refine wc_cond_f rfl ?_
 refine wc_regionL ?_
 refine ve rfl rfl rfl ?_
 refine va rfl rfl ?_
 refine q_nil (k_then ?_)
 refine wc_cond_f rfl ?_
 refine wc_seq (wc_regionL ?_)
 refine ve rfl rfl rfl ?_
 refine va rfl rfl ?_
 refine q_nil (k_then ?_)
 refine wc_cond_f rfl ?_
 refine wc_seq (wc_regionL ?_)
 refine ve rfl rfl rfl ?_
 refine va rfl rfl ?_
 refine q_nil (k_then ?_)
 refine wc_cond_f rfl ?_
 refine wc_seq (wc_seq (wc_regionL ?_))
 refine ve rfl rfl rfl ?_
 refine va rfl rfl ?_
 refine q_nil (k_then ?_)
 refine wc_cond_f rfl ?_
 refine wc_regionL ?_
 refine ve rfl rfl rfl ?_
 refine va rfl rfl ?_
 refine q_nil (k_then ?_)
 refine wc_cond_f rfl ?_
 refine wc_seq (wc_regionL ?_)
 refine ve rfl rfl rfl ?_
 refine va rfl rfl ?_
 refine q_nil (k_then ?_)
 refine wc_cond_f rfl ?_
 refine wc_seq (wc_seq (wc_regionL ?_))
 refine ve rfl rfl rfl ?_
 refine va rfl rfl ?_
 refine q_nil (k_then ?_)
 refine wc_cond_f rfl ?_
 refine wc_regionL ?_
 refine ve rfl rfl rfl ?_
 refine va rfl rfl ?_
 refine q_nil (k_then ?_)
 refine wc_cond_t rfl ?_
 refine wc_seq (wc_regionL ?_)
 iterate 2 refine vm rfl rfl ?_
 refine vn rfl rfl ?_
 refine wl_val (ov_field0 (off := 1) fo39_1 rfl) rfl rfl rfl ?_
 refine wl_step (or_call0 cl103 rfl rfl (partr _ gx gc gr _ _ A c l false hb_gx hb_gr hr (by omega) (by omega) (by omega) (by omega) gc 1 _ _ hb_gc (Nat.le_of_ble_eq_true rfl) (by omega) (by omega) (by omega) kv 104 cl104 kv_any)) rfl rfl rfl ?_
 rintro v w1 ⟨rfl, hN89, ⟨A89, c89, hQ89, hr89⟩, hT89, hK89⟩
 have hz_hK89 := hK89.size
 replace hK := Kp.tr hK hK89 (by intro x hx; simp only [List.mem_cons, List.not_mem_nil, or_false] at hx ⊢; omega)
 replace hb_gx := hN89
 replace hb_gr := hQ89
 replace hb_gc : Blk _ gc _ [(.int .i64 op), (.string (strB (partV l))), (.slice none 0 0), (.slice none 0 0), (.slice none 0 0), (.int .u64 0), (.int .u64 0), (.string (strB ([] : List UInt8))), (.string (strB ([] : List UInt8))), (.string (strB ([] : List UInt8)))] := hT89
 have hlr89 := partR_len l
 have hlv89 := partV_len l
 refine q_nil (k_then (wc_regionL ?_))
 iterate 2 refine vm rfl rfl ?_
 refine vn rfl rfl ?_
 refine wl_val (ov_field0 (off := 9) fo39_9 rfl) rfl rfl rfl ?_
 refine wl_step (or_call0 cl103 rfl rfl (partr _ gx gc gr _ _ A89 c89 (partR l) (false || partB kv l) hb_gx hb_gr hr89 (by omega) (by omega) (by omega) (by omega) gc 9 _ _ hb_gc (Nat.le_of_ble_eq_true rfl) (by omega) (by omega) (by omega) kv 104 cl104 kv_any)) rfl rfl rfl ?_
 rintro v w2 ⟨rfl, hN94, ⟨A94, c94, hQ94, hr94⟩, hT94, hK94⟩
 have hz_hK94 := hK94.size
 replace hK := Kp.tr hK hK94 (by intro x hx; simp only [List.mem_cons, List.not_mem_nil, or_false] at hx ⊢; omega)
 replace hb_gx := hN94
 replace hb_gr := hQ94
 replace hb_gc : Blk _ gc _ [(.int .i64 op), (.string (strB (partV l))), (.slice none 0 0), (.slice none 0 0), (.slice none 0 0), (.int .u64 0), (.int .u64 0), (.string (strB ([] : List UInt8))), (.string (strB ([] : List UInt8))), (.string (strB (partV (partR l))))] := hT94
 have hlr94 := partR_len (partR l)
 have hlv94 := partV_len (partR l)
 refine q_nil (k_block ?_)
 refine e_end0 rfl ?_
 have e : rfold op l = (⟨op, (partV l), [], [], [], 0, 0, ([] : List UInt8), ([] : List UInt8), (partV (partR l))⟩, (partR (partR l)), ((false || partB kv l) || partB kv (partR l))) := by rw [hop]; simp only [rfold, nd_12, List.foldl_cons, List.foldl_nil, rst_k, rst_v, rst_t, rst_l, rst_n, rst_m, rst_g, rst_p, rst_c, cmd0]
 rw [e]
 dsimp only [cmdc]
 exact ⟨rfl, hb_gx, ⟨_, _, hb_gr, hr94⟩, ⟨none, 0, none, 0, none, 0, hb_gc, Rd.nil _ _ _ _ _ _ (Nat.zero_le _), Rd.nil _ _ _ _ _ _ (Nat.zero_le _), Rd.nil _ _ _ _ _ _ (Nat.zero_le _)⟩, hK⟩
theorem partsr_13 (w : World) (gx gc gr lo hi : Nat) (A : Option Addr) (c : Nat) (l : List UInt8) (hb_gx : Blk w gx 153 [.pointer (some ⟨gc, 0, none⟩), .pointer (some ⟨gr, 0, none⟩), .slice none 0 0, .bool false]) (hb_gr : Blk w gr 178 [.bool true, .slice A l.length c]) (hr : RdB w lo hi A c l) (hgx : gx ≠ gr) (hxo : gx < lo ∨ hi ≤ gx) (hro : gr < lo ∨ hi ≤ gr) (hlen : l.length ≤ 140737488355328) (op : Int) (hb_gc : Blk w gc 39 (cmdc (cmd0 op) none 0 none 0 none 0)) (hcx : gc ≠ gx) (hcr : gc ≠ gr) (hco : gc < lo ∨ hi ≤ gc) (hhi : hi ≤ w.heap.size) (hop : op = 13) :
  Fn Tryz.prog 87 #[(.pointer (some ⟨gx, 0, none⟩))] w (fun v w' => v = .tuple #[] ∧ Blk w' gx 153 [.pointer (some ⟨gc, 0, none⟩), .pointer (some ⟨gr, 0, none⟩), .slice none 0 0, .bool (rfold op l).2.2] ∧ RdrAt w' gr lo hi (rfold op l).2.1 ∧ (∃ K ck V cv T ct, Blk w' gc 39 (cmdc (rfold op l).1 K ck V cv T ct) ∧ RdS w' w.heap.size w'.heap.size K ck (rfold op l).1.keys ∧ RdB w' w.heap.size w'.heap.size V cv (rfold op l).1.value ∧ RdS w' w.heap.size w'.heap.size T ct (rfold op l).1.tags) ∧ Kp [gx, gr, gc] w w')  := by
 have hK := Kp.refl [gx, gr, gc] w
 have hgxl := hb_gx.lt
 have hgrl := hb_gr.lt
 have hgcl := hb_gc.lt
 replace hb_gc : Blk w gc 39 [(.int .i64 op), (.string (strB ([] : List UInt8))), (.slice none 0 0), (.slice none 0 0), (.slice none 0 0), (.int .u64 0), (.int .u64 0), (.string (strB ([] : List UInt8))), (.string (strB ([] : List UInt8))), (.string (strB ([] : List UInt8)))] := hb_gc
 refine fn_enter (args := [(.pointer (some ⟨gx, 0, none⟩))]) Tryz.func87 rfl rfl rfl ?_
 show WC _ _ _ _ [(0, (.pointer (some ⟨gx, 0, none⟩)))] _
 refine wc_seq (wc_regionL ?_)
 refine vm rfl rfl ?_
 refine vn rfl rfl ?_
 refine wl_val (ov_field0 (off := 0) fo153_0 rfl) rfl rfl rfl ?_
 refine wl_val (ov_loadAt oc149 rfl hb_gx rfl) rfl rfl rfl ?_
 refine va rfl rfl ?_
 refine q_nil (k_then (wc_seq (wc_regionL ?_)))
 refine vm rfl rfl ?_
 refine vn rfl rfl ?_
 refine wl_val (ov_field0 (off := 0) fo39_0 rfl) rfl rfl rfl ?_
 refine wl_val (ov_loadAt oc34 rfl hb_gc rfl) rfl rfl rfl ?_
 refine wl_spell (d := 10) rfl (v' := (.int .i64 13)) (by rw [hop]) ?_
 refine q_nil (k_then (wc_block (wc_seq (wc_seq (wc_regionL ?_)))))
 refine ve rfl rfl rfl ?_
 refine va rfl rfl ?_
 refine q_nil (k_then ?_)
 refine wc_cond_f rfl ?_
 refine wc_seq (wc_regionL ?_)
 refine ve rfl rfl rfl ?_
 refine va rfl rfl ?_
 refine q_nil (k_then ?_)
 refine wc_cond_f rfl ?_
 refine wc_regionL ?_
 refine ve rfl rfl rfl ?_
 refine va rfl rfl ?_
 refine q_nil (k_then ?_)
 refine wc_cond_f rfl ?_
 refine wc_seq (wc_seq (wc_regionL ?_))
 refine ve rfl rfl rfl ?_
 refine va rfl rfl ?_
 refine q_nil (k_then ?_)
 refine wc_cond_f rfl ?_
 refine wc_seq (wc_regionL ?_)
 refine ve rfl rfl rfl ?_
 refine va rfl rfl ?_
 refine q_nil (k_then ?_)
 refine wc_cond_f rfl ?_
 refine wc_regionL ?_
 refine ve rfl rfl rfl ?_
 refine va rfl rfl ?_
 refine q_nil (k_then ?_)
 refine wc_cond_t rfl ?_
 refine wc_regionL ?_
 iterate 2 refine vm rfl rfl ?_
 refine vn rfl rfl ?_
 refine wl_val (ov_field0 (off := 1) fo39_1 rfl) rfl rfl rfl ?_
 refine wl_step (or_call0 cl103 rfl rfl (partr _ gx gc gr _ _ A c l false hb_gx hb_gr hr (by omega) (by omega) (by omega) (by omega) gc 1 _ _ hb_gc (Nat.le_of_ble_eq_true rfl) (by omega) (by omega) (by omega) kv 104 cl104 kv_any)) rfl rfl rfl ?_
 rintro v w1 ⟨rfl, hN50, ⟨A50, c50, hQ50, hr50⟩, hT50, hK50⟩
 have hz_hK50 := hK50.size
 replace hK := Kp.tr hK hK50 (by intro x hx; simp only [List.mem_cons, List.not_mem_nil, or_false] at hx ⊢; omega)
 replace hb_gx := hN50
 replace hb_gr := hQ50
 replace hb_gc : Blk _ gc _ [(.int .i64 op), (.string (strB (partV l))), (.slice none 0 0), (.slice none 0 0), (.slice none 0 0), (.int .u64 0), (.int .u64 0), (.string (strB ([] : List UInt8))), (.string (strB ([] : List UInt8))), (.string (strB ([] : List UInt8)))] := hT50
 have hlr50 := partR_len l
 have hlv50 := partV_len l
 refine q_nil (k_block ?_)
 refine e_end0 rfl ?_
 have e : rfold op l = (⟨op, (partV l), [], [], [], 0, 0, ([] : List UInt8), ([] : List UInt8), ([] : List UInt8)⟩, (partR l), (false || partB kv l)) := by rw [hop]; simp only [rfold, nd_13, List.foldl_cons, List.foldl_nil, rst_k, rst_v, rst_t, rst_l, rst_n, rst_m, rst_g, rst_p, rst_c, cmd0]
 rw [e]
 dsimp only [cmdc]
 exact ⟨rfl, hb_gx, ⟨_, _, hb_gr, hr50⟩, ⟨none, 0, none, 0, none, 0, hb_gc, Rd.nil _ _ _ _ _ _ (Nat.zero_le _), Rd.nil _ _ _ _ _ _ (Nat.zero_le _), Rd.nil _ _ _ _ _ _ (Nat.zero_le _)⟩, hK⟩
theorem partsr_14 (w : World) (gx gc gr lo hi : Nat) (A : Option Addr) (c : Nat) (l : List UInt8) (hb_gx : Blk w gx 153 [.pointer (some ⟨gc, 0, none⟩), .pointer (some ⟨gr, 0, none⟩), .slice none 0 0, .bool false]) (hb_gr : Blk w gr 178 [.bool true, .slice A l.length c]) (hr : RdB w lo hi A c l) (hgx : gx ≠ gr) (hxo : gx < lo ∨ hi ≤ gx) (hro : gr < lo ∨ hi ≤ gr) (hlen : l.length ≤ 140737488355328) (op : Int) (hb_gc : Blk w gc 39 (cmdc (cmd0 op) none 0 none 0 none 0)) (hcx : gc ≠ gx) (hcr : gc ≠ gr) (hco : gc < lo ∨ hi ≤ gc) (hhi : hi ≤ w.heap.size) (hop : op = 14) :
  Fn Tryz.prog 87 #[(.pointer (some ⟨gx, 0, none⟩))] w (fun v w' => v = .tuple #[] ∧ Blk w' gx 153 [.pointer (some ⟨gc, 0, none⟩), .pointer (some ⟨gr, 0, none⟩), .slice none 0 0, .bool (rfold op l).2.2] ∧ RdrAt w' gr lo hi (rfold op l).2.1 ∧ (∃ K ck V cv T ct, Blk w' gc 39 (cmdc (rfold op l).1 K ck V cv T ct) ∧ RdS w' w.heap.size w'.heap.size K ck (rfold op l).1.keys ∧ RdB w' w.heap.size w'.heap.size V cv (rfold op l).1.value ∧ RdS w' w.heap.size w'.heap.size T ct (rfold op l).1.tags) ∧ Kp [gx, gr, gc] w w')  := by
 have hK := Kp.refl [gx, gr, gc] w
 have hgxl := hb_gx.lt
 have hgrl := hb_gr.lt
 have hgcl := hb_gc.lt
 replace hb_gc : Blk w gc 39 [(.int .i64 op), (.string (strB ([] : List UInt8))), (.slice none 0 0), (.slice none 0 0), (.slice none 0 0), (.int .u64 0), (.int .u64 0), (.string (strB ([] : List UInt8))), (.string (strB ([] : List UInt8))), (.string (strB ([] : List UInt8)))] := hb_gc
 refine fn_enter (args := [(.pointer (some ⟨gx, 0, none⟩))]) Tryz.func87 rfl rfl rfl ?_
 show WC _ _ _ _ [(0, (.pointer (some ⟨gx, 0, none⟩)))] _
 refine wc_seq (wc_regionL ?_)
 refine vm rfl rfl ?_
 refine vn rfl rfl ?_
 refine wl_val (ov_field0 (off := 0) fo153_0 rfl) rfl rfl rfl ?_
 refine wl_val (ov_loadAt oc149 rfl hb_gx rfl) rfl rfl rfl ?_
 refine va rfl rfl ?_
 refine q_nil (k_then (wc_seq (wc_regionL ?_)))
 refine vm rfl rfl ?_
 refine vn rfl rfl ?_
 refine wl_val (ov_field0 (off := 0) fo39_0 rfl) rfl rfl rfl ?_
 refine wl_val (ov_loadAt oc34 rfl hb_gc rfl) rfl rfl rfl ?_
 refine wl_spell (d := 10) rfl (v' := (.int .i64 14)) (by rw [hop]) ?_
 refine q_nil (k_then (wc_block (wc_seq (wc_seq (wc_regionL ?_)))))
 refine ve rfl rfl rfl ?_
 refine va rfl rfl ?_
 refine q_nil (k_then ?_)
 refine wc_cond_f rfl ?_
 refine wc_seq (wc_regionL ?_)
 refine ve rfl rfl rfl ?_
 refine va rfl rfl ?_
 refine q_nil (k_then ?_)
 refine wc_cond_f rfl ?_
 refine wc_regionL ?_
 refine ve rfl rfl rfl ?_
 refine va rfl rfl ?_
 refine q_nil (k_then ?_)
 refine wc_cond_f rfl ?_
 refine wc_seq (wc_seq (wc_regionL ?_))
 refine ve rfl rfl rfl ?_
 refine va rfl rfl ?_
 refine q_nil (k_then ?_)
 refine wc_cond_f rfl ?_
 refine wc_seq (wc_regionL ?_)
 refine ve rfl rfl rfl ?_
 refine va rfl rfl ?_
 refine q_nil (k_then ?_)
 refine wc_cond_f rfl ?_
 refine wc_regionL ?_
 refine ve rfl rfl rfl ?_
 refine va rfl rfl ?_
 refine q_nil (k_then ?_)
 refine wc_cond_f rfl ?_
 refine wc_seq (wc_regionL ?_)
 refine ve rfl rfl rfl ?_
 refine va rfl rfl ?_
 refine q_nil (k_then ?_)
 refine wc_cond_f rfl ?_
 refine wc_seq (wc_regionL ?_)
 refine ve rfl rfl rfl ?_
 refine va rfl rfl ?_
 refine q_nil (k_then ?_)
 refine wc_cond_f rfl ?_
 refine wc_seq (wc_seq (wc_regionL ?_))
 refine ve rfl rfl rfl ?_
 refine va rfl rfl ?_
 refine q_nil (k_then ?_)
 refine wc_cond_f rfl ?_
 refine wc_regionL ?_
 refine ve rfl rfl rfl ?_
 refine va rfl rfl ?_
 refine q_nil (k_then ?_)
 refine wc_cond_f rfl ?_
 refine wc_seq (wc_regionL ?_)
 refine ve rfl rfl rfl ?_
 refine va rfl rfl ?_
 refine q_nil (k_then ?_)
 refine wc_cond_f rfl ?_
 refine wc_seq (wc_seq (wc_regionL ?_))
 refine ve rfl rfl rfl ?_
 refine va rfl rfl ?_
 refine q_nil (k_then ?_)
 refine wc_cond_f rfl ?_
 refine wc_regionL ?_
 refine ve rfl rfl rfl ?_
 refine va rfl rfl ?_
 refine q_nil (k_then ?_)
 refine wc_cond_f rfl ?_
 refine wc_seq (wc_seq (wc_regionL ?_))
 refine ve rfl rfl rfl ?_
 refine va rfl rfl ?_
 refine q_nil (k_then ?_)
 refine wc_cond_t rfl ?_
 refine q_skip (k_then ?_)
 refine wc_cond_t rfl ?_
 refine q_skip (k_block ?_)
 refine e_end0 rfl ?_
 have e : rfold op l = (⟨op, ([] : List UInt8), [], [], [], 0, 0, ([] : List UInt8), ([] : List UInt8), ([] : List UInt8)⟩, l, false) := by rw [hop]; simp only [rfold, nd_14, List.foldl_cons, List.foldl_nil, rst_k, rst_v, rst_t, rst_l, rst_n, rst_m, rst_g, rst_p, rst_c, cmd0]
 rw [e]
 dsimp only [cmdc]
 exact ⟨rfl, hb_gx, ⟨_, _, hb_gr, hr⟩, ⟨none, 0, none, 0, none, 0, hb_gc, Rd.nil _ _ _ _ _ _ (Nat.zero_le _), Rd.nil _ _ _ _ _ _ (Nat.zero_le _), Rd.nil _ _ _ _ _ _ (Nat.zero_le _)⟩, hK⟩
theorem partsr_15 (w : World) (gx gc gr lo hi : Nat) (A : Option Addr) (c : Nat) (l : List UInt8) (hb_gx : Blk w gx 153 [.pointer (some ⟨gc, 0, none⟩), .pointer (some ⟨gr, 0, none⟩), .slice none 0 0, .bool false]) (hb_gr : Blk w gr 178 [.bool true, .slice A l.length c]) (hr : RdB w lo hi A c l) (hgx : gx ≠ gr) (hxo : gx < lo ∨ hi ≤ gx) (hro : gr < lo ∨ hi ≤ gr) (hlen : l.length ≤ 140737488355328) (op : Int) (hb_gc : Blk w gc 39 (cmdc (cmd0 op) none 0 none 0 none 0)) (hcx : gc ≠ gx) (hcr : gc ≠ gr) (hco : gc < lo ∨ hi ≤ gc) (hhi : hi ≤ w.heap.size) (hop : op = 15) :
  Fn Tryz.prog 87 #[(.pointer (some ⟨gx, 0, none⟩))] w (fun v w' => v = .tuple #[] ∧ Blk w' gx 153 [.pointer (some ⟨gc, 0, none⟩), .pointer (some ⟨gr, 0, none⟩), .slice none 0 0, .bool (rfold op l).2.2] ∧ RdrAt w' gr lo hi (rfold op l).2.1 ∧ (∃ K ck V cv T ct, Blk w' gc 39 (cmdc (rfold op l).1 K ck V cv T ct) ∧ RdS w' w.heap.size w'.heap.size K ck (rfold op l).1.keys ∧ RdB w' w.heap.size w'.heap.size V cv (rfold op l).1.value ∧ RdS w' w.heap.size w'.heap.size T ct (rfold op l).1.tags) ∧ Kp [gx, gr, gc] w w')  := by
 have hK := Kp.refl [gx, gr, gc] w
 have hgxl := hb_gx.lt
 have hgrl := hb_gr.lt
 have hgcl := hb_gc.lt
 replace hb_gc : Blk w gc 39 [(.int .i64 op), (.string (strB ([] : List UInt8))), (.slice none 0 0), (.slice none 0 0), (.slice none 0 0), (.int .u64 0), (.int .u64 0), (.string (strB ([] : List UInt8))), (.string (strB ([] : List UInt8))), (.string (strB ([] : List UInt8)))] := hb_gc
 refine fn_enter (args := [(.pointer (some ⟨gx, 0, none⟩))]) Tryz.func87 rfl rfl rfl ?_
 show WC _ _ _ _ [(0, (.pointer (some ⟨gx, 0, none⟩)))] _
 refine wc_seq (wc_regionL ?_)
 refine vm rfl rfl ?_
 refine vn rfl rfl ?_
 refine wl_val (ov_field0 (off := 0) fo153_0 rfl) rfl rfl rfl ?_
 refine wl_val (ov_loadAt oc149 rfl hb_gx rfl) rfl rfl rfl ?_
 refine va rfl rfl ?_
 refine q_nil (k_then (wc_seq (wc_regionL ?_)))
 refine vm rfl rfl ?_
 refine vn rfl rfl ?_
 refine wl_val (ov_field0 (off := 0) fo39_0 rfl) rfl rfl rfl ?_
 refine wl_val (ov_loadAt oc34 rfl hb_gc rfl) rfl rfl rfl ?_
 refine wl_spell (d := 10) rfl (v' := (.int .i64 15)) (by rw [hop]) ?_
 refine q_nil (k_then (wc_block (wc_seq (wc_seq (wc_regionL ?_)))))
 refine ve rfl rfl rfl ?_
 refine va rfl rfl ?_
 refine q_nil (k_then ?_)
 refine wc_cond_f rfl ?_
 refine wc_seq (wc_regionL ?_)
 refine ve rfl rfl rfl ?_
 refine va rfl rfl ?_
 refine q_nil (k_then ?_)
 refine wc_cond_f rfl ?_
 refine wc_regionL ?_
 refine ve rfl rfl rfl ?_
 refine va rfl rfl ?_
 refine q_nil (k_then ?_)
 refine wc_cond_f rfl ?_
 refine wc_seq (wc_seq (wc_regionL ?_))
 refine ve rfl rfl rfl ?_
 refine va rfl rfl ?_
 refine q_nil (k_then ?_)
 refine wc_cond_f rfl ?_
 refine wc_seq (wc_regionL ?_)
 refine ve rfl rfl rfl ?_
 refine va rfl rfl ?_
 refine q_nil (k_then ?_)
 refine wc_cond_f rfl ?_
 refine wc_regionL ?_
 refine ve rfl rfl rfl ?_
 refine va rfl rfl ?_
 refine q_nil (k_then ?_)
 refine wc_cond_f rfl ?_
 refine wc_seq (wc_regionL ?_)
 refine ve rfl rfl rfl ?_
 refine va rfl rfl ?_
 refine q_nil (k_then ?_)
 refine wc_cond_f rfl ?_
 refine wc_seq (wc_regionL ?_)
 refine ve rfl rfl rfl ?_
 refine va rfl rfl ?_
 refine q_nil (k_then ?_)
 refine wc_cond_f rfl ?_
 refine wc_seq (wc_seq (wc_regionL ?_))
 refine ve rfl rfl rfl ?_
 refine va rfl rfl ?_
 refine q_nil (k_then ?_)
 refine wc_cond_f rfl ?_
 refine wc_regionL ?_
 refine ve rfl rfl rfl ?_
 refine va rfl rfl ?_
 refine q_nil (k_then ?_)
 refine wc_cond_f rfl ?_
 refine wc_seq (wc_regionL ?_)
 refine ve rfl rfl rfl ?_
 refine va rfl rfl ?_
 refine q_nil (k_then ?_)
 refine wc_cond_f rfl ?_
 refine wc_seq (wc_seq (wc_regionL ?_))
 refine ve rfl rfl rfl ?_
 refine va rfl rfl ?_
 refine q_nil (k_then ?_)
 refine wc_cond_f rfl ?_
 refine wc_regionL ?_
 refine ve rfl rfl rfl ?_
 refine va rfl rfl ?_
 refine q_nil (k_then ?_)
 refine wc_cond_f rfl ?_
 refine wc_seq (wc_seq (wc_regionL ?_))
 refine ve rfl rfl rfl ?_
 refine va rfl rfl ?_
 refine q_nil (k_then ?_)
 refine wc_cond_f rfl ?_
 refine wc_regionL ?_
 refine ve rfl rfl rfl ?_
 refine va rfl rfl ?_
 refine q_nil (k_then ?_)
 refine wc_cond_t rfl ?_
 refine q_skip (k_block ?_)
 refine e_end0 rfl ?_
 have e : rfold op l = (⟨op, ([] : List UInt8), [], [], [], 0, 0, ([] : List UInt8), ([] : List UInt8), ([] : List UInt8)⟩, l, false) := by rw [hop]; simp only [rfold, nd_15, List.foldl_cons, List.foldl_nil, rst_k, rst_v, rst_t, rst_l, rst_n, rst_m, rst_g, rst_p, rst_c, cmd0]
 rw [e]
 dsimp only [cmdc]
 exact ⟨rfl, hb_gx, ⟨_, _, hb_gr, hr⟩, ⟨none, 0, none, 0, none, 0, hb_gc, Rd.nil _ _ _ _ _ _ (Nat.zero_le _), Rd.nil _ _ _ _ _ _ (Nat.zero_le _), Rd.nil _ _ _ _ _ _ (Nat.zero_le _)⟩, hK⟩
theorem partsr_d (w : World) (gx gc gr lo hi : Nat) (A : Option Addr) (c : Nat) (l : List UInt8) (hb_gx : Blk w gx 153 [.pointer (some ⟨gc, 0, none⟩), .pointer (some ⟨gr, 0, none⟩), .slice none 0 0, .bool false]) (hb_gr : Blk w gr 178 [.bool true, .slice A l.length c]) (hr : RdB w lo hi A c l) (hgx : gx ≠ gr) (hxo : gx < lo ∨ hi ≤ gx) (hro : gr < lo ∨ hi ≤ gr) (hlen : l.length ≤ 140737488355328) (op : Int) (hb_gc : Blk w gc 39 (cmdc (cmd0 op) none 0 none 0 none 0)) (hcx : gc ≠ gx) (hcr : gc ≠ gr) (hco : gc < lo ∨ hi ≤ gc) (hhi : hi ≤ w.heap.size) (hop : op < 1 ∨ 15 < op) :
  Fn Tryz.prog 87 #[(.pointer (some ⟨gx, 0, none⟩))] w (fun v w' => v = .tuple #[] ∧ Blk w' gx 153 [.pointer (some ⟨gc, 0, none⟩), .pointer (some ⟨gr, 0, none⟩), .slice none 0 0, .bool true] ∧ RdrAt w' gr lo hi l ∧ Kp [gx, gr, gc] w w')  := by
 have hK := Kp.refl [gx, gr, gc] w
 have hgxl := hb_gx.lt
 have hgrl := hb_gr.lt
 have hgcl := hb_gc.lt
 replace hb_gc : Blk w gc 39 [(.int .i64 op), (.string (strB ([] : List UInt8))), (.slice none 0 0), (.slice none 0 0), (.slice none 0 0), (.int .u64 0), (.int .u64 0), (.string (strB ([] : List UInt8))), (.string (strB ([] : List UInt8))), (.string (strB ([] : List UInt8)))] := hb_gc
 refine fn_enter (args := [(.pointer (some ⟨gx, 0, none⟩))]) Tryz.func87 rfl rfl rfl ?_
 show WC _ _ _ _ [(0, (.pointer (some ⟨gx, 0, none⟩)))] _
 refine wc_seq (wc_regionL ?_)
 refine vm rfl rfl ?_
 refine vn rfl rfl ?_
 refine wl_val (ov_field0 (off := 0) fo153_0 rfl) rfl rfl rfl ?_
 refine wl_val (ov_loadAt oc149 rfl hb_gx rfl) rfl rfl rfl ?_
 refine va rfl rfl ?_
 refine q_nil (k_then (wc_seq (wc_regionL ?_)))
 refine vm rfl rfl ?_
 refine vn rfl rfl ?_
 refine wl_val (ov_field0 (off := 0) fo39_0 rfl) rfl rfl rfl ?_
 refine wl_val (ov_loadAt oc34 rfl hb_gc rfl) rfl rfl rfl ?_
 refine q_nil (k_then (wc_block (wc_seq (wc_seq (wc_regionL ?_)))))
 refine ve rfl rfl rfl ?_
 refine wl_spell (d := 15) rfl (bf (by omega)) ?_
 refine va rfl rfl ?_
 refine q_nil (k_then ?_)
 refine wc_cond_f rfl ?_
 refine wc_seq (wc_regionL ?_)
 refine ve rfl rfl rfl ?_
 refine wl_spell (d := 16) rfl (bf (by omega)) ?_
 refine va rfl rfl ?_
 refine q_nil (k_then ?_)
 refine wc_cond_f rfl ?_
 refine wc_regionL ?_
 refine ve rfl rfl rfl ?_
 refine wl_spell (d := 17) rfl (bf (by omega)) ?_
 refine va rfl rfl ?_
 refine q_nil (k_then ?_)
 refine wc_cond_f rfl ?_
 refine wc_seq (wc_seq (wc_regionL ?_))
 refine ve rfl rfl rfl ?_
 refine wl_spell (d := 43) rfl (bf (by omega)) ?_
 refine va rfl rfl ?_
 refine q_nil (k_then ?_)
 refine wc_cond_f rfl ?_
 refine wc_seq (wc_regionL ?_)
 refine ve rfl rfl rfl ?_
 refine wl_spell (d := 44) rfl (bf (by omega)) ?_
 refine va rfl rfl ?_
 refine q_nil (k_then ?_)
 refine wc_cond_f rfl ?_
 refine wc_regionL ?_
 refine ve rfl rfl rfl ?_
 refine wl_spell (d := 45) rfl (bf (by omega)) ?_
 refine va rfl rfl ?_
 refine q_nil (k_then ?_)
 refine wc_cond_f rfl ?_
 refine wc_seq (wc_regionL ?_)
 refine ve rfl rfl rfl ?_
 refine wl_spell (d := 52) rfl (bf (by omega)) ?_
 refine va rfl rfl ?_
 refine q_nil (k_then ?_)
 refine wc_cond_f rfl ?_
 refine wc_seq (wc_regionL ?_)
 refine ve rfl rfl rfl ?_
 refine wl_spell (d := 59) rfl (bf (by omega)) ?_
 refine va rfl rfl ?_
 refine q_nil (k_then ?_)
 refine wc_cond_f rfl ?_
 refine wc_seq (wc_seq (wc_regionL ?_))
 refine ve rfl rfl rfl ?_
 refine wl_spell (d := 68) rfl (bf (by omega)) ?_
 refine va rfl rfl ?_
 refine q_nil (k_then ?_)
 refine wc_cond_f rfl ?_
 refine wc_regionL ?_
 refine ve rfl rfl rfl ?_
 refine wl_spell (d := 69) rfl (bf (by omega)) ?_
 refine va rfl rfl ?_
 refine q_nil (k_then ?_)
 refine wc_cond_f rfl ?_
 refine wc_seq (wc_regionL ?_)
 refine ve rfl rfl rfl ?_
 refine wl_spell (d := 76) rfl (bf (by omega)) ?_
 refine va rfl rfl ?_
 refine q_nil (k_then ?_)
 refine wc_cond_f rfl ?_
 refine wc_seq (wc_seq (wc_regionL ?_))
 refine ve rfl rfl rfl ?_
 refine wl_spell (d := 83) rfl (bf (by omega)) ?_
 refine va rfl rfl ?_
 refine q_nil (k_then ?_)
 refine wc_cond_f rfl ?_
 refine wc_regionL ?_
 refine ve rfl rfl rfl ?_
 refine wl_spell (d := 84) rfl (bf (by omega)) ?_
 refine va rfl rfl ?_
 refine q_nil (k_then ?_)
 refine wc_cond_f rfl ?_
 refine wc_seq (wc_seq (wc_regionL ?_))
 refine ve rfl rfl rfl ?_
 refine wl_spell (d := 96) rfl (bf (by omega)) ?_
 refine va rfl rfl ?_
 refine q_nil (k_then ?_)
 refine wc_cond_f rfl ?_
 refine wc_regionL ?_
 refine ve rfl rfl rfl ?_
 refine wl_spell (d := 97) rfl (bf (by omega)) ?_
 refine va rfl rfl ?_
 refine q_nil (k_then ?_)
 refine wc_cond_f rfl ?_
 refine wc_regionL ?_
 refine vm rfl rfl ?_
 refine vn rfl rfl ?_
 refine wl_val (ov_field0 (off := 3) fo153_3 rfl) rfl rfl rfl ?_
 refine wl_step0 (or_storeAt (cs' := [(.pointer (some ⟨gc, 0, none⟩)), (.pointer (some ⟨gr, 0, none⟩)), (.slice none 0 0), (.bool true)]) sz4 rfl rfl rfl hb_gx rfl rfl) rfl rfl ?_
 rintro _ w1 ⟨hN1, hg1⟩
 have hz_hg1 := hg1.size
 replace hb_gr := hb_gr.gr hg1 (by intro e; cases e; omega)
 replace hr := hr.gr hg1 (fun _ e => by cases e; omega)
 replace hK := Kp.tg hK hg1 (by first | (left; simp; done) | (right; omega))
 replace hb_gx := hN1
 refine q_nil (k_block ?_)
 refine e_end0 rfl ?_
 exact ⟨rfl, hb_gx, ⟨_, _, hb_gr, hr⟩, hK⟩
theorem partsr (w : World) (gx gc gr lo hi : Nat) (A : Option Addr) (c : Nat) (l : List UInt8) (hb_gx : Blk w gx 153 [.pointer (some ⟨gc, 0, none⟩), .pointer (some ⟨gr, 0, none⟩), .slice none 0 0, .bool false]) (hb_gr : Blk w gr 178 [.bool true, .slice A l.length c]) (hr : RdB w lo hi A c l) (hgx : gx ≠ gr) (hxo : gx < lo ∨ hi ≤ gx) (hro : gr < lo ∨ hi ≤ gr) (hlen : l.length ≤ 140737488355328) (op : Int) (hb_gc : Blk w gc 39 (cmdc (cmd0 op) none 0 none 0 none 0)) (hcx : gc ≠ gx) (hcr : gc ≠ gr) (hco : gc < lo ∨ hi ≤ gc) (hhi : hi ≤ w.heap.size) (h1 : 1 ≤ op) (h2 : op ≤ 15) :
  Fn Tryz.prog 87 #[.pointer (some ⟨gx, 0, none⟩)] w (fun v w' => v = .tuple #[] ∧ Blk w' gx 153 [.pointer (some ⟨gc, 0, none⟩), .pointer (some ⟨gr, 0, none⟩), .slice none 0 0, .bool (rfold op l).2.2] ∧ RdrAt w' gr lo hi (rfold op l).2.1 ∧ (∃ K ck V cv T ct, Blk w' gc 39 (cmdc (rfold op l).1 K ck V cv T ct) ∧ RdS w' w.heap.size w'.heap.size K ck (rfold op l).1.keys ∧ RdB w' w.heap.size w'.heap.size V cv (rfold op l).1.value ∧ RdS w' w.heap.size w'.heap.size T ct (rfold op l).1.tags) ∧ Kp [gx, gr, gc] w w') := by
 rcases (show op = 1 ∨ op = 2 ∨ op = 3 ∨ op = 4 ∨ op = 5 ∨ op = 6 ∨ op = 7 ∨ op = 8 ∨ op = 9 ∨ op = 10 ∨ op = 11 ∨ op = 12 ∨ op = 13 ∨ op = 14 ∨ op = 15 by omega) with h | h | h | h | h | h | h | h | h | h | h | h | h | h | h
 ·exact partsr_1 w gx gc gr lo hi A c l hb_gx hb_gr hr hgx hxo hro hlen op hb_gc hcx hcr hco hhi h
 ·exact partsr_2 w gx gc gr lo hi A c l hb_gx hb_gr hr hgx hxo hro hlen op hb_gc hcx hcr hco hhi h
 ·exact partsr_3 w gx gc gr lo hi A c l hb_gx hb_gr hr hgx hxo hro hlen op hb_gc hcx hcr hco hhi h
 ·exact partsr_4 w gx gc gr lo hi A c l hb_gx hb_gr hr hgx hxo hro hlen op hb_gc hcx hcr hco hhi h
 ·exact partsr_5 w gx gc gr lo hi A c l hb_gx hb_gr hr hgx hxo hro hlen op hb_gc hcx hcr hco hhi h
 ·exact partsr_6 w gx gc gr lo hi A c l hb_gx hb_gr hr hgx hxo hro hlen op hb_gc hcx hcr hco hhi h
 ·exact partsr_7 w gx gc gr lo hi A c l hb_gx hb_gr hr hgx hxo hro hlen op hb_gc hcx hcr hco hhi h
 ·exact partsr_8 w gx gc gr lo hi A c l hb_gx hb_gr hr hgx hxo hro hlen op hb_gc hcx hcr hco hhi h
 ·exact partsr_9 w gx gc gr lo hi A c l hb_gx hb_gr hr hgx hxo hro hlen op hb_gc hcx hcr hco hhi h
 ·exact partsr_10 w gx gc gr lo hi A c l hb_gx hb_gr hr hgx hxo hro hlen op hb_gc hcx hcr hco hhi h
 ·exact partsr_11 w gx gc gr lo hi A c l hb_gx hb_gr hr hgx hxo hro hlen op hb_gc hcx hcr hco hhi h
 ·exact partsr_12 w gx gc gr lo hi A c l hb_gx hb_gr hr hgx hxo hro hlen op hb_gc hcx hcr hco hhi h
 ·exact partsr_13 w gx gc gr lo hi A c l hb_gx hb_gr hr hgx hxo hro hlen op hb_gc hcx hcr hco hhi h
 ·exact partsr_14 w gx gc gr lo hi A c l hb_gx hb_gr hr hgx hxo hro hlen op hb_gc hcx hcr hco hhi h
 ·exact partsr_15 w gx gc gr lo hi A c l hb_gx hb_gr hr hgx hxo hro hlen op hb_gc hcx hcr hco hhi h
end Go.Proofs.YtiighkbehiddkaaGreat