/-
 The reading of numbers and parts.
-/
import Derived.Test.YtiighkbehiddkaaGreatQa
namespace Go.Proofs.YtiighkbehiddkaaGreat
open Go.RowKit
set_option linter.unusedVariables false
set_option maxRecDepth 4000
theorem cl127 : callable Tryz.prog 127 = true := by kernel_rfl
theorem cl129 : callable Tryz.prog 129 = true := by kernel_rfl
theorem fo153_1 : fieldOff Tryz.prog 153 1 = some 1 := by kernel_rfl
theorem fo153_3 : fieldOff Tryz.prog 153 3 = some 3 := by kernel_rfl
theorem oc150 : oneCellTy Tryz.prog 150 = true := by kernel_rfl
theorem sl35 : SliceTy Tryz.prog 35 9 1 16 (.string (strB [])) := sliceTy_mk Tryz.underlying35 (by kernel_rfl) rfl (by decide)
theorem sz36 : (Tryz.prog.info? 36).map (·.size) = some 1 := by kernel_rfl
theorem sz4 : (Tryz.prog.info? 4).map (·.size) = some 1 := by kernel_rfl
theorem sz9 : (Tryz.prog.info? 9).map (·.size) = some 1 := by kernel_rfl
/-- What is read: a number, its rest, whether it is bad; a part; strings; a list of them. -/
def numV (l : List UInt8) : Nat := (vget l).1
def numR (l : List UInt8) : List UInt8 := l.drop (vget l).2.1
def numB (l : List UInt8) : Bool := decide (((vget l).2.2 : Int) ≠ 0)
def partV (l : List UInt8) : List UInt8 := (vpart l 65536).1
def partR (l : List UInt8) : List UInt8 := l.drop (vpart l 65536).2.1
def partB (al : List UInt8 → Bool) (l : List UInt8) : Bool := decide (((vpart l 65536).2.2 : Int) ≠ 0) || !al (partV l)
def rS (al : List UInt8 → Bool) : Nat → List UInt8 → List (List UInt8) × List UInt8 × Bool
 | 0, l => ([], l, false)
 | n + 1, l => ((rS al n l).1 ++ [partV (rS al n l).2.1], partR (rS al n l).2.1, (rS al n l).2.2 || partB al (rS al n l).2.1)
def rlV (a b : Nat) (l : List UInt8) : List (List UInt8) := if numV l < a ∨ b < numV l then [] else (rS kv (numV l) (numR l)).1
def rlR (a b : Nat) (l : List UInt8) : List UInt8 := if numV l < a ∨ b < numV l then numR l else (rS kv (numV l) (numR l)).2.1
def rlB (a b : Nat) (al : List UInt8 → Bool) (l : List UInt8) : Bool := if numV l < a ∨ b < numV l then true else numB l || (rS al (numV l) (numR l)).2.2
theorem numR_len (l : List UInt8) : (numR l).length ≤ l.length := by unfold numR; rw [List.length_drop]; omega
theorem partR_len (l : List UInt8) : (partR l).length ≤ l.length := by unfold partR; rw [List.length_drop]; omega
theorem partV_len (l : List UInt8) : (partV l).length ≤ l.length := (vpart_props l 65536).1
theorem numV_lt (l : List UInt8) : numV l < 18446744073709551616 := vget_lt l
theorem rS_len (al : List UInt8 → Bool) (l : List UInt8) : ∀ n, (rS al n l).1.length = n ∧ (rS al n l).2.1.length ≤ l.length
 | 0 => ⟨rfl, Nat.le_refl _⟩
 | n + 1 => by
  have h := rS_len al l n
  have h2 := partR_len (rS al n l).2.1
  exact ⟨by rw [rS, List.length_append, h.1]; rfl, by show (partR _).length ≤ _; omega⟩
theorem rS_al (al al' : List UInt8 → Bool) (l : List UInt8) : ∀ n, (rS al n l).1 = (rS al' n l).1 ∧ (rS al n l).2.1 = (rS al' n l).2.1
 | 0 => ⟨rfl, rfl⟩
 | n + 1 => by have h := rS_al al al' l n; simp only [rS, h.1, h.2, and_self]
theorem rlR_len (a b : Nat) (l : List UInt8) : (rlR a b l).length ≤ l.length := by
 have h := numR_len l
 unfold rlR
 split
 ·exact h
 ·have := (rS_len kv (numR l) (numV l)).2; omega
theorem rl_bad {a b : Nat} {al : List UInt8 → Bool} {l : List UInt8} (h : numV l < a ∨ b < numV l) : rlV a b l = [] ∧ rlR a b l = numR l ∧ rlB a b al l = true := ⟨if_pos h, if_pos h, if_pos h⟩
theorem rl_ok {a b : Nat} (al : List UInt8 → Bool) {l : List UInt8} (h : ¬ (numV l < a ∨ b < numV l)) : rlV a b l = (rS al (numV l) (numR l)).1 ∧ rlR a b l = (rS al (numV l) (numR l)).2.1 ∧ rlB a b al l = (numB l || (rS al (numV l) (numR l)).2.2) :=
 ⟨(if_neg h).trans (rS_al _ _ _ _).1, (if_neg h).trans (rS_al _ _ _ _).2, if_neg h⟩
theorem rlV_len (a b : Nat) (l : List UInt8) : (rlV a b l).length ≤ b := by
 unfold rlV
 split
 ·exact Nat.zero_le _
 ·rw [(rS_len kv _ _).1]; omega
/-- The rows of a string's list that is being read. -/
def rows (al : List UInt8 → Bool) (n i : Nat) (l : List UInt8) : List Value := (rS al i l).1.flatMap strc ++ List.replicate (n - i) (.string (strB []))
theorem flat_strc (xs : List (List UInt8)) : xs.flatMap strc = xs.map fun s => .string (strB s) := by
 induction xs with
 | nil => rfl
 | cons a r ih => rw [List.flatMap_cons, ih]; rfl
theorem rows_len (al : List UInt8 → Bool) {n i : Nat} (l : List UInt8) (h : i ≤ n) : (rows al n i l).length = n := by
 unfold rows; rw [List.length_append, flat_strc, List.length_map, (rS_len al l i).1, List.length_replicate]; omega
theorem rows_set (al : List UInt8 → Bool) {n i : Nat} (l : List UInt8) (h : i < n) : (rows al n i l).set i (.string (strB (partV (rS al i l).2.1))) = rows al n (i + 1) l := by
 unfold rows
 have hl : ((rS al i l).1.flatMap strc).length = i := by rw [flat_strc, List.length_map, (rS_len al l i).1]
 rw [List.set_append_right _ _ (by omega), hl, Nat.sub_self, show n - i = (n - (i + 1)) + 1 by omega, List.replicate_succ, List.set_cons_zero]
 show _ = ((rS al i l).1 ++ [partV (rS al i l).2.1]).flatMap strc ++ _
 rw [List.flatMap_append, List.append_assoc]
 rfl
theorem rows_0 (al : List UInt8 → Bool) (n : Nat) (l : List UInt8) : rows al n 0 l = List.replicate n (.string (strB [])) := by simp [rows, rS]
theorem rows_n (al : List UInt8 → Bool) (n : Nat) (l : List UInt8) : rows al n n l = (rS al n l).1.flatMap strc := by simp [rows]
theorem blt_of {k n : Nat} (h : k < n) : Nat.blt k n = true := Nat.blt_eq.mpr h
theorem set_at {cs : List Value} {k : Nat} {v : Value} (h : k < cs.length) : (cs.set k v)[k]? = some v := by rw [List.getElem?_set_self h]
/-- What is left of a reader. -/
def RdrAt (w : World) (g lo hi : Nat) (l : List UInt8) : Prop := ∃ A c, Blk w g 178 [.bool true, .slice A l.length c] ∧ RdB w lo hi A c l
theorem Blk.rdL {w : World} {g n lo size : Nat} {t : TypeId} {cs : List Value} (h : Blk w g t cs) (hl : cs.length = n * size) (hn : n ≤ maxLen) (hg : lo ≤ g) : Rd w lo w.heap.size size (some ⟨g, 0, none⟩) n n cs :=
 ⟨Nat.le_refl _, hn, hl, fun _ => ⟨_, rfl, hg, h.lt, fun j u hu => by rw [Addr.add_lit, Nat.zero_add, h.cell]; exact hu⟩⟩
theorem numr_t (w : World) (gx gc gr lo hi : Nat) (A : Option Addr) (c : Nat) (l : List UInt8) (hb_gx : Blk w gx 153 [.pointer (some ⟨gc, 0, none⟩), .pointer (some ⟨gr, 0, none⟩), .slice none 0 0, .bool true]) (hb_gr : Blk w gr 178 [.bool true, .slice A l.length c]) (hr : RdB w lo hi A c l) (hgx : gx ≠ gr) (hxo : gx < lo ∨ hi ≤ gx) (hro : gr < lo ∨ hi ≤ gr) (hlen : l.length ≤ 140737488355328) (gt k : Nat) (tt : TypeId) (cs : List Value) (hb_gt : Blk w gt tt cs) (hk : k < cs.length) (htx : gt ≠ gx) (htr : gt ≠ gr) (hto : gt < lo ∨ hi ≤ gt) :
  Fn Tryz.prog 109 #[(.pointer (some ⟨gx, 0, none⟩)), (.pointer (some ⟨gt, k, none⟩))] w (fun v w' => v = .tuple #[] ∧ Blk w' gx 153 [.pointer (some ⟨gc, 0, none⟩), .pointer (some ⟨gr, 0, none⟩), .slice none 0 0, .bool (true || numB l)] ∧ RdrAt w' gr lo hi (numR l) ∧ Blk w' gt tt (cs.set k (.int .u64 (numV l : Int))) ∧ Kp [gx, gr, gt] w w')  := by
 have hK := Kp.refl [gx, gr, gt] w
 have hgxl := hb_gx.lt
 have hgrl := hb_gr.lt
 have hgtl := hb_gt.lt
 refine fn_enter (args := [(.pointer (some ⟨gx, 0, none⟩)), (.pointer (some ⟨gt, k, none⟩))]) Tryz.func109 rfl rfl rfl ?_
 show WC _ _ _ _ [(0, (.pointer (some ⟨gx, 0, none⟩))), (1, (.pointer (some ⟨gt, k, none⟩)))] _
 refine wc_seq (wc_seq (wc_regionL ?_))
 refine vm rfl rfl ?_
 refine vn rfl rfl ?_
 refine wl_val (ov_field0 (off := 1) fo153_1 rfl) rfl rfl rfl ?_
 refine wl_val (ov_loadAt oc150 rfl hb_gx rfl) rfl rfl rfl ?_
 refine wl_val (ov_nilptr Tryz.underlying150 rfl) rfl rfl rfl ?_
 refine q_nil (k_then ?_)
 refine wc_cond_f rfl ?_
 refine q_skip (k_then (wc_seq (wc_regionL ?_)))
 refine vm rfl rfl ?_
 refine vn rfl rfl ?_
 refine wl_val (ov_field0 (off := 1) fo153_1 rfl) rfl rfl rfl ?_
 refine wl_val (ov_loadAt oc150 rfl hb_gx rfl) rfl rfl rfl ?_
 refine wl_step (or_call0 cl129 rfl rfl (number_ok _ gr lo hi A c l hb_gr hr hro hlen)) rfl rfl rfl ?_
 rintro v w1 ⟨rfl, hgr27, A127, c127, hQ27, hr127⟩
 have hz_hgr27 := hgr27.size
 replace hb_gx := hb_gx.gr hgr27 (by intro e; cases e; omega)
 replace hK := Kp.tg hK hgr27 (by first | (left; simp; done) | (right; omega))
 replace hb_gt := hb_gt.gr hgr27 (by intro e; cases e; omega)
 have hb_gr := hQ27
 refine vm rfl rfl ?_
 iterate 2 refine vx rfl rfl rfl ?_
 iterate 2 refine va rfl rfl ?_
 refine q_nil (k_then (wc_seq (wc_regionL ?_)))
 iterate 2 refine vm rfl rfl ?_
 refine vn rfl rfl ?_
 refine wl_val (ov_field0 (off := 3) fo153_3 rfl) rfl rfl rfl ?_
 refine wl_val (ov_loadAt oc4 rfl hb_gx rfl) rfl rfl rfl ?_
 refine vm rfl rfl ?_
 iterate 2 refine wl_gskip rfl rfl rfl rfl rfl rfl ?_
 refine wl_val (ov_pick_t rfl rfl) rfl rfl rfl ?_
 refine vn rfl rfl ?_
 refine wl_val (ov_field0 (off := 3) fo153_3 rfl) rfl rfl rfl ?_
 refine wl_step0 (or_storeAt (cs' := [(.pointer (some ⟨gc, 0, none⟩)), (.pointer (some ⟨gr, 0, none⟩)), (.slice none 0 0), (.bool true)]) sz4 rfl rfl rfl hb_gx rfl rfl) rfl rfl ?_
 rintro _ w2 ⟨hN2, hg2⟩
 have hz_hg2 := hg2.size
 replace hK := Kp.tg hK hg2 (by first | (left; simp; done) | (right; omega))
 replace hb_gt := hb_gt.gr hg2 (by intro e; cases e; omega)
 replace hb_gr := hb_gr.gr hg2 (by intro e; cases e; omega)
 replace hr127 := hr127.gr hg2 (fun _ e => by cases e; omega)
 replace hb_gx := hN2
 refine q_nil (k_then (wc_regionL ?_))
 iterate 2 refine vm rfl rfl ?_
 refine vn rfl rfl ?_
 refine wl_step0 (or_storeAt (cs' := cs.set k (.int .u64 ((vget l).1 : Int))) sz36 rfl rfl rfl hb_gt (blt_of hk) rfl) rfl rfl ?_
 rintro _ w3 ⟨hNT, hgT⟩
 have hz_hgT := hgT.size
 replace hb_gx := hb_gx.gr hgT (by intro e; cases e; omega)
 replace hK := Kp.tg hK hgT (by first | (left; simp; done) | (right; omega))
 replace hb_gr := hb_gr.gr hgT (by intro e; cases e; omega)
 replace hr127 := hr127.gr hgT (fun _ e => by cases e; omega)
 replace hb_gt := hNT
 refine q_nil ?_
 refine e_end0 rfl ?_
 exact ⟨rfl, hb_gx, ⟨_, _, hb_gr, hr127⟩, hb_gt, hK⟩
theorem numr_f (w : World) (gx gc gr lo hi : Nat) (A : Option Addr) (c : Nat) (l : List UInt8) (hb_gx : Blk w gx 153 [.pointer (some ⟨gc, 0, none⟩), .pointer (some ⟨gr, 0, none⟩), .slice none 0 0, .bool false]) (hb_gr : Blk w gr 178 [.bool true, .slice A l.length c]) (hr : RdB w lo hi A c l) (hgx : gx ≠ gr) (hxo : gx < lo ∨ hi ≤ gx) (hro : gr < lo ∨ hi ≤ gr) (hlen : l.length ≤ 140737488355328) (gt k : Nat) (tt : TypeId) (cs : List Value) (hb_gt : Blk w gt tt cs) (hk : k < cs.length) (htx : gt ≠ gx) (htr : gt ≠ gr) (hto : gt < lo ∨ hi ≤ gt) :
  Fn Tryz.prog 109 #[(.pointer (some ⟨gx, 0, none⟩)), (.pointer (some ⟨gt, k, none⟩))] w (fun v w' => v = .tuple #[] ∧ Blk w' gx 153 [.pointer (some ⟨gc, 0, none⟩), .pointer (some ⟨gr, 0, none⟩), .slice none 0 0, .bool (false || numB l)] ∧ RdrAt w' gr lo hi (numR l) ∧ Blk w' gt tt (cs.set k (.int .u64 (numV l : Int))) ∧ Kp [gx, gr, gt] w w')  := by
 have hK := Kp.refl [gx, gr, gt] w
 have hgxl := hb_gx.lt
 have hgrl := hb_gr.lt
 have hgtl := hb_gt.lt
 refine fn_enter (args := [(.pointer (some ⟨gx, 0, none⟩)), (.pointer (some ⟨gt, k, none⟩))]) Tryz.func109 rfl rfl rfl ?_
 show WC _ _ _ _ [(0, (.pointer (some ⟨gx, 0, none⟩))), (1, (.pointer (some ⟨gt, k, none⟩)))] _
 refine wc_seq (wc_seq (wc_regionL ?_))
 refine vm rfl rfl ?_
 refine vn rfl rfl ?_
 refine wl_val (ov_field0 (off := 1) fo153_1 rfl) rfl rfl rfl ?_
 refine wl_val (ov_loadAt oc150 rfl hb_gx rfl) rfl rfl rfl ?_
 refine wl_val (ov_nilptr Tryz.underlying150 rfl) rfl rfl rfl ?_
 refine q_nil (k_then ?_)
 refine wc_cond_f rfl ?_
 refine q_skip (k_then (wc_seq (wc_regionL ?_)))
 refine vm rfl rfl ?_
 refine vn rfl rfl ?_
 refine wl_val (ov_field0 (off := 1) fo153_1 rfl) rfl rfl rfl ?_
 refine wl_val (ov_loadAt oc150 rfl hb_gx rfl) rfl rfl rfl ?_
 refine wl_step (or_call0 cl129 rfl rfl (number_ok _ gr lo hi A c l hb_gr hr hro hlen)) rfl rfl rfl ?_
 rintro v w1 ⟨rfl, hgr27, A127, c127, hQ27, hr127⟩
 have hz_hgr27 := hgr27.size
 replace hb_gx := hb_gx.gr hgr27 (by intro e; cases e; omega)
 replace hK := Kp.tg hK hgr27 (by first | (left; simp; done) | (right; omega))
 replace hb_gt := hb_gt.gr hgr27 (by intro e; cases e; omega)
 have hb_gr := hQ27
 refine vm rfl rfl ?_
 iterate 2 refine vx rfl rfl rfl ?_
 iterate 2 refine va rfl rfl ?_
 refine q_nil (k_then (wc_seq (wc_regionL ?_)))
 iterate 2 refine vm rfl rfl ?_
 refine vn rfl rfl ?_
 refine wl_val (ov_field0 (off := 3) fo153_3 rfl) rfl rfl rfl ?_
 refine wl_val (ov_loadAt oc4 rfl hb_gx rfl) rfl rfl rfl ?_
 refine vm rfl rfl ?_
 refine wl_gval (ov_move rfl) rfl rfl rfl rfl rfl ?_
 refine wl_gval (ov_neq rfl rfl) rfl rfl rfl rfl rfl ?_
 refine wl_val (ov_pick_f rfl rfl) rfl rfl rfl ?_
 refine vn rfl rfl ?_
 refine wl_val (ov_field0 (off := 3) fo153_3 rfl) rfl rfl rfl ?_
 refine wl_step0 (or_storeAt (cs' := [(.pointer (some ⟨gc, 0, none⟩)), (.pointer (some ⟨gr, 0, none⟩)), (.slice none 0 0), (.bool (decide ((↑(vget l).2.2 : Int) ≠ 0)))]) sz4 rfl rfl rfl hb_gx rfl rfl) rfl rfl ?_
 rintro _ w2 ⟨hN2, hg2⟩
 have hz_hg2 := hg2.size
 replace hK := Kp.tg hK hg2 (by first | (left; simp; done) | (right; omega))
 replace hb_gt := hb_gt.gr hg2 (by intro e; cases e; omega)
 replace hb_gr := hb_gr.gr hg2 (by intro e; cases e; omega)
 replace hr127 := hr127.gr hg2 (fun _ e => by cases e; omega)
 replace hb_gx := hN2
 refine q_nil (k_then (wc_regionL ?_))
 iterate 2 refine vm rfl rfl ?_
 refine vn rfl rfl ?_
 refine wl_step0 (or_storeAt (cs' := cs.set k (.int .u64 ((vget l).1 : Int))) sz36 rfl rfl rfl hb_gt (blt_of hk) rfl) rfl rfl ?_
 rintro _ w3 ⟨hNT, hgT⟩
 have hz_hgT := hgT.size
 replace hb_gx := hb_gx.gr hgT (by intro e; cases e; omega)
 replace hK := Kp.tg hK hgT (by first | (left; simp; done) | (right; omega))
 replace hb_gr := hb_gr.gr hgT (by intro e; cases e; omega)
 replace hr127 := hr127.gr hgT (fun _ e => by cases e; omega)
 replace hb_gt := hNT
 refine q_nil ?_
 refine e_end0 rfl ?_
 exact ⟨rfl, hb_gx, ⟨_, _, hb_gr, hr127⟩, hb_gt, hK⟩
theorem numr (w : World) (gx gc gr lo hi : Nat) (A : Option Addr) (c : Nat) (l : List UInt8) (bad : Bool) (hb_gx : Blk w gx 153 [.pointer (some ⟨gc, 0, none⟩), .pointer (some ⟨gr, 0, none⟩), .slice none 0 0, .bool bad]) (hb_gr : Blk w gr 178 [.bool true, .slice A l.length c]) (hr : RdB w lo hi A c l) (hgx : gx ≠ gr) (hxo : gx < lo ∨ hi ≤ gx) (hro : gr < lo ∨ hi ≤ gr) (hlen : l.length ≤ 140737488355328) (gt k : Nat) (tt : TypeId) (cs : List Value) (hb_gt : Blk w gt tt cs) (hk : k < cs.length) (htx : gt ≠ gx) (htr : gt ≠ gr) (hto : gt < lo ∨ hi ≤ gt) :
  Fn Tryz.prog 109 #[.pointer (some ⟨gx, 0, none⟩), .pointer (some ⟨gt, k, none⟩)] w (fun v w' => v = .tuple #[] ∧ Blk w' gx 153 [.pointer (some ⟨gc, 0, none⟩), .pointer (some ⟨gr, 0, none⟩), .slice none 0 0, .bool (bad || numB l)] ∧ RdrAt w' gr lo hi (numR l) ∧ Blk w' gt tt (cs.set k (.int .u64 (numV l : Int))) ∧ Kp [gx, gr, gt] w w') := by
 cases bad with
 | true => exact numr_t w gx gc gr lo hi A c l hb_gx hb_gr hr hgx hxo hro hlen gt k tt cs hb_gt hk htx htr hto
 | false => exact numr_f w gx gc gr lo hi A c l hb_gx hb_gr hr hgx hxo hro hlen gt k tt cs hb_gt hk htx htr hto
theorem partr_t (w : World) (gx gc gr lo hi : Nat) (A : Option Addr) (c : Nat) (l : List UInt8) (hb_gx : Blk w gx 153 [.pointer (some ⟨gc, 0, none⟩), .pointer (some ⟨gr, 0, none⟩), .slice none 0 0, .bool true]) (hb_gr : Blk w gr 178 [.bool true, .slice A l.length c]) (hr : RdB w lo hi A c l) (hgx : gx ≠ gr) (hxo : gx < lo ∨ hi ≤ gx) (hro : gr < lo ∨ hi ≤ gr) (hlen : l.length ≤ 140737488355328) (gt k : Nat) (tt : TypeId) (cs : List Value) (hb_gt : Blk w gt tt cs) (hk : k < cs.length) (htx : gt ≠ gx) (htr : gt ≠ gr) (hto : gt < lo ∨ hi ≤ gt) (al : List UInt8 → Bool) (f : FuncId) (hcl : callable Tryz.prog f = true) (hal : ∀ w s, Fn Tryz.prog f #[.string (strB s)] w (fun v w' => v = .bool (al s) ∧ w' = w)) :
  Fn Tryz.prog 103 #[(.pointer (some ⟨gx, 0, none⟩)), (.pointer (some ⟨gt, k, none⟩)), (.func (.func f) #[] #[])] w (fun v w' => v = .tuple #[] ∧ Blk w' gx 153 [.pointer (some ⟨gc, 0, none⟩), .pointer (some ⟨gr, 0, none⟩), .slice none 0 0, .bool true] ∧ RdrAt w' gr lo hi (partR l) ∧ Blk w' gt tt (cs.set k (.string (strB (partV l)))) ∧ Kp [gx, gr, gt] w w')  := by
 have hK := Kp.refl [gx, gr, gt] w
 have hgxl := hb_gx.lt
 have hgrl := hb_gr.lt
 have hgtl := hb_gt.lt
 refine fn_enter (args := [(.pointer (some ⟨gx, 0, none⟩)), (.pointer (some ⟨gt, k, none⟩)), (.func (.func f) #[] #[])]) Tryz.func103 rfl rfl rfl ?_
 show WC _ _ _ _ [(0, (.pointer (some ⟨gx, 0, none⟩))), (1, (.pointer (some ⟨gt, k, none⟩))), (2, (.func (.func f) #[] #[]))] _
 refine wc_seq (wc_seq (wc_regionL ?_))
 refine vm rfl rfl ?_
 refine vn rfl rfl ?_
 refine wl_val (ov_field0 (off := 1) fo153_1 rfl) rfl rfl rfl ?_
 refine wl_val (ov_loadAt oc150 rfl hb_gx rfl) rfl rfl rfl ?_
 refine wl_val (ov_nilptr Tryz.underlying150 rfl) rfl rfl rfl ?_
 refine q_nil (k_then ?_)
 refine wc_cond_f rfl ?_
 refine wc_seq (wc_regionL ?_)
 refine vm rfl rfl ?_
 refine vn rfl rfl ?_
 refine wl_val (ov_field0 (off := 1) fo153_1 rfl) rfl rfl rfl ?_
 refine wl_val (ov_loadAt oc150 rfl hb_gx rfl) rfl rfl rfl ?_
 refine wl_step (or_call0 cl127 rfl rfl (rbytes_ok _ gr lo hi A c l hb_gr hr hro hlen 65536 (by decide))) rfl rfl rfl ?_
 rintro v w1 ⟨⟨A30, c30, rfl, ho30⟩, hgr30, A130, c130, hQ30, hr130⟩
 have hz_hgr30 := hgr30.size
 replace hb_gx := hb_gx.gr hgr30 (by intro e; cases e; omega)
 replace hK := Kp.tg hK hgr30 (by first | (left; simp; done) | (right; omega))
 replace hb_gt := hb_gt.gr hgr30 (by intro e; cases e; omega)
 have hb_gr := hQ30
 have hq_ho30 := fun g e => Own.lt ho30 (g := g) e
 refine vm rfl rfl ?_
 iterate 2 refine vx rfl rfl rfl ?_
 iterate 2 refine va rfl rfl ?_
 refine q_nil (k_then (wc_seq (wc_regionL ?_)))
 iterate 2 refine vm rfl rfl ?_
 refine vn rfl rfl ?_
 refine wl_val (ov_field0 (off := 3) fo153_3 rfl) rfl rfl rfl ?_
 refine wl_val (ov_loadAt oc4 rfl hb_gx rfl) rfl rfl rfl ?_
 refine vm rfl rfl ?_
 iterate 2 refine wl_gskip rfl rfl rfl rfl rfl rfl ?_
 refine wl_val (ov_pick_t rfl rfl) rfl rfl rfl ?_
 refine vn rfl rfl ?_
 refine wl_val (ov_field0 (off := 3) fo153_3 rfl) rfl rfl rfl ?_
 refine wl_step0 (or_storeAt (cs' := [(.pointer (some ⟨gc, 0, none⟩)), (.pointer (some ⟨gr, 0, none⟩)), (.slice none 0 0), (.bool true)]) sz4 rfl rfl rfl hb_gx rfl rfl) rfl rfl ?_
 rintro _ w2 ⟨hN2, hg2⟩
 have hz_hg2 := hg2.size
 replace hK := Kp.tg hK hg2 (by first | (left; simp; done) | (right; omega))
 replace hb_gt := hb_gt.gr hg2 (by intro e; cases e; omega)
 replace hb_gr := hb_gr.gr hg2 (by intro e; cases e; omega)
 replace hr130 := hr130.gr hg2 (fun _ e => by cases e; omega)
 replace ho30 := Own.gr ho30 hg2 (by first | exact .inl rfl | (right; intro e; first | (have := hq_ho30 _ e; omega) | (have := Own.lt ho30 e; omega) | exact own_blk_ne ho30 hb_gx (by decide) e))
 replace hb_gx := hN2
 refine q_nil (k_then (wc_regionL ?_))
 iterate 2 refine vm rfl rfl ?_
 refine wl_val (ov_bstr bt32 Tryz.underlying9 rfl (OwnB.rd ho30)) rfl rfl rfl ?_
 refine vn rfl rfl ?_
 refine wl_step0 (or_storeAt (cs' := cs.set k (.string (strB (vpart l 65536).1))) sz9 rfl rfl rfl hb_gt (blt_of hk) rfl) rfl rfl ?_
 rintro _ w3 ⟨hNT, hgT⟩
 have hz_hgT := hgT.size
 replace hb_gx := hb_gx.gr hgT (by intro e; cases e; omega)
 replace hK := Kp.tg hK hgT (by first | (left; simp; done) | (right; omega))
 replace hb_gr := hb_gr.gr hgT (by intro e; cases e; omega)
 replace hr130 := hr130.gr hgT (fun _ e => by cases e; omega)
 replace hb_gt := hNT
 refine q_nil (k_then (wc_regionL ?_))
 iterate 2 refine vm rfl rfl ?_
 refine vn rfl rfl ?_
 refine wl_val (ov_field0 (off := 3) fo153_3 rfl) rfl rfl rfl ?_
 refine wl_val (ov_loadAt oc4 rfl hb_gx rfl) rfl rfl rfl ?_
 refine vm rfl rfl ?_
 iterate 6 refine wl_gskip rfl rfl rfl rfl rfl rfl ?_
 refine wl_val (ov_pick_t rfl rfl) rfl rfl rfl ?_
 refine vn rfl rfl ?_
 refine wl_val (ov_field0 (off := 3) fo153_3 rfl) rfl rfl rfl ?_
 refine wl_step0 (or_storeAt (cs' := [(.pointer (some ⟨gc, 0, none⟩)), (.pointer (some ⟨gr, 0, none⟩)), (.slice none 0 0), (.bool true)]) sz4 rfl rfl rfl hb_gx rfl rfl) rfl rfl ?_
 rintro _ w4 ⟨hN4, hg4⟩
 have hz_hg4 := hg4.size
 replace hK := Kp.tg hK hg4 (by first | (left; simp; done) | (right; omega))
 replace hb_gt := hb_gt.gr hg4 (by intro e; cases e; omega)
 replace hb_gr := hb_gr.gr hg4 (by intro e; cases e; omega)
 replace hr130 := hr130.gr hg4 (fun _ e => by cases e; omega)
 replace hb_gx := hN4
 refine q_nil ?_
 refine e_end0 rfl ?_
 exact ⟨rfl, hb_gx, ⟨_, _, hb_gr, hr130⟩, hb_gt, hK⟩
theorem partr_e (w : World) (gx gc gr lo hi : Nat) (A : Option Addr) (c : Nat) (l : List UInt8) (hb_gx : Blk w gx 153 [.pointer (some ⟨gc, 0, none⟩), .pointer (some ⟨gr, 0, none⟩), .slice none 0 0, .bool false]) (hb_gr : Blk w gr 178 [.bool true, .slice A l.length c]) (hr : RdB w lo hi A c l) (hgx : gx ≠ gr) (hxo : gx < lo ∨ hi ≤ gx) (hro : gr < lo ∨ hi ≤ gr) (hlen : l.length ≤ 140737488355328) (gt k : Nat) (tt : TypeId) (cs : List Value) (hb_gt : Blk w gt tt cs) (hk : k < cs.length) (htx : gt ≠ gx) (htr : gt ≠ gr) (hto : gt < lo ∨ hi ≤ gt) (al : List UInt8 → Bool) (f : FuncId) (hcl : callable Tryz.prog f = true) (hal : ∀ w s, Fn Tryz.prog f #[.string (strB s)] w (fun v w' => v = .bool (al s) ∧ w' = w)) (he : ¬ (vpart l 65536).2.2 = 0) :
  Fn Tryz.prog 103 #[(.pointer (some ⟨gx, 0, none⟩)), (.pointer (some ⟨gt, k, none⟩)), (.func (.func f) #[] #[])] w (fun v w' => v = .tuple #[] ∧ Blk w' gx 153 [.pointer (some ⟨gc, 0, none⟩), .pointer (some ⟨gr, 0, none⟩), .slice none 0 0, .bool true] ∧ RdrAt w' gr lo hi (partR l) ∧ Blk w' gt tt (cs.set k (.string (strB (partV l)))) ∧ Kp [gx, gr, gt] w w')  := by
 have hK := Kp.refl [gx, gr, gt] w
 have hgxl := hb_gx.lt
 have hgrl := hb_gr.lt
 have hgtl := hb_gt.lt
 refine fn_enter (args := [(.pointer (some ⟨gx, 0, none⟩)), (.pointer (some ⟨gt, k, none⟩)), (.func (.func f) #[] #[])]) Tryz.func103 rfl rfl rfl ?_
 show WC _ _ _ _ [(0, (.pointer (some ⟨gx, 0, none⟩))), (1, (.pointer (some ⟨gt, k, none⟩))), (2, (.func (.func f) #[] #[]))] _
 refine wc_seq (wc_seq (wc_regionL ?_))
 refine vm rfl rfl ?_
 refine vn rfl rfl ?_
 refine wl_val (ov_field0 (off := 1) fo153_1 rfl) rfl rfl rfl ?_
 refine wl_val (ov_loadAt oc150 rfl hb_gx rfl) rfl rfl rfl ?_
 refine wl_val (ov_nilptr Tryz.underlying150 rfl) rfl rfl rfl ?_
 refine q_nil (k_then ?_)
 refine wc_cond_f rfl ?_
 refine wc_seq (wc_regionL ?_)
 refine vm rfl rfl ?_
 refine vn rfl rfl ?_
 refine wl_val (ov_field0 (off := 1) fo153_1 rfl) rfl rfl rfl ?_
 refine wl_val (ov_loadAt oc150 rfl hb_gx rfl) rfl rfl rfl ?_
 refine wl_step (or_call0 cl127 rfl rfl (rbytes_ok _ gr lo hi A c l hb_gr hr hro hlen 65536 (by decide))) rfl rfl rfl ?_
 rintro v w1 ⟨⟨A30, c30, rfl, ho30⟩, hgr30, A130, c130, hQ30, hr130⟩
 have hz_hgr30 := hgr30.size
 replace hb_gx := hb_gx.gr hgr30 (by intro e; cases e; omega)
 replace hK := Kp.tg hK hgr30 (by first | (left; simp; done) | (right; omega))
 replace hb_gt := hb_gt.gr hgr30 (by intro e; cases e; omega)
 have hb_gr := hQ30
 have hq_ho30 := fun g e => Own.lt ho30 (g := g) e
 refine vm rfl rfl ?_
 iterate 2 refine vx rfl rfl rfl ?_
 iterate 2 refine va rfl rfl ?_
 refine q_nil (k_then (wc_seq (wc_regionL ?_)))
 iterate 2 refine vm rfl rfl ?_
 refine vn rfl rfl ?_
 refine wl_val (ov_field0 (off := 3) fo153_3 rfl) rfl rfl rfl ?_
 refine wl_val (ov_loadAt oc4 rfl hb_gx rfl) rfl rfl rfl ?_
 refine vm rfl rfl ?_
 refine wl_gval (ov_move rfl) rfl rfl rfl rfl rfl ?_
 refine wl_gval (ov_neq rfl rfl) rfl rfl rfl rfl rfl ?_
 refine wl_spell (d := 40) rfl (bt (by omega)) ?_
 refine wl_val (ov_pick_f rfl rfl) rfl rfl rfl ?_
 refine vn rfl rfl ?_
 refine wl_val (ov_field0 (off := 3) fo153_3 rfl) rfl rfl rfl ?_
 refine wl_step0 (or_storeAt (cs' := [(.pointer (some ⟨gc, 0, none⟩)), (.pointer (some ⟨gr, 0, none⟩)), (.slice none 0 0), (.bool true)]) sz4 rfl rfl rfl hb_gx rfl rfl) rfl rfl ?_
 rintro _ w2 ⟨hN2, hg2⟩
 have hz_hg2 := hg2.size
 replace hK := Kp.tg hK hg2 (by first | (left; simp; done) | (right; omega))
 replace hb_gt := hb_gt.gr hg2 (by intro e; cases e; omega)
 replace hb_gr := hb_gr.gr hg2 (by intro e; cases e; omega)
 replace hr130 := hr130.gr hg2 (fun _ e => by cases e; omega)
 replace ho30 := Own.gr ho30 hg2 (by first | exact .inl rfl | (right; intro e; first | (have := hq_ho30 _ e; omega) | (have := Own.lt ho30 e; omega) | exact own_blk_ne ho30 hb_gx (by decide) e))
 replace hb_gx := hN2
 refine q_nil (k_then (wc_regionL ?_))
 iterate 2 refine vm rfl rfl ?_
 refine wl_val (ov_bstr bt32 Tryz.underlying9 rfl (OwnB.rd ho30)) rfl rfl rfl ?_
 refine vn rfl rfl ?_
 refine wl_step0 (or_storeAt (cs' := cs.set k (.string (strB (vpart l 65536).1))) sz9 rfl rfl rfl hb_gt (blt_of hk) rfl) rfl rfl ?_
 rintro _ w3 ⟨hNT, hgT⟩
 have hz_hgT := hgT.size
 replace hb_gx := hb_gx.gr hgT (by intro e; cases e; omega)
 replace hK := Kp.tg hK hgT (by first | (left; simp; done) | (right; omega))
 replace hb_gr := hb_gr.gr hgT (by intro e; cases e; omega)
 replace hr130 := hr130.gr hgT (fun _ e => by cases e; omega)
 replace hb_gt := hNT
 refine q_nil (k_then (wc_regionL ?_))
 iterate 2 refine vm rfl rfl ?_
 refine vn rfl rfl ?_
 refine wl_val (ov_field0 (off := 3) fo153_3 rfl) rfl rfl rfl ?_
 refine wl_val (ov_loadAt oc4 rfl hb_gx rfl) rfl rfl rfl ?_
 refine vm rfl rfl ?_
 iterate 6 refine wl_gskip rfl rfl rfl rfl rfl rfl ?_
 refine wl_val (ov_pick_t rfl rfl) rfl rfl rfl ?_
 refine vn rfl rfl ?_
 refine wl_val (ov_field0 (off := 3) fo153_3 rfl) rfl rfl rfl ?_
 refine wl_step0 (or_storeAt (cs' := [(.pointer (some ⟨gc, 0, none⟩)), (.pointer (some ⟨gr, 0, none⟩)), (.slice none 0 0), (.bool true)]) sz4 rfl rfl rfl hb_gx rfl rfl) rfl rfl ?_
 rintro _ w4 ⟨hN4, hg4⟩
 have hz_hg4 := hg4.size
 replace hK := Kp.tg hK hg4 (by first | (left; simp; done) | (right; omega))
 replace hb_gt := hb_gt.gr hg4 (by intro e; cases e; omega)
 replace hb_gr := hb_gr.gr hg4 (by intro e; cases e; omega)
 replace hr130 := hr130.gr hg4 (fun _ e => by cases e; omega)
 replace hb_gx := hN4
 refine q_nil ?_
 refine e_end0 rfl ?_
 exact ⟨rfl, hb_gx, ⟨_, _, hb_gr, hr130⟩, hb_gt, hK⟩
theorem partr_f (w : World) (gx gc gr lo hi : Nat) (A : Option Addr) (c : Nat) (l : List UInt8) (hb_gx : Blk w gx 153 [.pointer (some ⟨gc, 0, none⟩), .pointer (some ⟨gr, 0, none⟩), .slice none 0 0, .bool false]) (hb_gr : Blk w gr 178 [.bool true, .slice A l.length c]) (hr : RdB w lo hi A c l) (hgx : gx ≠ gr) (hxo : gx < lo ∨ hi ≤ gx) (hro : gr < lo ∨ hi ≤ gr) (hlen : l.length ≤ 140737488355328) (gt k : Nat) (tt : TypeId) (cs : List Value) (hb_gt : Blk w gt tt cs) (hk : k < cs.length) (htx : gt ≠ gx) (htr : gt ≠ gr) (hto : gt < lo ∨ hi ≤ gt) (al : List UInt8 → Bool) (f : FuncId) (hcl : callable Tryz.prog f = true) (hal : ∀ w s, Fn Tryz.prog f #[.string (strB s)] w (fun v w' => v = .bool (al s) ∧ w' = w)) (he : (vpart l 65536).2.2 = 0) :
  Fn Tryz.prog 103 #[(.pointer (some ⟨gx, 0, none⟩)), (.pointer (some ⟨gt, k, none⟩)), (.func (.func f) #[] #[])] w (fun v w' => v = .tuple #[] ∧ Blk w' gx 153 [.pointer (some ⟨gc, 0, none⟩), .pointer (some ⟨gr, 0, none⟩), .slice none 0 0, .bool (!al (partV l))] ∧ RdrAt w' gr lo hi (partR l) ∧ Blk w' gt tt (cs.set k (.string (strB (partV l)))) ∧ Kp [gx, gr, gt] w w')  := by
 have hK := Kp.refl [gx, gr, gt] w
 have hgxl := hb_gx.lt
 have hgrl := hb_gr.lt
 have hgtl := hb_gt.lt
 refine fn_enter (args := [(.pointer (some ⟨gx, 0, none⟩)), (.pointer (some ⟨gt, k, none⟩)), (.func (.func f) #[] #[])]) Tryz.func103 rfl rfl rfl ?_
 show WC _ _ _ _ [(0, (.pointer (some ⟨gx, 0, none⟩))), (1, (.pointer (some ⟨gt, k, none⟩))), (2, (.func (.func f) #[] #[]))] _
 refine wc_seq (wc_seq (wc_regionL ?_))
 refine vm rfl rfl ?_
 refine vn rfl rfl ?_
 refine wl_val (ov_field0 (off := 1) fo153_1 rfl) rfl rfl rfl ?_
 refine wl_val (ov_loadAt oc150 rfl hb_gx rfl) rfl rfl rfl ?_
 refine wl_val (ov_nilptr Tryz.underlying150 rfl) rfl rfl rfl ?_
 refine q_nil (k_then ?_)
 refine wc_cond_f rfl ?_
 refine wc_seq (wc_regionL ?_)
 refine vm rfl rfl ?_
 refine vn rfl rfl ?_
 refine wl_val (ov_field0 (off := 1) fo153_1 rfl) rfl rfl rfl ?_
 refine wl_val (ov_loadAt oc150 rfl hb_gx rfl) rfl rfl rfl ?_
 refine wl_step (or_call0 cl127 rfl rfl (rbytes_ok _ gr lo hi A c l hb_gr hr hro hlen 65536 (by decide))) rfl rfl rfl ?_
 rintro v w1 ⟨⟨A30, c30, rfl, ho30⟩, hgr30, A130, c130, hQ30, hr130⟩
 have hz_hgr30 := hgr30.size
 replace hb_gx := hb_gx.gr hgr30 (by intro e; cases e; omega)
 replace hK := Kp.tg hK hgr30 (by first | (left; simp; done) | (right; omega))
 replace hb_gt := hb_gt.gr hgr30 (by intro e; cases e; omega)
 have hb_gr := hQ30
 have hq_ho30 := fun g e => Own.lt ho30 (g := g) e
 refine vm rfl rfl ?_
 iterate 2 refine vx rfl rfl rfl ?_
 iterate 2 refine va rfl rfl ?_
 refine q_nil (k_then (wc_seq (wc_regionL ?_)))
 iterate 2 refine vm rfl rfl ?_
 refine vn rfl rfl ?_
 refine wl_val (ov_field0 (off := 3) fo153_3 rfl) rfl rfl rfl ?_
 refine wl_val (ov_loadAt oc4 rfl hb_gx rfl) rfl rfl rfl ?_
 refine vm rfl rfl ?_
 refine wl_gval (ov_move rfl) rfl rfl rfl rfl rfl ?_
 refine wl_gval (ov_neq rfl rfl) rfl rfl rfl rfl rfl ?_
 refine wl_spell (d := 40) rfl (bf (by omega)) ?_
 refine wl_val (ov_pick_f rfl rfl) rfl rfl rfl ?_
 refine vn rfl rfl ?_
 refine wl_val (ov_field0 (off := 3) fo153_3 rfl) rfl rfl rfl ?_
 refine wl_step0 (or_storeAt (cs' := [(.pointer (some ⟨gc, 0, none⟩)), (.pointer (some ⟨gr, 0, none⟩)), (.slice none 0 0), (.bool false)]) sz4 rfl rfl rfl hb_gx rfl rfl) rfl rfl ?_
 rintro _ w2 ⟨hN2, hg2⟩
 have hz_hg2 := hg2.size
 replace hK := Kp.tg hK hg2 (by first | (left; simp; done) | (right; omega))
 replace hb_gt := hb_gt.gr hg2 (by intro e; cases e; omega)
 replace hb_gr := hb_gr.gr hg2 (by intro e; cases e; omega)
 replace hr130 := hr130.gr hg2 (fun _ e => by cases e; omega)
 replace ho30 := Own.gr ho30 hg2 (by first | exact .inl rfl | (right; intro e; first | (have := hq_ho30 _ e; omega) | (have := Own.lt ho30 e; omega) | exact own_blk_ne ho30 hb_gx (by decide) e))
 replace hb_gx := hN2
 refine q_nil (k_then (wc_regionL ?_))
 iterate 2 refine vm rfl rfl ?_
 refine wl_val (ov_bstr bt32 Tryz.underlying9 rfl (OwnB.rd ho30)) rfl rfl rfl ?_
 refine vn rfl rfl ?_
 refine wl_step0 (or_storeAt (cs' := cs.set k (.string (strB (vpart l 65536).1))) sz9 rfl rfl rfl hb_gt (blt_of hk) rfl) rfl rfl ?_
 rintro _ w3 ⟨hNT, hgT⟩
 have hz_hgT := hgT.size
 replace hb_gx := hb_gx.gr hgT (by intro e; cases e; omega)
 replace hK := Kp.tg hK hgT (by first | (left; simp; done) | (right; omega))
 replace hb_gr := hb_gr.gr hgT (by intro e; cases e; omega)
 replace hr130 := hr130.gr hgT (fun _ e => by cases e; omega)
 replace hb_gt := hNT
 refine q_nil (k_then (wc_regionL ?_))
 iterate 2 refine vm rfl rfl ?_
 refine vn rfl rfl ?_
 refine wl_val (ov_field0 (off := 3) fo153_3 rfl) rfl rfl rfl ?_
 refine wl_val (ov_loadAt oc4 rfl hb_gx rfl) rfl rfl rfl ?_
 refine vm rfl rfl ?_
 iterate 2 refine wl_gval (ov_move rfl) rfl rfl rfl rfl rfl ?_
 refine wl_gval (ov_nilCheck rfl) rfl rfl rfl rfl rfl ?_
 refine wl_gval (ov_loadAt oc9 rfl hb_gt (set_at hk)) rfl rfl rfl rfl rfl ?_
 refine wl_gval (or_call0 hcl rfl rfl (hal _ _)) rfl rfl rfl rfl rfl ?_
 refine wl_gval (ov_not rfl) rfl rfl rfl rfl rfl ?_
 refine wl_val (ov_pick_f rfl rfl) rfl rfl rfl ?_
 refine vn rfl rfl ?_
 refine wl_val (ov_field0 (off := 3) fo153_3 rfl) rfl rfl rfl ?_
 refine wl_step0 (or_storeAt (cs' := [(.pointer (some ⟨gc, 0, none⟩)), (.pointer (some ⟨gr, 0, none⟩)), (.slice none 0 0), (.bool (!(al (vpart l 65536).1)))]) sz4 rfl rfl rfl hb_gx rfl rfl) rfl rfl ?_
 rintro _ w4 ⟨hN4, hg4⟩
 have hz_hg4 := hg4.size
 replace hK := Kp.tg hK hg4 (by first | (left; simp; done) | (right; omega))
 replace hb_gt := hb_gt.gr hg4 (by intro e; cases e; omega)
 replace hb_gr := hb_gr.gr hg4 (by intro e; cases e; omega)
 replace hr130 := hr130.gr hg4 (fun _ e => by cases e; omega)
 replace hb_gx := hN4
 refine q_nil ?_
 refine e_end0 rfl ?_
 exact ⟨rfl, hb_gx, ⟨_, _, hb_gr, hr130⟩, hb_gt, hK⟩
theorem partr (w : World) (gx gc gr lo hi : Nat) (A : Option Addr) (c : Nat) (l : List UInt8) (bad : Bool) (hb_gx : Blk w gx 153 [.pointer (some ⟨gc, 0, none⟩), .pointer (some ⟨gr, 0, none⟩), .slice none 0 0, .bool bad]) (hb_gr : Blk w gr 178 [.bool true, .slice A l.length c]) (hr : RdB w lo hi A c l) (hgx : gx ≠ gr) (hxo : gx < lo ∨ hi ≤ gx) (hro : gr < lo ∨ hi ≤ gr) (hlen : l.length ≤ 140737488355328) (gt k : Nat) (tt : TypeId) (cs : List Value) (hb_gt : Blk w gt tt cs) (hk : k < cs.length) (htx : gt ≠ gx) (htr : gt ≠ gr) (hto : gt < lo ∨ hi ≤ gt) (al : List UInt8 → Bool) (f : FuncId) (hcl : callable Tryz.prog f = true) (hal : ∀ w s, Fn Tryz.prog f #[.string (strB s)] w (fun v w' => v = .bool (al s) ∧ w' = w)) :
  Fn Tryz.prog 103 #[.pointer (some ⟨gx, 0, none⟩), .pointer (some ⟨gt, k, none⟩), .func (.func f) #[] #[]] w (fun v w' => v = .tuple #[] ∧ Blk w' gx 153 [.pointer (some ⟨gc, 0, none⟩), .pointer (some ⟨gr, 0, none⟩), .slice none 0 0, .bool (bad || partB al l)] ∧ RdrAt w' gr lo hi (partR l) ∧ Blk w' gt tt (cs.set k (.string (strB (partV l)))) ∧ Kp [gx, gr, gt] w w') := by
 cases bad with
 | true => exact partr_t w gx gc gr lo hi A c l hb_gx hb_gr hr hgx hxo hro hlen gt k tt cs hb_gt hk htx htr hto al f hcl hal
 | false =>
  by_cases he : (vpart l 65536).2.2 = 0
  ·have e : (false || partB al l) = !al (partV l) := by unfold partB; rw [decide_eq_false (by omega)]; rfl
   rw [e]; exact partr_f w gx gc gr lo hi A c l hb_gx hb_gr hr hgx hxo hro hlen gt k tt cs hb_gt hk htx htr hto al f hcl hal he
  ·have e : (false || partB al l) = true := by unfold partB; rw [decide_eq_true (by omega)]; rfl
   rw [e]; exact partr_e w gx gc gr lo hi A c l hb_gx hb_gr hr hgx hxo hro hlen gt k tt cs hb_gt hk htx htr hto al f hcl hal he
end Go.Proofs.YtiighkbehiddkaaGreat