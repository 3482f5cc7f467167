/-
 What is read of a response.
-/
import Derived.Test.YtiighkbehiddkaaGreatRb
namespace Go.Proofs.YtiighkbehiddkaaGreat
open Go.RowKit
set_option linter.unusedVariables false
set_option maxRecDepth 4000
theorem cl118 : callable Tryz.prog 118 = true := by kernel_rfl
theorem cl129 : callable Tryz.prog 129 = true := by kernel_rfl
theorem sz3 : (Tryz.prog.info? 3).map (·.size) = some 1 := by kernel_rfl
theorem sz36 : (Tryz.prog.info? 36).map (·.size) = some 1 := by kernel_rfl
theorem sz40 : (Tryz.prog.info? 40).map (·.size) = some 1 := by kernel_rfl
/-- What is read: a number, its rest, whether it is there; bytes. -/
def nV (l : List UInt8) : Nat := (vget l).1
def nR (l : List UInt8) : List UInt8 := l.drop (vget l).2.1
def nK (l : List UInt8) : Bool := decide ((vget l).2.2 = 0)
def bV (l : List UInt8) : List UInt8 := (vpart l 65536).1
def bR (l : List UInt8) : List UInt8 := l.drop (vpart l 65536).2.1
def bK (l : List UInt8) : Bool := decide ((vpart l 65536).2.2 = 0)
def rK (m : Nat) (l : List UInt8) : Bool := nK l && decide (nV l ≤ m)
theorem nR_len (l : List UInt8) : (nR l).length ≤ l.length := by unfold nR; rw [List.length_drop]; omega
theorem bR_len (l : List UInt8) : (bR l).length ≤ l.length := by unfold bR; rw [List.length_drop]; omega
theorem nV_lt (l : List UInt8) : nV l < 18446744073709551616 := vget_lt l
theorem bV_len (l : List UInt8) : (bV l).length ≤ l.length := (vpart_props l 65536).1
def zI : Itm := ⟨0, [], 0, 0⟩
def zT : IT := (zI, none, 0)
/-- The k-th item and what is left; whether it is one. -/
def iV (l : List UInt8) : Itm := if nV l = 0 then zI else ⟨nV l, bV (nR (nR (nR l))), nV (nR l), nV (nR (nR l))⟩
def iR (l : List UInt8) : List UInt8 := if nV l = 0 then nR l else bR (nR (nR (nR l)))
def iK (l : List UInt8) : Bool := rK 2 l && (decide (nV l = 0) || (nK (nR l) && nK (nR (nR l)) && bK (nR (nR (nR l)))))
def iS : Nat → List UInt8 → List Itm × List UInt8 × Bool
 | 0, l => ([], l, true)
 | k + 1, l => ((iS k l).1 ++ [iV (iS k l).2.1], iR (iS k l).2.1, (iS k l).2.2 && iK (iS k l).2.1)
def uS : Nat → List UInt8 → List Nat × List UInt8 × Bool
 | 0, l => ([], l, true)
 | k + 1, l => ((uS k l).1 ++ [nV (uS k l).2.1], nR (uS k l).2.1, (uS k l).2.2 && nK (uS k l).2.1)
theorem iR_len (l : List UInt8) : (iR l).length ≤ l.length := by
 have h1 := nR_len l
 have h2 := nR_len (nR l)
 have h3 := nR_len (nR (nR l))
 have h4 := bR_len (nR (nR (nR l)))
 unfold iR; split <;> omega
theorem iS_len (l : List UInt8) : ∀ k, (iS k l).1.length = k ∧ (iS k l).2.1.length ≤ l.length
 | 0 => ⟨rfl, Nat.le_refl _⟩
 | k + 1 => by
  have h := iS_len l k
  have h2 := iR_len (iS k l).2.1
  exact ⟨by rw [iS, List.length_append, h.1]; rfl, by show (iR _).length ≤ _; omega⟩
theorem uS_len (l : List UInt8) : ∀ k, (uS k l).1.length = k ∧ (uS k l).2.1.length ≤ l.length
 | 0 => ⟨rfl, Nat.le_refl _⟩
 | k + 1 => by
  have h := uS_len l k
  have h2 := nR_len (uS k l).2.1
  exact ⟨by rw [uS, List.length_append, h.1]; rfl, by show (nR _).length ≤ _; omega⟩
theorem iS_mono (l : List UInt8) : ∀ {k n : Nat}, k ≤ n → (iS k l).2.2 = false → (iS n l).2.2 = false
  | k, 0, h, he => by have : k = 0 := by omega
                      subst this; exact he
  | k, n + 1, h, he => by
    by_cases e : k = n + 1
    · subst e; exact he
    · have := iS_mono l (k := k) (n := n) (by omega) he; rw [iS, this]; rfl
theorem uS_mono (l : List UInt8) : ∀ {k n : Nat}, k ≤ n → (uS k l).2.2 = false → (uS n l).2.2 = false
  | k, 0, h, he => by have : k = 0 := by omega
                      subst this; exact he
  | k, n + 1, h, he => by
    by_cases e : k = n + 1
    · subst e; exact he
    · have := uS_mono l (k := k) (n := n) (by omega) he; rw [uS, this]; rfl
def RdrAt8 (w : World) (g lo hi : Nat) (l : List UInt8) : Prop := ∃ A c, Blk w g 178 [.bool true, .slice A l.length c] ∧ RdB w lo hi A c l
theorem Kp.of_gr {a b : World} {row : Option Nat} (h : Gr a b row) : Kp row.toList a b :=
 ⟨h.os, h.tape, h.output, h.size, fun i hi hn => h.block i hi (fun e => hn (by rw [← e]; simp))⟩
/-- Items that are being read: their block. -/
def irows (xs : List IT) (n : Nat) : List Value := xs.flatMap itc ++ (List.replicate n zT).flatMap itc
theorem itc_len (xs : List IT) : (xs.flatMap itc).length = 4 * xs.length := by
 induction xs with
 | nil => rfl
 | cons a r ih => rw [List.flatMap_cons, List.length_append, ih, List.length_cons]; show 4 + _ = _; omega
theorem rd8_any (w : World) (gr lo hi : Nat) (A : Option Addr) (c : Nat) (l : List UInt8) (hb_gr : Blk w gr 178 [.bool true, .slice A l.length c]) (hr : RdB w lo hi A c l) (hro : gr < lo ∨ hi ≤ gr) (hlen : l.length ≤ 140737488355328) (m : Nat) (hm : m < 18446744073709551616) :
  Fn Tryz.prog 118 #[(.pointer (some ⟨gr, 0, none⟩)), (.int .u64 (↑m : Int))] w (fun v w' => v = .tuple #[.int .u64 (nV l : Int), .bool (rK m l)] ∧ RdrAt8 w' gr lo hi (nR l) ∧ Gr w w' (some gr))  := by
 refine fn_enter (args := [(.pointer (some ⟨gr, 0, none⟩)), (.int .u64 (↑m : Int))]) Tryz.func118 rfl rfl rfl ?_
 show WC _ _ _ _ [(0, (.pointer (some ⟨gr, 0, none⟩))), (1, (.int .u64 (↑m : Int)))] _
 refine wc_seq (wc_regionL ?_)
 iterate 2 refine va rfl rfl ?_
 refine q_nil (k_then (wc_seq (wc_regionL ?_)))
 refine vm rfl rfl ?_
 refine wl_step (or_call0 cl129 rfl rfl (number_ok _ gr lo hi A c l hb_gr hr hro hlen)) rfl rfl rfl ?_
 rintro v w1 ⟨rfl, hg10, A1, c1, hb1, hr1⟩
 refine vm rfl rfl ?_
 iterate 2 refine vx rfl rfl rfl ?_
 iterate 2 refine va rfl rfl ?_
 refine q_nil (k_then (wc_seq (wc_regionL ?_)))
 iterate 2 refine vm rfl rfl ?_
 refine ve rfl rfl rfl ?_
 refine wl_case_d (d := 15) rfl (fun h15 => ?_) (fun h15 => ?_)
 ·refine vm rfl rfl ?_
  iterate 2 refine wl_gval (ov_move rfl) rfl rfl rfl rfl rfl ?_
  refine wl_gval (ov_leq rfl rfl) rfl rfl rfl rfl rfl ?_
  refine wl_val (ov_pick_t rfl rfl) rfl rfl rfl ?_
  iterate 2 refine va rfl rfl ?_
  refine q_nil (k_then (q_ret ?_))
  refine e_ret2 rfl rfl rfl ?_
  refine ⟨?_, ⟨_, _, hb1, hr1⟩, hg10⟩
  rw [show rK m l = decide (((vget l).1 : Int) ≤ (m : Int)) from by unfold rK nK nV; rw [decide_eq_true (show (vget l).2.2 = 0 by omega), Bool.true_and, decide_eq_decide]; omega]
  rfl
 ·refine vm rfl rfl ?_
  iterate 3 refine wl_gskip rfl rfl rfl rfl rfl rfl ?_
  refine wl_val (ov_pick_f rfl rfl) rfl rfl rfl ?_
  iterate 2 refine va rfl rfl ?_
  refine q_nil (k_then (q_ret ?_))
  refine e_ret2 rfl rfl rfl ?_
  refine ⟨?_, ⟨_, _, hb1, hr1⟩, hg10⟩
  rw [show rK m l = false from by unfold rK nK; rw [decide_eq_false (show ¬ (vget l).2.2 = 0 by omega), Bool.false_and]]
  rfl
theorem Own.blkN {w : World} {lo g n size : Nat} {e : TypeId} {xs : List Value} (h : Own w lo e size (some ⟨g, 0, none⟩) n n xs) : Blk w g e xs := by
 rcases h.2 with ⟨hv, _⟩ | ⟨g', cap, cur, hv, hb, hh, hnc, hcm, hcs, htk⟩
 ·simp at hv
 ·simp only [Value.slice.injEq, Option.some.injEq, Addr.mk.injEq] at hv
  obtain ⟨⟨rfl, _⟩, _, rfl⟩ := hv
  have hc : cur.toList = xs := by rw [← htk, List.take_of_length_le (by simp; omega)]
  unfold Blk
  rw [hh, ← hc]
section
variable {P : Program} {L : Env} {w : World} {d : Option Nat} {ty : TypeId} {pos : String} {aft : Array Edge} {gd : Option (Nat × Bool)}
theorem or_makeF {t e : TypeId} {size bytes : Nat} {z : Value} (T : SliceTy P t e size bytes z) {x y : Operand} {k : IntKind} {n : Nat} {i : Int} (hx : ev L x = some (.int k i)) (hy : ev L y = some (.int k i)) (hi : i = n) (hb : bytes * n ≤ 140737488355328) (h63 : n ≤ maxLen) :
  OpRun P ⟨d, .makeSlice t x y, ty, pos, aft, gd⟩ L w fun v w' => ∃ g, v = .slice (some ⟨g, 0, none⟩) n n ∧ Blk w' g e (madeCells z.cells (n * size)).toList ∧ Ext w w' ∧ w.heap.size ≤ g ∧ g < w'.heap.size :=
 opRun_of fun ρ h1 _ => by
  obtain ⟨inf, hi', hz, hs, hby⟩ := T.i
  subst hi
  obtain ⟨w', hr, hown, hg⟩ := run_make_full (P := P) w w.heap.size t e inf z size T.u hi' hz hs k k n (by rw [hby]; omega) h63 (Nat.le_refl _)
  have hbk : Blk w' w.heap.size e (madeCells z.cells (n * size)).toList := Own.blkN hown
  exact ⟨_, w', by simp [execOp, h1 x _ hx, h1 y _ hy, hr], w.heap.size, rfl, hbk, hg, Nat.le_refl _, hbk.lt⟩
end
theorem made_items {n : Nat} (h : n ≤ 16) : (madeCells (Value.agg #[.int .i64 0, .slice none 0 0, .int .u64 0, .int .u64 0]).cells (n * 4)).toList = irows [] n := by
 have e : ∀ (z : Array Value) (k : Nat), (madeCells z k).toList = (List.range k).map fun j => z[j % z.size]! := fun z k => by simp [madeCells]
 rw [e]
 have : n = 0 ∨ n = 1 ∨ n = 2 ∨ n = 3 ∨ n = 4 ∨ n = 5 ∨ n = 6 ∨ n = 7 ∨ n = 8 ∨ n = 9 ∨ n = 10 ∨ n = 11 ∨ n = 12 ∨ n = 13 ∨ n = 14 ∨ n = 15 ∨ n = 16 := by omega
 rcases this with rfl | rfl | rfl | rfl | rfl | rfl | rfl | rfl | rfl | rfl | rfl | rfl | rfl | rfl | rfl | rfl | rfl <;> rfl
theorem getv (w : World) (gr lo hi : Nat) (A : Option Addr) (c : Nat) (l : List UInt8) (hb_gr : Blk w gr 178 [.bool true, .slice A l.length c]) (hr : RdB w lo hi A c l) (hro : gr < lo ∨ hi ≤ gr) (hlen : l.length ≤ 140737488355328) (gx : Nat) (x : Rsp) (X : Option Addr) (cx : Nat) (N : Option Addr) (cn : Nat) (hb_gx : Blk w gx 43 (rspc x X cx N cn)) (hne : gx ≠ gr) (hxo : gx < lo ∨ hi ≤ gx) (hhi : hi ≤ w.heap.size) :
  Fn Tryz.prog 132 #[(.pointer (some ⟨gr, 0, none⟩)), (.pointer (some ⟨gx, 0, none⟩))] w (fun v w' => v = .bool (rK 18446744073709551615 l) ∧ Kp [gx, gr] w w' ∧ (rK 18446744073709551615 l = true → Blk w' gx 43 (rspc { x with ver := nV l } X cx N cn) ∧ RdrAt8 w' gr lo hi (nR l)))  := by
 have hK := Kp.refl [gx, gr] w
 have hgxl := hb_gx.lt
 have hgrl := hb_gr.lt
 refine fn_enter (args := [(.pointer (some ⟨gr, 0, none⟩)), (.pointer (some ⟨gx, 0, none⟩))]) Tryz.func132 rfl rfl rfl ?_
 show WC _ _ _ _ [(0, (.pointer (some ⟨gr, 0, none⟩))), (1, (.pointer (some ⟨gx, 0, none⟩)))] _
 refine wc_seq (wc_regionL ?_)
 refine va rfl rfl ?_
 refine q_nil (k_then (wc_seq (wc_regionL ?_)))
 iterate 2 refine vm rfl rfl ?_
 refine wl_step (or_call0 cl118 rfl rfl (rd8_any _ gr _ _ A c l hb_gr hr (by omega) (by omega) 18446744073709551615 (by omega))) rfl rfl rfl ?_
 rintro v w1 ⟨rfl, ⟨A8, c8, hb8, hr8⟩, hg8⟩
 have hz_hg8 := hg8.size
 replace hb_gx := hb_gx.gr hg8 (by intro e; cases e; omega)
 replace hK := Kp.tg hK hg8 (by first | (left; simp; done) | (right; omega))
 have hb_gr := hb8
 have hl8 := nR_len l
 have hv8 := nV_lt l
 refine vm rfl rfl ?_
 iterate 2 refine vx rfl rfl rfl ?_
 refine vn rfl rfl ?_
 refine wl_val (ov_field0 (off := 3) fo43_3 rfl) rfl rfl rfl ?_
 refine wl_step0 (or_storeAt (cs' := [(.int .i64 x.op), (.int .i64 x.err), (.slice X x.items.length cx), (.int .u64 (↑(nV l) : Int)), (.int .i64 x.count), (.slice N x.nums.length cn)]) sz36 rfl rfl rfl hb_gx rfl rfl) rfl rfl ?_
 rintro _ w2 ⟨hN2, hg2⟩
 have hz_hg2 := hg2.size
 replace hK := Kp.tg hK hg2 (by first | (left; simp; done) | (right; omega))
 replace hb_gr := hb_gr.gr hg2 (by intro e; cases e; omega)
 replace hr8 := hr8.gr hg2 (fun _ e => by cases e; omega)
 replace hb_gx := hN2
 refine va rfl rfl ?_
 refine q_nil (k_then (wc_seq (wc_regionL ?_)))
 refine vm rfl rfl ?_
 refine va rfl rfl ?_
 refine q_nil (k_then (q_ret ?_))
 refine e_ret rfl rfl ?_
 exact ⟨rfl, hK, fun _ => ⟨hb_gx, _, _, hb_gr, hr8⟩⟩
theorem getc (w : World) (gr lo hi : Nat) (A : Option Addr) (c : Nat) (l : List UInt8) (hb_gr : Blk w gr 178 [.bool true, .slice A l.length c]) (hr : RdB w lo hi A c l) (hro : gr < lo ∨ hi ≤ gr) (hlen : l.length ≤ 140737488355328) (gx : Nat) (x : Rsp) (X : Option Addr) (cx : Nat) (N : Option Addr) (cn : Nat) (hb_gx : Blk w gx 43 (rspc x X cx N cn)) (hne : gx ≠ gr) (hxo : gx < lo ∨ hi ≤ gx) (hhi : hi ≤ w.heap.size) :
  Fn Tryz.prog 134 #[(.pointer (some ⟨gr, 0, none⟩)), (.pointer (some ⟨gx, 0, none⟩))] w (fun v w' => v = .bool (rK 1099511627776 l) ∧ Kp [gx, gr] w w' ∧ (rK 1099511627776 l = true → Blk w' gx 43 (rspc { x with count := (nV l : Int) } X cx N cn) ∧ RdrAt8 w' gr lo hi (nR l)))  := by
 have hK := Kp.refl [gx, gr] w
 have hgxl := hb_gx.lt
 have hgrl := hb_gr.lt
 refine fn_enter (args := [(.pointer (some ⟨gr, 0, none⟩)), (.pointer (some ⟨gx, 0, none⟩))]) Tryz.func134 rfl rfl rfl ?_
 show WC _ _ _ _ [(0, (.pointer (some ⟨gr, 0, none⟩))), (1, (.pointer (some ⟨gx, 0, none⟩)))] _
 refine wc_seq (wc_regionL ?_)
 refine va rfl rfl ?_
 refine q_nil (k_then (wc_seq (wc_regionL ?_)))
 refine vm rfl rfl ?_
 refine wl_step (or_call0 cl118 rfl rfl (rd8_any _ gr _ _ A c l hb_gr hr (by omega) (by omega) 1099511627776 (by omega))) rfl rfl rfl ?_
 rintro v w1 ⟨rfl, ⟨A9, c9, hb9, hr9⟩, hg9⟩
 have hz_hg9 := hg9.size
 replace hb_gx := hb_gx.gr hg9 (by intro e; cases e; omega)
 replace hK := Kp.tg hK hg9 (by first | (left; simp; done) | (right; omega))
 have hb_gr := hb9
 have hl9 := nR_len l
 have hv9 := nV_lt l
 refine vm rfl rfl ?_
 iterate 2 refine vx rfl rfl rfl ?_
 iterate 2 refine va rfl rfl ?_
 refine q_nil (k_then (wc_seq (wc_regionL ?_)))
 iterate 2 refine vm rfl rfl ?_
 refine wl_val (ov_conv Tryz.underlying36 Tryz.underlying3 rfl rfl) rfl rfl rfl ?_
 refine vn rfl rfl ?_
 refine wl_val (ov_field0 (off := 4) fo43_4 rfl) rfl rfl rfl ?_
 refine wl_step0 (or_storeAt (cs' := [(.int .i64 x.op), (.int .i64 x.err), (.slice X x.items.length cx), (.int .u64 (↑x.ver : Int)), (.int .i64 (IntKind.i64.wrap (↑(nV l) : Int))), (.slice N x.nums.length cn)]) sz3 rfl rfl rfl hb_gx rfl rfl) rfl rfl ?_
 rintro _ w2 ⟨hN2, hg2⟩
 have hz_hg2 := hg2.size
 replace hK := Kp.tg hK hg2 (by first | (left; simp; done) | (right; omega))
 replace hb_gr := hb_gr.gr hg2 (by intro e; cases e; omega)
 replace hr9 := hr9.gr hg2 (fun _ e => by cases e; omega)
 replace hb_gx := hN2
 refine q_nil (k_then (wc_seq (wc_regionL ?_)))
 refine vm rfl rfl ?_
 refine va rfl rfl ?_
 refine q_nil (k_then (q_ret ?_))
 refine e_ret rfl rfl ?_
 refine ⟨rfl, hK, fun h => ?_⟩
 have hb : nV l ≤ 1099511627776 := by unfold rK at h; rw [Bool.and_eq_true, decide_eq_true_eq] at h; exact h.2
 rw [wi64 (by omega) (by omega)] at hb_gx
 exact ⟨hb_gx, _, _, hb_gr, hr9⟩
theorem geto (w : World) (gr lo hi : Nat) (A : Option Addr) (c : Nat) (l : List UInt8) (hb_gr : Blk w gr 178 [.bool true, .slice A l.length c]) (hr : RdB w lo hi A c l) (hro : gr < lo ∨ hi ≤ gr) (hlen : l.length ≤ 140737488355328) (gx : Nat) (x : Rsp) (X : Option Addr) (cx : Nat) (N : Option Addr) (cn : Nat) (hb_gx : Blk w gx 43 (rspc x X cx N cn)) (hne : gx ≠ gr) (hxo : gx < lo ∨ hi ≤ gx) (hhi : hi ≤ w.heap.size) :
  Fn Tryz.prog 136 #[(.pointer (some ⟨gr, 0, none⟩)), (.pointer (some ⟨gx, 0, none⟩))] w (fun v w' => v = .bool (true) ∧ Kp [gx] w w' ∧ (true = true → ∃ ge, Blk w' gx 43 (rspc { x with items := [zI] } (some ⟨ge, 0, none⟩) 1 N cn) ∧ Blk w' ge 80 (irows [] 1) ∧ w.heap.size ≤ ge ∧ RdrAt8 w' gr lo hi (l)))  := by
 have hK := Kp.refl [gx] w
 have hgxl := hb_gx.lt
 have hgrl := hb_gr.lt
 refine fn_enter (args := [(.pointer (some ⟨gr, 0, none⟩)), (.pointer (some ⟨gx, 0, none⟩))]) Tryz.func136 rfl rfl rfl ?_
 show WC _ _ _ _ [(0, (.pointer (some ⟨gr, 0, none⟩))), (1, (.pointer (some ⟨gx, 0, none⟩)))] _
 refine wc_seq (wc_regionL ?_)
 refine va rfl rfl ?_
 refine q_nil (k_then (wc_seq (wc_regionL ?_)))
 refine vm rfl rfl ?_
 refine wl_step (or_makeF (n := 1) sl40 rfl rfl rfl (by decide) (by decide)) rfl rfl rfl ?_
 rintro v w1 ⟨g6, rfl, hb_g6, he6, hl6, hu6⟩
 replace hb_gr := hb_gr.ext he6
 replace hr := hr.ext he6
 replace hb_gx := hb_gx.ext he6
 replace hK := Kp.te hK he6
 have hz_he6 := he6.size
 rw [made_items (n := 1) (by decide)] at hb_g6
 refine vn rfl rfl ?_
 refine wl_val (ov_field0 (off := 2) fo43_2 rfl) rfl rfl rfl ?_
 refine wl_step0 (or_storeAt (cs' := [(.int .i64 x.op), (.int .i64 x.err), (.slice (some ⟨g6, 0, none⟩) 1 1), (.int .u64 (↑x.ver : Int)), (.int .i64 x.count), (.slice N x.nums.length cn)]) sz40 rfl rfl rfl hb_gx rfl rfl) rfl rfl ?_
 rintro _ w2 ⟨hN2, hg2⟩
 have hz_hg2 := hg2.size
 replace hb_gr := hb_gr.gr hg2 (by intro e; cases e; omega)
 replace hr := hr.gr hg2 (fun _ e => by cases e; omega)
 replace hK := Kp.tg hK hg2 (by first | (left; simp; done) | (right; omega))
 replace hb_g6 := hb_g6.gr hg2 (by intro e; cases e; omega)
 replace hb_gx := hN2
 refine q_nil (k_then (wc_seq (wc_regionL ?_)))
 refine va rfl rfl ?_
 refine q_nil (k_then (q_ret ?_))
 refine e_ret rfl rfl ?_
 exact ⟨rfl, hK, fun _ => ⟨g6, hb_gx, hb_g6, by omega, _, _, hb_gr, hr⟩⟩
theorem getm (w : World) (gr lo hi : Nat) (A : Option Addr) (c : Nat) (l : List UInt8) (hb_gr : Blk w gr 178 [.bool true, .slice A l.length c]) (hr : RdB w lo hi A c l) (hro : gr < lo ∨ hi ≤ gr) (hlen : l.length ≤ 140737488355328) (gx : Nat) (x : Rsp) (X : Option Addr) (cx : Nat) (N : Option Addr) (cn : Nat) (hb_gx : Blk w gx 43 (rspc x X cx N cn)) (hne : gx ≠ gr) (hxo : gx < lo ∨ hi ≤ gx) (hhi : hi ≤ w.heap.size) :
  Fn Tryz.prog 140 #[(.pointer (some ⟨gr, 0, none⟩)), (.pointer (some ⟨gx, 0, none⟩))] w (fun v w' => v = .bool ((rK 16 l && decide (0 < nV l))) ∧ Kp [gx, gr] w w' ∧ ((rK 16 l && decide (0 < nV l)) = true → ∃ ge, Blk w' gx 43 (rspc { x with items := List.replicate (nV l) zI } (some ⟨ge, 0, none⟩) (nV l) N cn) ∧ Blk w' ge 80 (irows [] (nV l)) ∧ w.heap.size ≤ ge ∧ RdrAt8 w' gr lo hi (nR l)))  := by
 have hK := Kp.refl [gx, gr] w
 have hgxl := hb_gx.lt
 have hgrl := hb_gr.lt
 refine fn_enter (args := [(.pointer (some ⟨gr, 0, none⟩)), (.pointer (some ⟨gx, 0, none⟩))]) Tryz.func140 rfl rfl rfl ?_
 show WC _ _ _ _ [(0, (.pointer (some ⟨gr, 0, none⟩))), (1, (.pointer (some ⟨gx, 0, none⟩)))] _
 refine wc_seq (wc_regionL ?_)
 refine va rfl rfl ?_
 refine q_nil (k_then (wc_seq (wc_regionL ?_)))
 refine vm rfl rfl ?_
 refine wl_step (or_call0 cl118 rfl rfl (rd8_any _ gr _ _ A c l hb_gr hr (by omega) (by omega) 16 (by omega))) rfl rfl rfl ?_
 rintro v w1 ⟨rfl, ⟨A9, c9, hb9, hr9⟩, hg9⟩
 have hz_hg9 := hg9.size
 replace hb_gx := hb_gx.gr hg9 (by intro e; cases e; omega)
 replace hK := Kp.tg hK hg9 (by first | (left; simp; done) | (right; omega))
 have hb_gr := hb9
 have hl9 := nR_len l
 have hv9 := nV_lt l
 refine vm rfl rfl ?_
 iterate 2 refine vx rfl rfl rfl ?_
 iterate 2 refine va rfl rfl ?_
 refine q_nil (k_then (wc_seq (wc_seq (wc_regionL ?_))))
 refine vm rfl rfl ?_
 refine q_nil (k_then ?_)
 refine wc_cond rfl (fun hc1 => ?_) (fun hc1 => ?_)
 ·have hk16 : rK 16 l = true := by simpa using hc1
  have hb : nV l ≤ 16 := by have h := hk16; unfold rK at h; rw [Bool.and_eq_true, decide_eq_true_eq] at h; exact h.2
  refine wc_regionL ?_
  iterate 2 refine vm rfl rfl ?_
  refine wl_step (or_makeF (n := nV l) sl40 rfl rfl rfl (by omega) (by simp only [maxLen]; omega)) rfl rfl rfl ?_
  rintro v w2 ⟨g15, rfl, hb_g15, he15, hl15, hu15⟩
  replace hb_gx := hb_gx.ext he15
  replace hK := Kp.te hK he15
  replace hb_gr := hb_gr.ext he15
  replace hr9 := hr9.ext he15
  have hz_he15 := he15.size
  rw [made_items hb] at hb_g15
  refine vn rfl rfl ?_
  refine wl_val (ov_field0 (off := 2) fo43_2 rfl) rfl rfl rfl ?_
  refine wl_step0 (or_storeAt (cs' := [(.int .i64 x.op), (.int .i64 x.err), (.slice (some ⟨g15, 0, none⟩) (nV l) (nV l)), (.int .u64 (↑x.ver : Int)), (.int .i64 x.count), (.slice N x.nums.length cn)]) sz40 rfl rfl rfl hb_gx rfl rfl) rfl rfl ?_
  rintro _ w3 ⟨hN3, hg3⟩
  have hz_hg3 := hg3.size
  replace hK := Kp.tg hK hg3 (by first | (left; simp; done) | (right; omega))
  replace hb_gr := hb_gr.gr hg3 (by intro e; cases e; omega)
  replace hr9 := hr9.gr hg3 (fun _ e => by cases e; omega)
  replace hb_g15 := hb_g15.gr hg3 (by intro e; cases e; omega)
  replace hb_gx := hN3
  refine q_nil (k_then (wc_seq (wc_regionL ?_)))
  refine vm rfl rfl ?_
  refine wl_spell (d := 18) rfl (v' := (.bool true)) (by rw [hk16]; rfl) ?_
  refine vm rfl rfl ?_
  refine wl_gval (ov_move rfl) rfl rfl rfl rfl rfl ?_
  refine wl_gval (ov_gtr rfl rfl) rfl rfl rfl rfl rfl ?_
  refine wl_val (ov_pick_t rfl rfl) rfl rfl rfl ?_
  refine va rfl rfl ?_
  refine q_nil (k_then (q_ret ?_))
  refine e_ret rfl rfl ?_
  refine ⟨by rw [hk16, Bool.true_and]; congr 1; rw [decide_eq_decide]; omega, hK, fun _ => ⟨g15, ?_, hb_g15, by omega, _, _, hb_gr, hr9⟩⟩
  unfold rspc
  rw [List.length_replicate]
  exact hb_gx
 ·have hk16 : rK 16 l = false := by simpa using hc1
  refine q_skip (k_then (wc_seq (wc_regionL ?_)))
  refine vm rfl rfl ?_
  refine wl_spell (d := 18) rfl (v' := (.bool false)) (by rw [hk16]; rfl) ?_
  refine vm rfl rfl ?_
  iterate 2 refine wl_gskip rfl rfl rfl rfl rfl rfl ?_
  refine wl_val (ov_pick_f rfl rfl) rfl rfl rfl ?_
  refine va rfl rfl ?_
  refine q_nil (k_then (q_ret ?_))
  refine e_ret rfl rfl ?_
  exact ⟨by rw [hk16]; rfl, hK, fun h => by rw [hk16] at h; cases h⟩
end Go.Proofs.YtiighkbehiddkaaGreat