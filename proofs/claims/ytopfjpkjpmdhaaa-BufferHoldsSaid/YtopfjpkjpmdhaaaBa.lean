/-
  The contracts of the checks that the laws of layer 27 are made of, and of the reference.
-/
import Derived.Test.YtopfjpkjpmdhaaaBv
import Derived.Test.YtopfjpkjpmdhaaaItems
namespace Go.Proofs.Ytopfjpkjpmdhaaa
open Go.RowKit
set_option linter.unusedVariables false
set_option maxRecDepth 4000
theorem ag29_3 : aggTy Try.prog 29 3 = true := by kernel_rfl
theorem cl13 : callable Try.prog 13 = true := by kernel_rfl
theorem cl17 : callable Try.prog 17 = true := by kernel_rfl
theorem cl22 : callable Try.prog 22 = true := by kernel_rfl
theorem cl24 : callable Try.prog 24 = true := by kernel_rfl
theorem cl25 : callable Try.prog 25 = true := by kernel_rfl
theorem cl50 : callable Try.prog 50 = true := by kernel_rfl
theorem cl51 : callable Try.prog 51 = true := by kernel_rfl
theorem cl52 : callable Try.prog 52 = true := by kernel_rfl
theorem cl55 : callable Try.prog 55 = true := by kernel_rfl
theorem fo29_0 : fieldOff Try.prog 29 0 = some 0 := by kernel_rfl
theorem fo29_1 : fieldOff Try.prog 29 1 = some 1 := by kernel_rfl
theorem fo29_2 : fieldOff Try.prog 29 2 = some 2 := by kernel_rfl
theorem pl29 : placesOf Try.prog 29 = some [(0, 1), (1, 1), (2, 1)] := by kernel_rfl
theorem sz29 : (Try.prog.info? 29).map (·.size) = some 3 := by kernel_rfl
theorem ze29 : zeroOf Try.prog 29 = some (.agg #[(.int .i64 0), (.slice none 0 0), (.int .u64 0)]) := by kernel_rfl

theorem take_min (l : List UInt8) (n : Nat) : l.take (min n l.length) = l.take n := by
  rcases Nat.le_total n l.length with h | h
  · rw [Nat.min_eq_left h]
  · rw [Nat.min_eq_right h, List.take_of_length_le (Nat.le_refl _), List.take_of_length_le h]
theorem drop_min (l : List UInt8) (n : Nat) : (l.drop (min n l.length)).take (l.length - min n l.length) = l.drop n := by
  rcases Nat.le_total n l.length with h | h
  · rw [Nat.min_eq_left h, List.take_of_length_le (by simp)]
  · rw [Nat.min_eq_right h, List.drop_of_length_le (Nat.le_refl _), List.drop_of_length_le h, List.take_nil]
theorem bpeek_all (l : List UInt8) : bpeek l ((l.length : Int) + 1) = (l, 0) := by rw [bpk_ok (by omega), List.take_of_length_le (by omega)]

theorem lputs_ok (w : World) (lo g : Nat) (D : Option Nat) (m : Nat) (l : List UInt8) (p t : Nat) (hbuf : Buf w lo g D m l p t) (q : List UInt8) (n : Int) (hw : ((min q.length (m - l.length) : Nat) : Int) = n) (hlq : q.length ≤ 1000) (hp : p ≤ 4611686018427387904) (hlo : lo ≤ w.heap.size) :
    Fn Try.prog 51 #[(.pointer (some ⟨g, 0, none⟩)), (.string (strB q)), (.int .i64 n)] w (fun v w' => v = .bool true ∧ (∃ D', Buf w' lo g D' m (l ++ q.take (min q.length (m - l.length))) (p + min q.length (m - l.length)) t ∧ Nx w D D') ∧ Ch g D w w') := by
  have hDs : ∀ x, D = some x → lo ≤ x ∧ x < w.heap.size := fun x e => hbuf.lt.2 x e
  have hzb := hbuf.lt.1
  have hcp := hbuf.cap
  have hC := Ch.refl g D w
  refine fn_enter (args := [(.pointer (some ⟨g, 0, none⟩)), (.string (strB q)), (.int .i64 n)]) Try.func51 rfl rfl rfl ?_
  show WC _ _ _ _ [(0, (.pointer (some ⟨g, 0, none⟩))), (1, (.string (strB q))), (2, (.int .i64 n))] _
  refine wc_seq ?_
  refine wc_regionL ?_
  refine wl_val (ov_assign rfl) rfl rfl rfl ?_
  refine q_nil ?_
  refine k_then ?_
  refine wc_seq ?_
  refine wc_regionL ?_
  refine wl_val (ov_move rfl) rfl rfl rfl ?_
  refine wl_val (ov_move rfl) rfl rfl rfl ?_
  refine wl_step (or_strBytes bt26 Try.underlying9 rfl (by simp only [maxLen]; omega)) rfl rfl rfl ?_
  rintro v w1 ⟨A12, c12, rfl, hr12, he12⟩
  replace hbuf := hbuf.ext he12
  replace hC := hC.ext he12
  have hz_he12 := he12.size
  refine wl_step (or_call0 cl18 rfl rfl (bput_ok _ lo g D m l p t hbuf _ _ _ _ q hr12 (by omega) (fun x e => by have := hDs x e; omega) (by omega) (by omega))) rfl rfl rfl ?_
  rintro v w2 ⟨rfl, ⟨D13, hb13, hN13⟩, hC13⟩
  have hDa13 : ∀ x, D = some x → (lo ≤ x ∧ x < w.heap.size) ∧ x < w1.heap.size := fun x e => ⟨hDs x e, (hbuf.lt.2 x e).2⟩
  have hz_hC13 := hC13.size
  replace hC := hC.tr hC13 (fun x e => by first | exact .inl e | (right; have := hDa13 x e; omega))
  replace hr12 := hC13.rd hr12 (by omega) (fun x e => by have := hDa13 x e; omega)
  have hDs13 : ∀ x, D13 = some x → ((lo ≤ x ∧ x < w.heap.size) ∨ w1.heap.size ≤ x) ∧ x < w2.heap.size := fun x e => ⟨(hN13 x e).imp (fun h => hDs x h) id, (hb13.lt.2 x e).2⟩
  have hzb13 := hb13.lt.1
  have hcp13 := hb13.cap
  refine wl_val (ov_move rfl) rfl rfl rfl ?_
  refine wl_val (ov_extract rfl rfl) rfl rfl rfl ?_
  refine wl_val (ov_extract rfl rfl) rfl rfl rfl ?_
  refine wl_val (ov_assign rfl) rfl rfl rfl ?_
  refine wl_val (ov_assign rfl) rfl rfl rfl ?_
  refine q_nil ?_
  refine k_then ?_
  refine wc_seq ?_
  refine wc_regionL ?_
  refine wl_val (ov_move rfl) rfl rfl rfl ?_
  refine wl_val (ov_move rfl) rfl rfl rfl ?_
  refine wl_val (ov_eql rfl rfl) rfl rfl rfl ?_
  refine wl_spell (d := 18) rfl (bt (hw)) ?_
  refine wl_val (ov_move rfl) rfl rfl rfl ?_
  refine wl_gval (ov_move rfl) rfl rfl rfl rfl rfl ?_
  refine wl_gval (ov_eql rfl rfl) rfl rfl rfl rfl rfl ?_
  refine wl_val (ov_pick_t rfl rfl) rfl rfl rfl ?_
  refine wl_val (ov_assign rfl) rfl rfl rfl ?_
  refine q_nil ?_
  refine k_then ?_
  refine q_ret ?_
  refine e_ret rfl rfl ?_
  exact ⟨rfl, ⟨_, hb13, hN13.mono (by omega)⟩, hC⟩

theorem ltakes_ok (w : World) (lo g : Nat) (D : Option Nat) (m : Nat) (l : List UInt8) (p t : Nat) (hbuf : Buf w lo g D m l p t) (n : Int) (hn1 : -9223372036854775808 ≤ n) (hn : n ≤ 9223372036854775807) (q : List UInt8) (h1 : (bpeek l n).1 = q) (h2 : ((bpeek l n).2 : Int) = 0) (ht : t ≤ 4611686018427387904) (hlo : lo ≤ w.heap.size) :
    Fn Try.prog 52 #[(.pointer (some ⟨g, 0, none⟩)), (.int .i64 n), (.string (strB q))] w (fun v w' => v = .bool true ∧ Buf w' lo g D m (l.drop (bpeek l n).1.length) p (t + (bpeek l n).1.length) ∧ Ch g D w w') := by
  have hDs : ∀ x, D = some x → lo ≤ x ∧ x < w.heap.size := fun x e => hbuf.lt.2 x e
  have hzb := hbuf.lt.1
  have hcp := hbuf.cap
  have hC := Ch.refl g D w
  refine fn_enter (args := [(.pointer (some ⟨g, 0, none⟩)), (.int .i64 n), (.string (strB q))]) Try.func52 rfl rfl rfl ?_
  show WC _ _ _ _ [(0, (.pointer (some ⟨g, 0, none⟩))), (1, (.int .i64 n)), (2, (.string (strB q)))] _
  refine wc_seq ?_
  refine wc_regionL ?_
  refine wl_val (ov_assign rfl) rfl rfl rfl ?_
  refine q_nil ?_
  refine k_then ?_
  refine wc_seq ?_
  refine wc_regionL ?_
  refine wl_val (ov_move rfl) rfl rfl rfl ?_
  refine wl_val (ov_move rfl) rfl rfl rfl ?_
  refine wl_step (or_call0 cl22 rfl rfl (btake_ok _ lo g D m l p t hbuf n (by omega) (by omega) (by omega) (by omega))) rfl rfl rfl ?_
  rintro v w1 ⟨A12, c12, rfl, ho12, hb12, hC12⟩
  have hDa12 : ∀ x, D = some x → (lo ≤ x ∧ x < w.heap.size) ∧ x < w.heap.size := fun x e => ⟨hDs x e, (hbuf.lt.2 x e).2⟩
  have hz_hC12 := hC12.size
  replace hC := hC.tr hC12 (fun x e => by first | exact .inl e | (right; have := hDa12 x e; omega))
  have hzb12 := hb12.lt.1
  have hcp12 := hb12.cap
  have hq_ho12 := fun g e => Own.lt ho12 (g := g) e
  refine wl_val (ov_move rfl) rfl rfl rfl ?_
  refine wl_val (ov_extract rfl rfl) rfl rfl rfl ?_
  refine wl_val (ov_extract rfl rfl) rfl rfl rfl ?_
  refine wl_val (ov_assign rfl) rfl rfl rfl ?_
  refine wl_val (ov_assign rfl) rfl rfl rfl ?_
  refine q_nil ?_
  refine k_then ?_
  refine wc_seq ?_
  refine wc_regionL ?_
  refine wl_val (ov_move rfl) rfl rfl rfl ?_
  refine wl_val (ov_bstr bt26 Try.underlying9 rfl (OwnB.rd ho12)) rfl rfl rfl ?_
  refine wl_val (ov_move rfl) rfl rfl rfl ?_
  refine wl_val (ov_seq rfl rfl) rfl rfl rfl ?_
  refine wl_spell (d := 18) rfl (bt (h1)) ?_
  refine wl_val (ov_move rfl) rfl rfl rfl ?_
  refine wl_gval (ov_move rfl) rfl rfl rfl rfl rfl ?_
  refine wl_gval (ov_eql rfl rfl) rfl rfl rfl rfl rfl ?_
  refine wl_spell (d := 21) rfl (bt (h2)) ?_
  refine wl_val (ov_pick_t rfl rfl) rfl rfl rfl ?_
  refine wl_val (ov_assign rfl) rfl rfl rfl ?_
  refine q_nil ?_
  refine k_then ?_
  refine q_ret ?_
  refine e_ret rfl rfl ?_
  exact ⟨rfl, hb12, hC⟩

theorem lcounts_ok (w : World) (lo g : Nat) (D : Option Nat) (m : Nat) (l : List UInt8) (p t : Nat) (hbuf : Buf w lo g D m l p t) (a b : Nat) (h1 : p = a) (h2 : t = b) :
    Fn Try.prog 25 #[(.pointer (some ⟨g, 0, none⟩)), (.int .u64 (↑a : Int)), (.int .u64 (↑b : Int))] w (fun v w' => v = .bool true ∧ Ext w w') := by
  have hDs : ∀ x, D = some x → lo ≤ x ∧ x < w.heap.size := fun x e => hbuf.lt.2 x e
  have hzb := hbuf.lt.1
  have hcp := hbuf.cap
  have hE := ext_refl w
  refine fn_enter (args := [(.pointer (some ⟨g, 0, none⟩)), (.int .u64 (↑a : Int)), (.int .u64 (↑b : Int))]) Try.func25 rfl rfl rfl ?_
  show WC _ _ _ _ [(0, (.pointer (some ⟨g, 0, none⟩))), (1, (.int .u64 (↑a : Int))), (2, (.int .u64 (↑b : Int)))] _
  refine wc_seq ?_
  refine wc_regionL ?_
  refine wl_val (ov_assign rfl) rfl rfl rfl ?_
  refine q_nil ?_
  refine k_then ?_
  refine wc_seq ?_
  refine wc_regionL ?_
  refine wl_val (ov_move rfl) rfl rfl rfl ?_
  refine wl_step (or_call0 cl55 rfl rfl (bcounts_ok _ _ _ _ _ _ _ _ hbuf)) rfl rfl rfl ?_
  rintro v w1 ⟨rfl, he11⟩
  replace hbuf := hbuf.ext he11
  replace hE := hE.tr he11
  have hz_he11 := he11.size
  refine wl_val (ov_move rfl) rfl rfl rfl ?_
  refine wl_val (ov_extract rfl rfl) rfl rfl rfl ?_
  refine wl_val (ov_extract rfl rfl) rfl rfl rfl ?_
  refine wl_val (ov_assign rfl) rfl rfl rfl ?_
  refine wl_val (ov_assign rfl) rfl rfl rfl ?_
  refine q_nil ?_
  refine k_then ?_
  refine wc_seq ?_
  refine wc_regionL ?_
  refine wl_val (ov_move rfl) rfl rfl rfl ?_
  refine wl_val (ov_move rfl) rfl rfl rfl ?_
  refine wl_val (ov_eql rfl rfl) rfl rfl rfl ?_
  refine wl_spell (d := 16) rfl (bt (by omega)) ?_
  refine wl_val (ov_move rfl) rfl rfl rfl ?_
  refine wl_gval (ov_move rfl) rfl rfl rfl rfl rfl ?_
  refine wl_gval (ov_move rfl) rfl rfl rfl rfl rfl ?_
  refine wl_gval (ov_eql rfl rfl) rfl rfl rfl rfl rfl ?_
  refine wl_spell (d := 20) rfl (bt (by omega)) ?_
  refine wl_val (ov_pick_t rfl rfl) rfl rfl rfl ?_
  refine wl_val (ov_assign rfl) rfl rfl rfl ?_
  refine q_nil ?_
  refine k_then ?_
  refine q_ret ?_
  refine e_ret rfl rfl ?_
  exact ⟨rfl, hE⟩

theorem lcounts_zero (w : World) (g : Nat) (hb_g : Blk w g 52 [.int .i64 0, .slice none 0 0, .int .i64 0, .int .u64 0, .int .u64 0]) :
    Fn Try.prog 25 #[(.pointer (some ⟨g, 0, none⟩)), (.int .u64 0), (.int .u64 0)] w (fun v w' => v = .bool true ∧ Ext w w') := by
  have hE := ext_refl w
  refine fn_enter (args := [(.pointer (some ⟨g, 0, none⟩)), (.int .u64 0), (.int .u64 0)]) Try.func25 rfl rfl rfl ?_
  show WC _ _ _ _ [(0, (.pointer (some ⟨g, 0, none⟩))), (1, (.int .u64 0)), (2, (.int .u64 0))] _
  refine wc_seq ?_
  refine wc_regionL ?_
  refine wl_val (ov_assign rfl) rfl rfl rfl ?_
  refine q_nil ?_
  refine k_then ?_
  refine wc_seq ?_
  refine wc_regionL ?_
  refine wl_val (ov_move rfl) rfl rfl rfl ?_
  refine wl_step (or_call0 cl55 rfl rfl (bcounts_zero _ _ hb_g)) rfl rfl rfl ?_
  rintro v w1 ⟨rfl, he11⟩
  replace hb_g := hb_g.ext he11
  replace hE := hE.tr he11
  have hz_he11 := he11.size
  refine wl_val (ov_move rfl) rfl rfl rfl ?_
  refine wl_val (ov_extract rfl rfl) rfl rfl rfl ?_
  refine wl_val (ov_extract rfl rfl) rfl rfl rfl ?_
  refine wl_val (ov_assign rfl) rfl rfl rfl ?_
  refine wl_val (ov_assign rfl) rfl rfl rfl ?_
  refine q_nil ?_
  refine k_then ?_
  refine wc_seq ?_
  refine wc_regionL ?_
  refine wl_val (ov_move rfl) rfl rfl rfl ?_
  refine wl_val (ov_move rfl) rfl rfl rfl ?_
  refine wl_val (ov_eql rfl rfl) rfl rfl rfl ?_
  refine wl_val (ov_move rfl) rfl rfl rfl ?_
  refine wl_gval (ov_move rfl) rfl rfl rfl rfl rfl ?_
  refine wl_gval (ov_move rfl) rfl rfl rfl rfl rfl ?_
  refine wl_gval (ov_eql rfl rfl) rfl rfl rfl rfl rfl ?_
  refine wl_val (ov_pick_t rfl rfl) rfl rfl rfl ?_
  refine wl_val (ov_assign rfl) rfl rfl rfl ?_
  refine q_nil ?_
  refine k_then ?_
  refine q_ret ?_
  refine e_ret rfl rfl ?_
  exact ⟨rfl, hE⟩

theorem lcounts_nil (w : World) :
    Fn Try.prog 25 #[(.pointer none), (.int .u64 0), (.int .u64 0)] w (fun v w' => v = .bool true ∧ Ext w w') := by
  have hE := ext_refl w
  refine fn_enter (args := [(.pointer none), (.int .u64 0), (.int .u64 0)]) Try.func25 rfl rfl rfl ?_
  show WC _ _ _ _ [(0, (.pointer none)), (1, (.int .u64 0)), (2, (.int .u64 0))] _
  refine wc_seq ?_
  refine wc_regionL ?_
  refine wl_val (ov_assign rfl) rfl rfl rfl ?_
  refine q_nil ?_
  refine k_then ?_
  refine wc_seq ?_
  refine wc_regionL ?_
  refine wl_val (ov_move rfl) rfl rfl rfl ?_
  refine wl_step (or_call0 cl55 rfl rfl (bcounts_nil _)) rfl rfl rfl ?_
  rintro v w1 ⟨rfl, he11⟩
  replace hE := hE.tr he11
  have hz_he11 := he11.size
  refine wl_val (ov_move rfl) rfl rfl rfl ?_
  refine wl_val (ov_extract rfl rfl) rfl rfl rfl ?_
  refine wl_val (ov_extract rfl rfl) rfl rfl rfl ?_
  refine wl_val (ov_assign rfl) rfl rfl rfl ?_
  refine wl_val (ov_assign rfl) rfl rfl rfl ?_
  refine q_nil ?_
  refine k_then ?_
  refine wc_seq ?_
  refine wc_regionL ?_
  refine wl_val (ov_move rfl) rfl rfl rfl ?_
  refine wl_val (ov_move rfl) rfl rfl rfl ?_
  refine wl_val (ov_eql rfl rfl) rfl rfl rfl ?_
  refine wl_val (ov_move rfl) rfl rfl rfl ?_
  refine wl_gval (ov_move rfl) rfl rfl rfl rfl rfl ?_
  refine wl_gval (ov_move rfl) rfl rfl rfl rfl rfl ?_
  refine wl_gval (ov_eql rfl rfl) rfl rfl rfl rfl rfl ?_
  refine wl_val (ov_pick_t rfl rfl) rfl rfl rfl ?_
  refine wl_val (ov_assign rfl) rfl rfl rfl ?_
  refine q_nil ?_
  refine k_then ?_
  refine q_ret ?_
  refine e_ret rfl rfl ?_
  exact ⟨rfl, hE⟩

set_option maxRecDepth 20000 in
set_option maxHeartbeats 2000000 in
theorem known27_any (w : World) :
    Fn Try.prog 16 #[] w (fun v w' => v = .bool true ∧ Ext w w') := by
  have hE := ext_refl w
  refine fn_enter (args := []) Try.func16 rfl rfl rfl ?_
  show WC _ _ _ _ [] _
  refine wc_seq ?_
  refine wc_regionL ?_
  refine wl_val (ov_assign rfl) rfl rfl rfl ?_
  refine q_nil ?_
  refine k_then ?_
  refine wc_seq ?_
  refine wc_regionL ?_
  refine wl_step (or_call0 cl13 rfl rfl (bnew_ok _ 4 (by omega) (by omega))) rfl rfl rfl ?_
  rintro v w1 ⟨gn11, rfl, hb11, he11, hg111⟩
  replace hE := hE.tr he11
  have hz_he11 := he11.size
  have hDs11 : ∀ x, (none : Option Nat) = some x → w.heap.size ≤ x ∧ x < w1.heap.size := fun x e => by cases e
  have hzb11 := hb11.lt.1
  have hcp11 := hb11.cap
  refine wl_val (ov_move rfl) rfl rfl rfl ?_
  refine wl_val (ov_extract rfl rfl) rfl rfl rfl ?_
  refine wl_val (ov_extract rfl rfl) rfl rfl rfl ?_
  refine wl_val (ov_assign rfl) rfl rfl rfl ?_
  refine wl_val (ov_assign rfl) rfl rfl rfl ?_
  refine q_nil ?_
  refine k_then ?_
  refine wc_seq ?_
  refine wc_seq ?_
  refine wc_regionL ?_
  refine wl_val (ov_move rfl) rfl rfl rfl ?_
  refine wl_val (ov_nilptr Try.underlying22 rfl) rfl rfl rfl ?_
  refine wl_val (ov_move rfl) rfl rfl rfl ?_
  refine wl_gval (ov_move rfl) rfl rfl rfl rfl rfl ?_
  refine wl_gval (ov_neq rfl rfl) rfl rfl rfl rfl rfl ?_
  refine wl_val (ov_pick_f rfl rfl) rfl rfl rfl ?_
  refine wl_val (ov_move rfl) rfl rfl rfl ?_
  refine wl_gval (ov_move rfl) rfl rfl rfl rfl rfl ?_
  refine wl_gstep (or_call0 cl51 rfl rfl (lputs_ok _ w.heap.size gn11 none 4 [] 0 0 hb11 [97, 98, 99] 3 (by decide) (by simp) (by omega) (by omega))) rfl rfl rfl rfl rfl ?_
  rintro v w2 ⟨rfl, ⟨D22, hb22, hN22⟩, hC22⟩
  have hDa22 : ∀ x, none = some x → (w.heap.size ≤ x ∧ x < w1.heap.size) ∧ x < w1.heap.size := fun x e => ⟨hDs11 x e, (hb11.lt.2 x e).2⟩
  have hz_hC22 := hC22.size
  replace hE := hC22.e0 hE (by omega) (fun x e => by have := hDa22 x e; omega)
  replace hb22 : Buf _ w.heap.size gn11 D22 4 [97, 98, 99] 3 0 := hb22
  have hDs22 : ∀ x, D22 = some x → ((w.heap.size ≤ x ∧ x < w1.heap.size) ∨ w1.heap.size ≤ x) ∧ x < w2.heap.size := fun x e => ⟨(hN22 x e).imp (fun h => hDs11 x h) id, (hb22.lt.2 x e).2⟩
  have hzb22 := hb22.lt.1
  have hcp22 := hb22.cap
  refine wl_gval (ov_not (b := true) rfl) rfl rfl rfl rfl rfl ?_
  refine wl_val (ov_pick_f rfl rfl) rfl rfl rfl ?_
  refine wl_val (ov_move rfl) rfl rfl rfl ?_
  refine wl_gval (ov_move rfl) rfl rfl rfl rfl rfl ?_
  refine wl_gstep (or_call0 cl51 rfl rfl (lputs_ok _ w.heap.size gn11 D22 4 [97, 98, 99] 3 0 hb22 [100, 101, 102] 1 (by decide) (by simp) (by omega) (by omega))) rfl rfl rfl rfl rfl ?_
  rintro v w3 ⟨rfl, ⟨D27, hb27, hN27⟩, hC27⟩
  have hDa27 : ∀ x, D22 = some x → (((w.heap.size ≤ x ∧ x < w1.heap.size) ∨ w1.heap.size ≤ x) ∧ x < w2.heap.size) ∧ x < w2.heap.size := fun x e => ⟨hDs22 x e, (hb22.lt.2 x e).2⟩
  have hz_hC27 := hC27.size
  replace hE := hC27.e0 hE (by omega) (fun x e => by have := hDa27 x e; omega)
  replace hb27 : Buf _ w.heap.size gn11 D27 4 [97, 98, 99, 100] 4 0 := hb27
  have hDs27 : ∀ x, D27 = some x → ((((w.heap.size ≤ x ∧ x < w1.heap.size) ∨ w1.heap.size ≤ x) ∧ x < w2.heap.size) ∨ w2.heap.size ≤ x) ∧ x < w3.heap.size := fun x e => ⟨(hN27 x e).imp (fun h => hDs22 x h) id, (hb27.lt.2 x e).2⟩
  have hzb27 := hb27.lt.1
  have hcp27 := hb27.cap
  refine wl_gval (ov_not (b := true) rfl) rfl rfl rfl rfl rfl ?_
  refine wl_val (ov_pick_f rfl rfl) rfl rfl rfl ?_
  refine wl_val (ov_move rfl) rfl rfl rfl ?_
  refine wl_gval (ov_move rfl) rfl rfl rfl rfl rfl ?_
  refine wl_gstep (or_call0 cl20 rfl rfl (blen_ok _ _ _ _ _ _ _ _ hb27)) rfl rfl rfl rfl rfl ?_
  rintro v w4 ⟨rfl, he32⟩
  replace hE := hE.tr he32
  replace hb27 := hb27.ext he32
  have hz_he32 := he32.size
  refine wl_gval (ov_neq rfl rfl) rfl rfl rfl rfl rfl ?_
  refine wl_spell (d := 33) rfl (bf (by decide)) ?_
  refine wl_val (ov_pick_f rfl rfl) rfl rfl rfl ?_
  refine wl_val (ov_move rfl) rfl rfl rfl ?_
  refine wl_gval (ov_move rfl) rfl rfl rfl rfl rfl ?_
  refine wl_gstep (or_call0 cl19 rfl rfl (broom_ok _ _ _ _ _ _ _ _ hb27)) rfl rfl rfl rfl rfl ?_
  rintro v w5 ⟨rfl, he37⟩
  replace hE := hE.tr he37
  replace hb27 := hb27.ext he37
  have hz_he37 := he37.size
  refine wl_gval (ov_neq rfl rfl) rfl rfl rfl rfl rfl ?_
  refine wl_spell (d := 38) rfl (bf (by decide)) ?_
  refine wl_val (ov_pick_f rfl rfl) rfl rfl rfl ?_
  refine q_nil ?_
  refine k_then ?_
  refine wc_cond_f rfl ?_
  refine q_skip ?_
  refine k_then ?_
  refine wc_seq ?_
  refine wc_regionL ?_
  refine wl_val (ov_move rfl) rfl rfl rfl ?_
  refine wl_step (or_call0 cl27 rfl rfl (bpeek_ok _ w.heap.size gn11 D27 4 [97, 98, 99, 100] 4 0 hb27 2 (by omega) (by omega))) rfl rfl rfl ?_
  rintro v w6 ⟨A42, c42, rfl, ho42, he42⟩
  replace hE := hE.tr he42
  replace hb27 := hb27.ext he42
  have hz_he42 := he42.size
  have hq_ho42 := fun g e => Own.lt ho42 (g := g) e
  refine wl_val (ov_move rfl) rfl rfl rfl ?_
  refine wl_val (ov_extract rfl rfl) rfl rfl rfl ?_
  refine wl_val (ov_extract rfl rfl) rfl rfl rfl ?_
  refine wl_val (ov_assign rfl) rfl rfl rfl ?_
  refine wl_val (ov_assign rfl) rfl rfl rfl ?_
  refine q_nil ?_
  refine k_then ?_
  refine wc_seq ?_
  refine wc_seq ?_
  refine wc_regionL ?_
  refine wl_val (ov_move rfl) rfl rfl rfl ?_
  refine wl_val (ov_bstr bt26 Try.underlying9 rfl (OwnB.rd ho42)) rfl rfl rfl ?_
  refine wl_val (ov_sne rfl rfl) rfl rfl rfl ?_
  refine wl_spell (d := 47) rfl (bf (by decide)) ?_
  refine wl_val (ov_move rfl) rfl rfl rfl ?_
  refine wl_gval (ov_move rfl) rfl rfl rfl rfl rfl ?_
  refine wl_gval (ov_neq rfl rfl) rfl rfl rfl rfl rfl ?_
  refine wl_spell (d := 50) rfl (bf (by decide)) ?_
  refine wl_val (ov_pick_f rfl rfl) rfl rfl rfl ?_
  refine wl_val (ov_move rfl) rfl rfl rfl ?_
  refine wl_gval (ov_move rfl) rfl rfl rfl rfl rfl ?_
  refine wl_gstep (or_call0 cl52 rfl rfl (ltakes_ok _ w.heap.size gn11 D27 4 [97, 98, 99, 100] 4 0 hb27 3 (by omega) (by omega) [97, 98, 99] (by decide) (by decide) (by omega) (by omega))) rfl rfl rfl rfl rfl ?_
  rintro v w7 ⟨rfl, hb54, hC54⟩
  have hDa54 : ∀ x, D27 = some x → (((((w.heap.size ≤ x ∧ x < w1.heap.size) ∨ w1.heap.size ≤ x) ∧ x < w2.heap.size) ∨ w2.heap.size ≤ x) ∧ x < w3.heap.size) ∧ x < w6.heap.size := fun x e => ⟨hDs27 x e, (hb27.lt.2 x e).2⟩
  have hz_hC54 := hC54.size
  replace hE := hC54.e0 hE (by omega) (fun x e => by have := hDa54 x e; omega)
  replace ho42 := hC54.own ho42 (fun x e => by first | exact ⟨by have := hq_ho42 x e; omega, fun e2 => by have h1 := hq_ho42 x e; have h2 := hDa54 x e2; omega⟩)
  replace hb54 : Buf _ w.heap.size gn11 D27 4 [100] 4 3 := hb54
  have hzb54 := hb54.lt.1
  have hcp54 := hb54.cap
  refine wl_gval (ov_not (b := true) rfl) rfl rfl rfl rfl rfl ?_
  refine wl_val (ov_pick_f rfl rfl) rfl rfl rfl ?_
  refine wl_val (ov_move rfl) rfl rfl rfl ?_
  refine wl_gval (ov_move rfl) rfl rfl rfl rfl rfl ?_
  refine wl_gstep (or_buildBytes (l := [120, 121, 122, 119]) bt26 (os := [.const (.int .u8 120), .const (.int .u8 121), .const (.int .u8 122), .const (.int .u8 119)]) rfl rfl rfl (by decide)) rfl rfl rfl rfl rfl ?_
  rintro v w8 ⟨A59, c59, rfl, ho59, he59⟩
  replace hE := hE.tr he59
  replace ho42 := Own.ext ho42 he59
  replace hb54 := hb54.ext he59
  have hz_he59 := he59.size
  have hq_ho59 := fun g e => Own.lt ho59 (g := g) e
  refine wl_gstep (or_markBytes bt26 rfl ho59 (by simp)) rfl rfl rfl rfl rfl ?_
  rintro v w9 ⟨rfl, hr60, he60⟩
  have hz_he60 := he60.size
  replace hE := hE.gr he60 (fun g e => by have := hq_ho59 g e; omega)
  replace ho42 := Own.gr ho42 he60 (own_apart fun g e g2 e2 => by have := hq_ho42 g e; have := hq_ho59 g2 e2; omega)
  replace hb54 := by first | exact hb54.gr he60 (fun x e => by have := hq_ho59 x e; omega) (fun x e e2 => by have h1 := hq_ho59 x e; have h2 := hDs27 x e2; omega)
  refine wl_gstep (or_call0 cl17 rfl rfl (bputall_ok _ w.heap.size gn11 D27 4 [100] 4 3 hb54 _ _ _ _ [120, 121, 122, 119] hr60 (by omega) (fun x e => by have := hDs27 x e; omega) (by omega) (by omega))) rfl rfl rfl rfl rfl ?_
  rintro v w10 ⟨rfl, ⟨D61, hb61, hN61⟩, hC61⟩
  have hDa61 : ∀ x, D27 = some x → (((((w.heap.size ≤ x ∧ x < w1.heap.size) ∨ w1.heap.size ≤ x) ∧ x < w2.heap.size) ∨ w2.heap.size ≤ x) ∧ x < w3.heap.size) ∧ x < w9.heap.size := fun x e => ⟨hDs27 x e, (hb54.lt.2 x e).2⟩
  have hz_hC61 := hC61.size
  replace hE := hC61.e0 hE (by omega) (fun x e => by have := hDa61 x e; omega)
  replace ho42 := hC61.own ho42 (fun x e => by first | exact ⟨by have := hq_ho42 x e; omega, fun e2 => by have h1 := hq_ho42 x e; have h2 := hDa61 x e2; omega⟩)
  replace hr60 := hC61.rd hr60 (by omega) (fun x e => by have := hDa61 x e; omega)
  replace hb61 : Buf _ w.heap.size gn11 D61 4 [100] 4 3 := hb61
  have hDs61 : ∀ x, D61 = some x → ((((((w.heap.size ≤ x ∧ x < w1.heap.size) ∨ w1.heap.size ≤ x) ∧ x < w2.heap.size) ∨ w2.heap.size ≤ x) ∧ x < w3.heap.size) ∨ w9.heap.size ≤ x) ∧ x < w10.heap.size := fun x e => ⟨(hN61 x e).imp (fun h => hDs27 x h) id, (hb61.lt.2 x e).2⟩
  have hzb61 := hb61.lt.1
  have hcp61 := hb61.cap
  refine wl_gval (ov_neq rfl rfl) rfl rfl rfl rfl rfl ?_
  refine wl_spell (d := 62) rfl (bf (by decide)) ?_
  refine wl_val (ov_pick_f rfl rfl) rfl rfl rfl ?_
  refine wl_val (ov_move rfl) rfl rfl rfl ?_
  refine wl_gval (ov_move rfl) rfl rfl rfl rfl rfl ?_
  refine wl_gstep (or_buildBytes (l := [120, 121, 122]) bt26 (os := [.const (.int .u8 120), .const (.int .u8 121), .const (.int .u8 122)]) rfl rfl rfl (by decide)) rfl rfl rfl rfl rfl ?_
  rintro v w11 ⟨A66, c66, rfl, ho66, he66⟩
  replace hE := hE.tr he66
  replace ho42 := Own.ext ho42 he66
  replace hr60 := hr60.ext he66
  replace hb61 := hb61.ext he66
  have hz_he66 := he66.size
  have hq_ho66 := fun g e => Own.lt ho66 (g := g) e
  refine wl_gstep (or_markBytes bt26 rfl ho66 (by simp)) rfl rfl rfl rfl rfl ?_
  rintro v w12 ⟨rfl, hr67, he67⟩
  have hz_he67 := he67.size
  replace hE := hE.gr he67 (fun g e => by have := hq_ho66 g e; omega)
  replace ho42 := Own.gr ho42 he67 (own_apart fun g e g2 e2 => by have := hq_ho42 g e; have := hq_ho66 g2 e2; omega)
  replace hr60 := hr60.gr he67 (fun g e => by have := hq_ho66 g e; omega)
  replace hb61 := by first | exact hb61.gr he67 (fun x e => by have := hq_ho66 x e; omega) (fun x e e2 => by have h1 := hq_ho66 x e; have h2 := hDs61 x e2; omega)
  refine wl_gstep (or_call0 cl17 rfl rfl (bputall_ok _ w.heap.size gn11 D61 4 [100] 4 3 hb61 _ _ _ _ [120, 121, 122] hr67 (by omega) (fun x e => by have := hDs61 x e; omega) (by omega) (by omega))) rfl rfl rfl rfl rfl ?_
  rintro v w13 ⟨rfl, ⟨D68, hb68, hN68⟩, hC68⟩
  have hDa68 : ∀ x, D61 = some x → (((((((w.heap.size ≤ x ∧ x < w1.heap.size) ∨ w1.heap.size ≤ x) ∧ x < w2.heap.size) ∨ w2.heap.size ≤ x) ∧ x < w3.heap.size) ∨ w9.heap.size ≤ x) ∧ x < w10.heap.size) ∧ x < w12.heap.size := fun x e => ⟨hDs61 x e, (hb61.lt.2 x e).2⟩
  have hz_hC68 := hC68.size
  replace hE := hC68.e0 hE (by omega) (fun x e => by have := hDa68 x e; omega)
  replace ho42 := hC68.own ho42 (fun x e => by first | exact ⟨by have := hq_ho42 x e; omega, fun e2 => by have h1 := hq_ho42 x e; have h2 := hDa68 x e2; omega⟩)
  replace hr60 := hC68.rd hr60 (by omega) (fun x e => by have := hDa68 x e; omega)
  replace hr67 := hC68.rd hr67 (by omega) (fun x e => by have := hDa68 x e; omega)
  replace hb68 : Buf _ w.heap.size gn11 D68 4 [100, 120, 121, 122] 7 3 := hb68
  have hDs68 : ∀ x, D68 = some x → ((((((((w.heap.size ≤ x ∧ x < w1.heap.size) ∨ w1.heap.size ≤ x) ∧ x < w2.heap.size) ∨ w2.heap.size ≤ x) ∧ x < w3.heap.size) ∨ w9.heap.size ≤ x) ∧ x < w10.heap.size) ∨ w12.heap.size ≤ x) ∧ x < w13.heap.size := fun x e => ⟨(hN68 x e).imp (fun h => hDs61 x h) id, (hb68.lt.2 x e).2⟩
  have hzb68 := hb68.lt.1
  have hcp68 := hb68.cap
  refine wl_gval (ov_neq rfl rfl) rfl rfl rfl rfl rfl ?_
  refine wl_spell (d := 69) rfl (bf (by decide)) ?_
  refine wl_val (ov_pick_f rfl rfl) rfl rfl rfl ?_
  refine wl_val (ov_move rfl) rfl rfl rfl ?_
  refine wl_gval (ov_move rfl) rfl rfl rfl rfl rfl ?_
  refine wl_gstep (or_call0 cl52 rfl rfl (ltakes_ok _ w.heap.size gn11 D68 4 [100, 120, 121, 122] 7 3 hb68 9 (by omega) (by omega) [100, 120, 121, 122] (by decide) (by decide) (by omega) (by omega))) rfl rfl rfl rfl rfl ?_
  rintro v w14 ⟨rfl, hb73, hC73⟩
  have hDa73 : ∀ x, D68 = some x → (((((((((w.heap.size ≤ x ∧ x < w1.heap.size) ∨ w1.heap.size ≤ x) ∧ x < w2.heap.size) ∨ w2.heap.size ≤ x) ∧ x < w3.heap.size) ∨ w9.heap.size ≤ x) ∧ x < w10.heap.size) ∨ w12.heap.size ≤ x) ∧ x < w13.heap.size) ∧ x < w13.heap.size := fun x e => ⟨hDs68 x e, (hb68.lt.2 x e).2⟩
  have hz_hC73 := hC73.size
  replace hE := hC73.e0 hE (by omega) (fun x e => by have := hDa73 x e; omega)
  replace ho42 := hC73.own ho42 (fun x e => by first | exact ⟨by have := hq_ho42 x e; omega, fun e2 => by have h1 := hq_ho42 x e; have h2 := hDa73 x e2; omega⟩)
  replace hr60 := hC73.rd hr60 (by omega) (fun x e => by have := hDa73 x e; omega)
  replace hr67 := hC73.rd hr67 (by omega) (fun x e => by have := hDa73 x e; omega)
  replace hb73 : Buf _ w.heap.size gn11 D68 4 [] 7 7 := hb73
  have hzb73 := hb73.lt.1
  have hcp73 := hb73.cap
  refine wl_gval (ov_not (b := true) rfl) rfl rfl rfl rfl rfl ?_
  refine wl_val (ov_pick_f rfl rfl) rfl rfl rfl ?_
  refine q_nil ?_
  refine k_then ?_
  refine wc_cond_f rfl ?_
  refine q_skip ?_
  refine k_then ?_
  refine wc_seq ?_
  refine wc_seq ?_
  refine wc_regionL ?_
  refine wl_val (ov_move rfl) rfl rfl rfl ?_
  refine wl_step (or_call0 cl51 rfl rfl (lputs_ok _ w.heap.size gn11 D68 4 [] 7 7 hb73 [112, 113] 2 (by decide) (by simp) (by omega) (by omega))) rfl rfl rfl ?_
  rintro v w15 ⟨rfl, ⟨D77, hb77, hN77⟩, hC77⟩
  have hDa77 : ∀ x, D68 = some x → (((((((((w.heap.size ≤ x ∧ x < w1.heap.size) ∨ w1.heap.size ≤ x) ∧ x < w2.heap.size) ∨ w2.heap.size ≤ x) ∧ x < w3.heap.size) ∨ w9.heap.size ≤ x) ∧ x < w10.heap.size) ∨ w12.heap.size ≤ x) ∧ x < w13.heap.size) ∧ x < w14.heap.size := fun x e => ⟨hDs68 x e, (hb73.lt.2 x e).2⟩
  have hz_hC77 := hC77.size
  replace hE := hC77.e0 hE (by omega) (fun x e => by have := hDa77 x e; omega)
  replace ho42 := hC77.own ho42 (fun x e => by first | exact ⟨by have := hq_ho42 x e; omega, fun e2 => by have h1 := hq_ho42 x e; have h2 := hDa77 x e2; omega⟩)
  replace hr60 := hC77.rd hr60 (by omega) (fun x e => by have := hDa77 x e; omega)
  replace hr67 := hC77.rd hr67 (by omega) (fun x e => by have := hDa77 x e; omega)
  replace hb77 : Buf _ w.heap.size gn11 D77 4 [112, 113] 9 7 := hb77
  have hDs77 : ∀ x, D77 = some x → ((((((((((w.heap.size ≤ x ∧ x < w1.heap.size) ∨ w1.heap.size ≤ x) ∧ x < w2.heap.size) ∨ w2.heap.size ≤ x) ∧ x < w3.heap.size) ∨ w9.heap.size ≤ x) ∧ x < w10.heap.size) ∨ w12.heap.size ≤ x) ∧ x < w13.heap.size) ∨ w14.heap.size ≤ x) ∧ x < w15.heap.size := fun x e => ⟨(hN77 x e).imp (fun h => hDs68 x h) id, (hb77.lt.2 x e).2⟩
  have hzb77 := hb77.lt.1
  have hcp77 := hb77.cap
  refine wl_val (ov_not (b := true) rfl) rfl rfl rfl ?_
  refine wl_val (ov_move rfl) rfl rfl rfl ?_
  refine wl_gval (ov_move rfl) rfl rfl rfl rfl rfl ?_
  refine wl_gstep (or_call0 cl23 rfl rfl (bskipm_ok _ w.heap.size gn11 D77 4 [112, 113] 9 7 hb77 3 (by omega) (by omega) (by omega) (by omega))) rfl rfl rfl rfl rfl ?_
  rintro v w16 ⟨rfl, hb81, hC81⟩
  have hDa81 : ∀ x, D77 = some x → (((((((((((w.heap.size ≤ x ∧ x < w1.heap.size) ∨ w1.heap.size ≤ x) ∧ x < w2.heap.size) ∨ w2.heap.size ≤ x) ∧ x < w3.heap.size) ∨ w9.heap.size ≤ x) ∧ x < w10.heap.size) ∨ w12.heap.size ≤ x) ∧ x < w13.heap.size) ∨ w14.heap.size ≤ x) ∧ x < w15.heap.size) ∧ x < w15.heap.size := fun x e => ⟨hDs77 x e, (hb77.lt.2 x e).2⟩
  have hz_hC81 := hC81.size
  replace hE := hC81.e0 hE (by omega) (fun x e => by have := hDa81 x e; omega)
  replace ho42 := hC81.own ho42 (fun x e => by first | exact ⟨by have := hq_ho42 x e; omega, fun e2 => by have h1 := hq_ho42 x e; have h2 := hDa81 x e2; omega⟩)
  replace hr60 := hC81.rd hr60 (by omega) (fun x e => by have := hDa81 x e; omega)
  replace hr67 := hC81.rd hr67 (by omega) (fun x e => by have := hDa81 x e; omega)
  replace hb81 : Buf _ w.heap.size gn11 D77 4 [112, 113] 9 7 := hb81
  have hzb81 := hb81.lt.1
  have hcp81 := hb81.cap
  refine wl_gval (ov_neq rfl rfl) rfl rfl rfl rfl rfl ?_
  refine wl_spell (d := 82) rfl (bf (by decide)) ?_
  refine wl_val (ov_pick_f rfl rfl) rfl rfl rfl ?_
  refine wl_val (ov_move rfl) rfl rfl rfl ?_
  refine wl_gval (ov_move rfl) rfl rfl rfl rfl rfl ?_
  refine wl_gstep (or_call0 cl23 rfl rfl (bskipm_ok _ w.heap.size gn11 D77 4 [112, 113] 9 7 hb81 1 (by omega) (by omega) (by omega) (by omega))) rfl rfl rfl rfl rfl ?_
  rintro v w17 ⟨rfl, hb86, hC86⟩
  have hDa86 : ∀ x, D77 = some x → (((((((((((w.heap.size ≤ x ∧ x < w1.heap.size) ∨ w1.heap.size ≤ x) ∧ x < w2.heap.size) ∨ w2.heap.size ≤ x) ∧ x < w3.heap.size) ∨ w9.heap.size ≤ x) ∧ x < w10.heap.size) ∨ w12.heap.size ≤ x) ∧ x < w13.heap.size) ∨ w14.heap.size ≤ x) ∧ x < w15.heap.size) ∧ x < w16.heap.size := fun x e => ⟨hDs77 x e, (hb81.lt.2 x e).2⟩
  have hz_hC86 := hC86.size
  replace hE := hC86.e0 hE (by omega) (fun x e => by have := hDa86 x e; omega)
  replace ho42 := hC86.own ho42 (fun x e => by first | exact ⟨by have := hq_ho42 x e; omega, fun e2 => by have h1 := hq_ho42 x e; have h2 := hDa86 x e2; omega⟩)
  replace hr60 := hC86.rd hr60 (by omega) (fun x e => by have := hDa86 x e; omega)
  replace hr67 := hC86.rd hr67 (by omega) (fun x e => by have := hDa86 x e; omega)
  replace hb86 : Buf _ w.heap.size gn11 D77 4 [113] 9 8 := hb86
  have hzb86 := hb86.lt.1
  have hcp86 := hb86.cap
  refine wl_gval (ov_neq rfl rfl) rfl rfl rfl rfl rfl ?_
  refine wl_spell (d := 87) rfl (bf (by decide)) ?_
  refine wl_val (ov_pick_f rfl rfl) rfl rfl rfl ?_
  refine q_nil ?_
  refine k_then ?_
  refine wc_cond_f rfl ?_
  refine q_skip ?_
  refine k_then ?_
  refine wc_seq ?_
  refine wc_regionL ?_
  refine wl_val (ov_move rfl) rfl rfl rfl ?_
  refine wl_step (or_call0 cl24 rfl rfl (bclear_ok _ w.heap.size gn11 D77 4 [113] 9 8 hb86 (by omega) (by omega))) rfl rfl rfl ?_
  rintro v w18 ⟨rfl, hb91, hC91⟩
  have hDa91 : ∀ x, D77 = some x → (((((((((((w.heap.size ≤ x ∧ x < w1.heap.size) ∨ w1.heap.size ≤ x) ∧ x < w2.heap.size) ∨ w2.heap.size ≤ x) ∧ x < w3.heap.size) ∨ w9.heap.size ≤ x) ∧ x < w10.heap.size) ∨ w12.heap.size ≤ x) ∧ x < w13.heap.size) ∨ w14.heap.size ≤ x) ∧ x < w15.heap.size) ∧ x < w17.heap.size := fun x e => ⟨hDs77 x e, (hb86.lt.2 x e).2⟩
  have hz_hC91 := hC91.size
  replace hE := hC91.e0 hE (by omega) (fun x e => by have := hDa91 x e; omega)
  replace ho42 := hC91.own ho42 (fun x e => by first | exact ⟨by have := hq_ho42 x e; omega, fun e2 => by have h1 := hq_ho42 x e; have h2 := hDa91 x e2; omega⟩)
  replace hr60 := hC91.rd hr60 (by omega) (fun x e => by have := hDa91 x e; omega)
  replace hr67 := hC91.rd hr67 (by omega) (fun x e => by have := hDa91 x e; omega)
  replace hb91 : Buf _ w.heap.size gn11 D77 4 [] 9 9 := hb91
  have hzb91 := hb91.lt.1
  have hcp91 := hb91.cap
  refine wl_val (ov_move rfl) rfl rfl rfl ?_
  refine wl_val (ov_extract rfl rfl) rfl rfl rfl ?_
  refine wl_val (ov_extract rfl rfl) rfl rfl rfl ?_
  refine wl_val (ov_assign rfl) rfl rfl rfl ?_
  refine wl_val (ov_assign rfl) rfl rfl rfl ?_
  refine q_nil ?_
  refine k_then ?_
  refine wc_seq ?_
  refine wc_seq ?_
  refine wc_regionL ?_
  refine wl_val (ov_move rfl) rfl rfl rfl ?_
  refine wl_val (ov_neq rfl rfl) rfl rfl rfl ?_
  refine wl_spell (d := 95) rfl (bf (by decide)) ?_
  refine wl_val (ov_move rfl) rfl rfl rfl ?_
  refine wl_gval (ov_move rfl) rfl rfl rfl rfl rfl ?_
  refine wl_gval (ov_neq rfl rfl) rfl rfl rfl rfl rfl ?_
  refine wl_val (ov_pick_f rfl rfl) rfl rfl rfl ?_
  refine wl_val (ov_move rfl) rfl rfl rfl ?_
  refine wl_gval (ov_move rfl) rfl rfl rfl rfl rfl ?_
  refine wl_gstep (or_call0 cl25 rfl rfl (lcounts_ok _ w.heap.size gn11 D77 4 [] 9 9 hb91 9 9 (by omega) (by omega))) rfl rfl rfl rfl rfl ?_
  rintro v w19 ⟨rfl, he102⟩
  replace hE := hE.tr he102
  replace ho42 := Own.ext ho42 he102
  replace hr60 := hr60.ext he102
  replace hr67 := hr67.ext he102
  replace hb91 := hb91.ext he102
  have hz_he102 := he102.size
  refine wl_gval (ov_not (b := true) rfl) rfl rfl rfl rfl rfl ?_
  refine wl_val (ov_pick_f rfl rfl) rfl rfl rfl ?_
  refine q_nil ?_
  refine k_then ?_
  refine wc_cond_f rfl ?_
  refine q_skip ?_
  refine k_then ?_
  refine wc_seq ?_
  refine wc_regionL ?_
  refine wl_step (or_call0 cl13 rfl rfl (bnew_bad _ 0 (by omega))) rfl rfl rfl ?_
  rintro v w20 ⟨rfl, he106⟩
  replace hE := hE.tr he106
  replace ho42 := Own.ext ho42 he106
  replace hr60 := hr60.ext he106
  replace hr67 := hr67.ext he106
  replace hb91 := hb91.ext he106
  have hz_he106 := he106.size
  refine wl_val (ov_move rfl) rfl rfl rfl ?_
  refine wl_val (ov_extract rfl rfl) rfl rfl rfl ?_
  refine wl_val (ov_extract rfl rfl) rfl rfl rfl ?_
  refine wl_val (ov_assign rfl) rfl rfl rfl ?_
  refine wl_val (ov_assign rfl) rfl rfl rfl ?_
  refine q_nil ?_
  refine k_then ?_
  refine wc_seq ?_
  refine wc_regionL ?_
  refine wl_step (or_call0 cl13 rfl rfl (bnew_bad _ 1048577 (by omega))) rfl rfl rfl ?_
  rintro v w21 ⟨rfl, he110⟩
  replace hE := hE.tr he110
  replace ho42 := Own.ext ho42 he110
  replace hr60 := hr60.ext he110
  replace hr67 := hr67.ext he110
  replace hb91 := hb91.ext he110
  have hz_he110 := he110.size
  refine wl_val (ov_move rfl) rfl rfl rfl ?_
  refine wl_val (ov_extract rfl rfl) rfl rfl rfl ?_
  refine wl_val (ov_extract rfl rfl) rfl rfl rfl ?_
  refine wl_val (ov_assign rfl) rfl rfl rfl ?_
  refine wl_val (ov_assign rfl) rfl rfl rfl ?_
  refine q_nil ?_
  refine k_then ?_
  refine wc_seq ?_
  refine wc_regionL ?_
  refine wl_val (ov_move rfl) rfl rfl rfl ?_
  refine wl_step (or_call0 cl22 rfl rfl (btake_ok _ w.heap.size gn11 D77 4 [] 9 9 hb91 (-1) (by omega) (by omega) (by omega) (by omega))) rfl rfl rfl ?_
  rintro v w22 ⟨A115, c115, rfl, ho115, hb115, hC115⟩
  have hDa115 : ∀ x, D77 = some x → (((((((((((w.heap.size ≤ x ∧ x < w1.heap.size) ∨ w1.heap.size ≤ x) ∧ x < w2.heap.size) ∨ w2.heap.size ≤ x) ∧ x < w3.heap.size) ∨ w9.heap.size ≤ x) ∧ x < w10.heap.size) ∨ w12.heap.size ≤ x) ∧ x < w13.heap.size) ∨ w14.heap.size ≤ x) ∧ x < w15.heap.size) ∧ x < w21.heap.size := fun x e => ⟨hDs77 x e, (hb91.lt.2 x e).2⟩
  have hz_hC115 := hC115.size
  replace hE := hC115.e0 hE (by omega) (fun x e => by have := hDa115 x e; omega)
  replace ho42 := hC115.own ho42 (fun x e => by first | exact ⟨by have := hq_ho42 x e; omega, fun e2 => by have h1 := hq_ho42 x e; have h2 := hDa115 x e2; omega⟩)
  replace hr60 := hC115.rd hr60 (by omega) (fun x e => by have := hDa115 x e; omega)
  replace hr67 := hC115.rd hr67 (by omega) (fun x e => by have := hDa115 x e; omega)
  have hzb115 := hb115.lt.1
  have hcp115 := hb115.cap
  have hq_ho115 := fun g e => Own.lt ho115 (g := g) e
  refine wl_val (ov_move rfl) rfl rfl rfl ?_
  refine wl_val (ov_extract rfl rfl) rfl rfl rfl ?_
  refine wl_val (ov_extract rfl rfl) rfl rfl rfl ?_
  refine wl_val (ov_assign rfl) rfl rfl rfl ?_
  refine wl_val (ov_assign rfl) rfl rfl rfl ?_
  refine q_nil ?_
  refine k_then ?_
  refine wc_seq ?_
  refine wc_regionL ?_
  refine wl_val (ov_move rfl) rfl rfl rfl ?_
  refine wl_val (ov_nilptr Try.underlying22 rfl) rfl rfl rfl ?_
  refine wl_val (ov_move rfl) rfl rfl rfl ?_
  refine wl_gval (ov_move rfl) rfl rfl rfl rfl rfl ?_
  refine wl_gval (ov_eql rfl rfl) rfl rfl rfl rfl rfl ?_
  refine wl_val (ov_pick_t rfl rfl) rfl rfl rfl ?_
  refine wl_val (ov_move rfl) rfl rfl rfl ?_
  refine wl_gval (ov_move rfl) rfl rfl rfl rfl rfl ?_
  refine wl_gval (ov_nilptr Try.underlying22 rfl) rfl rfl rfl rfl rfl ?_
  refine wl_val (ov_pick_t rfl rfl) rfl rfl rfl ?_
  refine wl_val (ov_move rfl) rfl rfl rfl ?_
  refine wl_gval (ov_move rfl) rfl rfl rfl rfl rfl ?_
  refine wl_gval (ov_eql rfl rfl) rfl rfl rfl rfl rfl ?_
  refine wl_val (ov_pick_t rfl rfl) rfl rfl rfl ?_
  refine wl_val (ov_move rfl) rfl rfl rfl ?_
  refine wl_gval (ov_move rfl) rfl rfl rfl rfl rfl ?_
  refine wl_gval (ov_eql rfl rfl) rfl rfl rfl rfl rfl ?_
  refine wl_spell (d := 134) rfl (bt (by decide)) ?_
  refine wl_val (ov_pick_t rfl rfl) rfl rfl rfl ?_
  refine wl_val (ov_assign rfl) rfl rfl rfl ?_
  refine q_nil ?_
  refine k_then ?_
  refine q_ret ?_
  refine e_ret rfl rfl ?_
  exact ⟨rfl, hE⟩

theorem rnew27_ok (w : World) (m : Nat) (h1 : 1 ≤ m) (h2 : m ≤ 1048576) :
    Fn Try.prog 14 #[(.int .i64 (↑m : Int))] w (fun v w' => v = .tuple #[.agg #[.int .i64 (m : Int), .slice none 0 0, .int .u64 0], .int .i64 0] ∧ Ext w w') := by
  have hE := ext_refl w
  refine fn_enter (args := [(.int .i64 (↑m : Int))]) Try.func14 rfl rfl rfl ?_
  show WC _ _ _ _ [(0, (.int .i64 (↑m : Int)))] _
  refine wc_seq ?_
  refine wc_regionL ?_
  refine wl_step (or_alloc (cs := [(.int .i64 0), (.slice none 0 0), (.int .u64 0)]) ze29 rfl) rfl rfl rfl ?_
  rintro v w1 ⟨g2, rfl, hb_g2, he2, hl2, hu2⟩
  replace hE := hE.tr he2
  have hz_he2 := he2.size
  refine wl_val (ov_assign rfl) rfl rfl rfl ?_
  refine q_nil ?_
  refine k_then ?_
  refine wc_seq ?_
  refine wc_seq ?_
  refine wc_regionL ?_
  refine wl_val (ov_move rfl) rfl rfl rfl ?_
  refine wl_val (ov_lss rfl rfl) rfl rfl rfl ?_
  refine wl_spell (d := 5) rfl (bf (by omega)) ?_
  refine wl_val (ov_move rfl) rfl rfl rfl ?_
  refine wl_gval (ov_move rfl) rfl rfl rfl rfl rfl ?_
  refine wl_gval (ov_gtr rfl rfl) rfl rfl rfl rfl rfl ?_
  refine wl_spell (d := 8) rfl (bf (by omega)) ?_
  refine wl_val (ov_pick_f rfl rfl) rfl rfl rfl ?_
  refine q_nil ?_
  refine k_then ?_
  refine wc_cond_f rfl ?_
  refine q_skip ?_
  refine k_then ?_
  refine wc_seq ?_
  refine wc_regionL ?_
  refine wl_val (ov_move rfl) rfl rfl rfl ?_
  refine wl_val (ov_build (cs := [(.int .i64 (↑m : Int)), (.slice none 0 0), (.int .u64 0)]) ze29 pl29 rfl rfl) rfl rfl rfl ?_
  refine wl_step0 (or_storeBlk (vs := [(.int .i64 (↑m : Int)), (.slice none 0 0), (.int .u64 0)]) sz29 rfl rfl (by simp [Value.oneCell']) hb_g2 rfl) rfl rfl ?_
  rintro _ w2 ⟨hN2, hg2⟩
  have hz_hg2 := hg2.size
  replace hE := hE.gr hg2 (fun _ e => by cases e; omega)
  replace hb_g2 := hN2
  refine wl_val (ov_assign rfl) rfl rfl rfl ?_
  refine q_nil ?_
  refine k_then ?_
  refine q_ret ?_
  refine e_retL (rs := [.cell 2 29, .tmp 3]) (vs := [.agg #[(.int .i64 (↑m : Int)), (.slice none 0 0), (.int .u64 0)], (.int .i64 0)]) rfl ⟨⟨_, _, [(.int .i64 (↑m : Int)), (.slice none 0 0), (.int .u64 0)], rfl, ag29_3, hb_g2, rfl⟩, rfl, trivial⟩ ?_
  exact ⟨rfl, hE⟩

theorem rnew27_bad (w : World) (m : Int) (h : m < 1 ∨ 1048576 < m) :
    Fn Try.prog 14 #[(.int .i64 m)] w (fun v w' => v = .tuple #[.agg #[.int .i64 0, .slice none 0 0, .int .u64 0], .int .i64 2] ∧ Ext w w') := by
  have hE := ext_refl w
  refine fn_enter (args := [(.int .i64 m)]) Try.func14 rfl rfl rfl ?_
  show WC _ _ _ _ [(0, (.int .i64 m))] _
  refine wc_seq ?_
  refine wc_regionL ?_
  refine wl_step (or_alloc (cs := [(.int .i64 0), (.slice none 0 0), (.int .u64 0)]) ze29 rfl) rfl rfl rfl ?_
  rintro v w1 ⟨g2, rfl, hb_g2, he2, hl2, hu2⟩
  replace hE := hE.tr he2
  have hz_he2 := he2.size
  refine wl_val (ov_assign rfl) rfl rfl rfl ?_
  refine q_nil ?_
  refine k_then ?_
  refine wc_seq ?_
  refine wc_seq ?_
  refine wc_regionL ?_
  refine wl_val (ov_move rfl) rfl rfl rfl ?_
  refine wl_val (ov_lss rfl rfl) rfl rfl rfl ?_
  refine wl_case_d (d := 5) rfl (fun h5 => ?_) (fun h5 => ?_)
  · refine wl_val (ov_move rfl) rfl rfl rfl ?_
    refine wl_gskip rfl rfl rfl rfl rfl rfl ?_
    refine wl_gskip rfl rfl rfl rfl rfl rfl ?_
    refine wl_val (ov_pick_t rfl rfl) rfl rfl rfl ?_
    refine q_nil ?_
    refine k_then ?_
    refine wc_cond_t rfl ?_
    refine wc_seq ?_
    refine wc_regionL ?_
    refine wl_val (ov_build (cs := [(.int .i64 0), (.slice none 0 0), (.int .u64 0)]) ze29 pl29 rfl rfl) rfl rfl rfl ?_
    refine wl_step0 (or_storeBlk (vs := [(.int .i64 0), (.slice none 0 0), (.int .u64 0)]) sz29 rfl rfl (by simp [Value.oneCell']) hb_g2 rfl) rfl rfl ?_
    rintro _ w2 ⟨hN2, hg2⟩
    have hz_hg2 := hg2.size
    replace hE := hE.gr hg2 (fun _ e => by cases e; omega)
    replace hb_g2 := hN2
    refine wl_val (ov_assign rfl) rfl rfl rfl ?_
    refine q_nil ?_
    refine k_then ?_
    refine q_ret ?_
    refine k_thenR ?_
    refine e_retL (rs := [.cell 2 29, .tmp 3]) (vs := [.agg #[(.int .i64 0), (.slice none 0 0), (.int .u64 0)], (.int .i64 2)]) rfl ⟨⟨_, _, [(.int .i64 0), (.slice none 0 0), (.int .u64 0)], rfl, ag29_3, hb_g2, rfl⟩, rfl, trivial⟩ ?_
    exact ⟨rfl, hE⟩
  · refine wl_val (ov_move rfl) rfl rfl rfl ?_
    refine wl_gval (ov_move rfl) rfl rfl rfl rfl rfl ?_
    refine wl_gval (ov_gtr rfl rfl) rfl rfl rfl rfl rfl ?_
    refine wl_spell (d := 8) rfl (bt (by omega)) ?_
    refine wl_val (ov_pick_f rfl rfl) rfl rfl rfl ?_
    refine q_nil ?_
    refine k_then ?_
    refine wc_cond_t rfl ?_
    refine wc_seq ?_
    refine wc_regionL ?_
    refine wl_val (ov_build (cs := [(.int .i64 0), (.slice none 0 0), (.int .u64 0)]) ze29 pl29 rfl rfl) rfl rfl rfl ?_
    refine wl_step0 (or_storeBlk (vs := [(.int .i64 0), (.slice none 0 0), (.int .u64 0)]) sz29 rfl rfl (by simp [Value.oneCell']) hb_g2 rfl) rfl rfl ?_
    rintro _ w202 ⟨hN202, hg202⟩
    have hz_hg202 := hg202.size
    replace hE := hE.gr hg202 (fun _ e => by cases e; omega)
    replace hb_g2 := hN202
    refine wl_val (ov_assign rfl) rfl rfl rfl ?_
    refine q_nil ?_
    refine k_then ?_
    refine q_ret ?_
    refine k_thenR ?_
    refine e_retL (rs := [.cell 2 29, .tmp 3]) (vs := [.agg #[(.int .i64 0), (.slice none 0 0), (.int .u64 0)], (.int .i64 2)]) rfl ⟨⟨_, _, [(.int .i64 0), (.slice none 0 0), (.int .u64 0)], rfl, ag29_3, hb_g2, rfl⟩, rfl, trivial⟩ ?_
    exact ⟨rfl, hE⟩

theorem radd_any (w : World) (lo hi : Nat) (m : Nat) (A : Option Addr) (c : Nat) (l : List UInt8) (p : Nat) (hr : RdB w lo hi A c l) (hlm : l.length ≤ m) (hm : m ≤ 1048576) (lo2 hi2 : Nat) (B : Option Addr) (c2 : Nat) (q : List UInt8) (hr2 : RdB w lo2 hi2 B c2 q) (hp : p ≤ 4611686018427387904) :
    Fn Try.prog 56 #[(.agg #[(.int .i64 (↑m : Int)), (.slice A l.length c), (.int .u64 (↑p : Int))]), (.slice B q.length c2)] w (fun v w' => ∃ A' c', v = .tuple #[.agg #[.int .i64 (m : Int), .slice A' (l ++ q.take (min q.length (m - l.length))).length c', .int .u64 ((p + (min q.length (m - l.length)) : Nat) : Int)], .int .i64 ((min q.length (m - l.length)) : Nat)] ∧ OwnB w' w.heap.size 5 A' c' (l ++ q.take (min q.length (m - l.length))) ∧ Ext w w') := by
  replace hr := hr.top
  replace hr2 := hr2.top
  have hE := ext_refl w
  refine fn_enter (args := [(.agg #[(.int .i64 (↑m : Int)), (.slice A l.length c), (.int .u64 (↑p : Int))]), (.slice B q.length c2)]) Try.func56 rfl rfl rfl ?_
  show WC _ _ _ _ [(0, (.agg #[(.int .i64 (↑m : Int)), (.slice A l.length c), (.int .u64 (↑p : Int))])), (1, (.slice B q.length c2))] _
  refine wc_seq ?_
  refine wc_regionL ?_
  refine wl_step (or_box (cs := [(.int .i64 (↑m : Int)), (.slice A l.length c), (.int .u64 (↑p : Int))]) rfl rfl) rfl rfl rfl ?_
  rintro v w1 ⟨g2, rfl, hb_g2, he2, hl2, hu2⟩
  replace hr := hr.ext he2
  replace hr2 := hr2.ext he2
  replace hE := hE.tr he2
  have hz_he2 := he2.size
  refine wl_step (or_alloc (cs := [(.int .i64 0), (.slice none 0 0), (.int .u64 0)]) ze29 rfl) rfl rfl rfl ?_
  rintro v w2 ⟨g4, rfl, hb_g4, he4, hl4, hu4⟩
  replace hr := hr.ext he4
  replace hr2 := hr2.ext he4
  replace hE := hE.tr he4
  replace hb_g2 := hb_g2.ext he4
  have hz_he4 := he4.size
  refine wl_val (ov_assign rfl) rfl rfl rfl ?_
  refine q_nil ?_
  refine k_then ?_
  refine wc_seq ?_
  refine wc_regionL ?_
  refine wl_val (ov_move rfl) rfl rfl rfl ?_
  refine wl_val (ov_len Try.underlying26 rfl) rfl rfl rfl ?_
  refine wl_val (ov_field0 (off := 0) fo29_0 rfl) rfl rfl rfl ?_
  refine wl_val (ov_loadAt oc3 rfl hb_g2 rfl) rfl rfl rfl ?_
  refine wl_val (ov_field0 (off := 1) fo29_1 rfl) rfl rfl rfl ?_
  refine wl_val (ov_loadAt oc26 rfl hb_g2 rfl) rfl rfl rfl ?_
  refine wl_val (ov_len Try.underlying26 rfl) rfl rfl rfl ?_
  refine wl_val (ov_sub rfl rfl (wi64 (by omega) (by omega))) rfl rfl rfl ?_
  refine wl_val (ov_min rfl rfl (m := (((min q.length (m - l.length)) : Nat) : Int)) (by omega)) rfl rfl rfl ?_
  refine wl_val (ov_assign rfl) rfl rfl rfl ?_
  refine q_nil ?_
  refine k_then ?_
  refine wc_seq ?_
  refine wc_draw mixed 6 [(16, eqv (.pointer (some ⟨g2, 1, none⟩))), (17, eqv (.slice A l.length c)), (18, isOwnB w2.heap.size 5 l), (19, eqv (.slice B q.length c2)), (20, eqv (.int .i64 (((min q.length (m - l.length)) : Nat) : Int))), (21, isB 0 (q.take (min q.length (m - l.length))))] [[], [0], [1], [], [], [3, 4]] _ [] [] (fun _ _ h => h) trivial (by kernel_rfl) rfl ⟨stb_eqv _, stb_eqv _, stb_isOwnB _ _ _, stb_eqv _, stb_eqv _, stb_isB _ _, trivial⟩ ⟨?_, ?_, ?_, ?_, ?_, ?_, trivial⟩ ?_
  · intro wd hxE
    replace hr := hr.ext hxE
    replace hr2 := hr2.ext hxE
    replace hE := hE.tr hxE
    replace hb_g2 := hb_g2.ext hxE
    replace hb_g4 := hb_g4.ext hxE
    have hz_hxE := hxE.size
    show OpG _ _ _ _ _ _
    exact og_plain rfl (ox_val (ov_field0 (off := 1) fo29_1 rfl))
  · intro wd hxE
    replace hr := hr.ext hxE
    replace hr2 := hr2.ext hxE
    replace hE := hE.tr hxE
    replace hb_g2 := hb_g2.ext hxE
    replace hb_g4 := hb_g4.ext hxE
    have hz_hxE := hxE.size
    rintro _ rfl
    show OpG _ _ _ _ _ _
    exact og_plain rfl (ox_val (ov_loadAt oc26 rfl hb_g2 rfl))
  · intro wd hxE
    replace hr := hr.ext hxE
    replace hr2 := hr2.ext hxE
    replace hE := hE.tr hxE
    replace hb_g2 := hb_g2.ext hxE
    replace hb_g4 := hb_g4.ext hxE
    have hz_hxE := hxE.size
    rintro _ rfl
    show OpG _ _ _ _ _ _
    refine og_plain rfl (OpRun.mono (or_bappend0 bt26 rfl rfl hr (by omega)) ?_)
    rintro v w3 ⟨A18, c18, rfl, ho18, he18⟩
    replace hr := hr.ext he18
    replace hr2 := hr2.ext he18
    replace hE := hE.tr he18
    replace hb_g2 := hb_g2.ext he18
    replace hb_g4 := hb_g4.ext he18
    have hz_he18 := he18.size
    have hq_ho18 := fun g e => Own.lt ho18 (g := g) e
    exact ⟨⟨A18, c18, rfl, Own.mono ho18 (by omega)⟩, he18⟩
  · intro wd hxE
    replace hr := hr.ext hxE
    replace hr2 := hr2.ext hxE
    replace hE := hE.tr hxE
    replace hb_g2 := hb_g2.ext hxE
    replace hb_g4 := hb_g4.ext hxE
    have hz_hxE := hxE.size
    show OpG _ _ _ _ _ _
    exact og_plain rfl (ox_val (ov_move rfl))
  · intro wd hxE
    replace hr := hr.ext hxE
    replace hr2 := hr2.ext hxE
    replace hE := hE.tr hxE
    replace hb_g2 := hb_g2.ext hxE
    replace hb_g4 := hb_g4.ext hxE
    have hz_hxE := hxE.size
    show OpG _ _ _ _ _ _
    exact og_plain rfl (ox_val (ov_move rfl))
  · intro wd hxE
    replace hr := hr.ext hxE
    replace hr2 := hr2.ext hxE
    replace hE := hE.tr hxE
    replace hb_g2 := hb_g2.ext hxE
    replace hb_g4 := hb_g4.ext hxE
    have hz_hxE := hxE.size
    rintro _ rfl
    rintro _ rfl
    show OpG _ _ _ _ _ _
    have hcap21 := RdB.cap hr2
    refine og_plain rfl (OpRun.mono (or_bslice bt26 rfl hr2 (bounds_h rfl (by omega) (by omega)) (by omega) (by omega) (by omega) (by omega)) ?_)
    rintro v _ ⟨rfl, A21, c21, rfl, hr21, hl21⟩
    have hs21 : (q.drop 0).take ((Int.toNat (((min q.length (m - l.length)) : Nat) : Int)) - 0) = (q.take (min q.length (m - l.length))) := (by rw [List.drop_zero, Nat.sub_zero, Int.toNat_natCast])
    rw [hs21] at hr21 hl21; rw [hs21]; clear hs21
    exact ⟨⟨A21, c21, rfl, (Rd.top hr21).mono (Nat.zero_le _) (Nat.le_refl _)⟩, ext_refl _⟩
  · intro wf2 hf2
    replace hr := hr.ext hf2
    replace hr2 := hr2.ext hf2
    replace hE := hE.tr hf2
    replace hb_g2 := hb_g2.ext hf2
    replace hb_g4 := hb_g4.ext hf2
    have hz_hf2 := hf2.size
    rintro _ rfl
    rintro _ rfl
    rintro _ ⟨A18, c18, rfl, ho18⟩
    rintro _ rfl
    rintro _ rfl
    rintro _ ⟨A21, c21, rfl, hr21⟩
    have hq_ho18 := fun g e => Own.lt ho18 (g := g) e
    show WL _ _ _ [_, _, _] _ _ _
    refine wl_step (or_bappend bt26 rfl ho18 rfl hr21 (by simp; omega) (by omega)) rfl rfl rfl ?_
    rintro v w3 ⟨A22, c22, rfl, ho22, hg22, ha22⟩
    have hq22 := fun g e => Own.lt ho18 (g := g) e
    have hz_hg22 := hg22.size
    replace hr := hr.gr hg22 (fun g e => by have := hq22 g e; omega)
    replace hr2 := hr2.gr hg22 (fun g e => by have := hq22 g e; omega)
    replace hE := hE.gr hg22 (fun g e => by have := hq22 g e; omega)
    replace hb_g2 := hb_g2.gr hg22 (by first | (intro e; have := hq22 _ e; omega) | exact own_blk_ne ho18 hb_g2 (by decide))
    replace hb_g4 := hb_g4.gr hg22 (by first | (intro e; have := hq22 _ e; omega) | exact own_blk_ne ho18 hb_g4 (by decide))
    have hq_ho22 := fun g e => Own.lt ho22 (g := g) e
    refine wl_val (ov_field0 (off := 1) fo29_1 rfl) rfl rfl rfl ?_
    refine wl_step0 (or_storeAt (cs' := [(.int .i64 (↑m : Int)), (.slice A22 (l ++ (q.take (min q.length (m - l.length)))).length c22), (.int .u64 (↑p : Int))]) sz26 rfl rfl rfl hb_g2 rfl rfl) rfl rfl ?_
    rintro _ w4 ⟨hN4, hg4⟩
    have hz_hg4 := hg4.size
    replace hr := hr.gr hg4 (fun _ e => by cases e; omega)
    replace hr2 := hr2.gr hg4 (fun _ e => by cases e; omega)
    replace hE := hE.gr hg4 (fun _ e => by cases e; omega)
    replace hb_g4 := hb_g4.gr hg4 (by intro e; cases e; omega)
    replace ho22 := Own.gr ho22 hg4 (by first | exact .inl rfl | (right; intro e; first | (have := hq_ho22 _ e; omega) | (have := Own.lt ho22 e; omega) | exact own_blk_ne ho22 hb_g2 (by decide) e))
    replace hb_g2 := hN4
    refine q_nil ?_
    refine k_then ?_
    refine wc_seq ?_
    refine wc_regionL ?_
    refine wl_val (ov_field0 (off := 2) fo29_2 rfl) rfl rfl rfl ?_
    refine wl_val (ov_loadAt oc27 rfl hb_g2 rfl) rfl rfl rfl ?_
    refine wl_val (ov_move rfl) rfl rfl rfl ?_
    refine wl_val (ov_conv Try.underlying3 Try.underlying27 rfl (wu64 (by omega) (by omega))) rfl rfl rfl ?_
    refine wl_val (ov_add rfl rfl (addN p (min q.length (m - l.length)) (by omega))) rfl rfl rfl ?_
    refine wl_val (ov_field0 (off := 2) fo29_2 rfl) rfl rfl rfl ?_
    refine wl_step0 (or_storeAt (cs' := [(.int .i64 (↑m : Int)), (.slice A22 (l ++ (q.take (min q.length (m - l.length)))).length c22), (.int .u64 ((p + (min q.length (m - l.length)) : Nat) : Int))]) sz27 rfl rfl rfl hb_g2 rfl rfl) rfl rfl ?_
    rintro _ w5 ⟨hN5, hg5⟩
    have hz_hg5 := hg5.size
    replace hr := hr.gr hg5 (fun _ e => by cases e; omega)
    replace hr2 := hr2.gr hg5 (fun _ e => by cases e; omega)
    replace hE := hE.gr hg5 (fun _ e => by cases e; omega)
    replace hb_g4 := hb_g4.gr hg5 (by intro e; cases e; omega)
    replace ho22 := Own.gr ho22 hg5 (by first | exact .inl rfl | (right; intro e; first | (have := hq_ho22 _ e; omega) | (have := Own.lt ho22 e; omega) | exact own_blk_ne ho22 hb_g2 (by decide) e))
    replace hb_g2 := hN5
    refine q_nil ?_
    refine k_then ?_
    refine wc_seq ?_
    refine wc_regionL ?_
    refine wl_val (ov_loadBlk (cs := [(.int .i64 (↑m : Int)), (.slice A22 (l ++ (q.take (min q.length (m - l.length)))).length c22), (.int .u64 ((p + (min q.length (m - l.length)) : Nat) : Int))]) ag29_3 rfl hb_g2) rfl rfl rfl ?_
    refine wl_val (ov_move rfl) rfl rfl rfl ?_
    refine wl_step0 (or_storeBlk (vs := [(.int .i64 (↑m : Int)), (.slice A22 (l ++ (q.take (min q.length (m - l.length)))).length c22), (.int .u64 ((p + (min q.length (m - l.length)) : Nat) : Int))]) sz29 rfl rfl (by simp [Value.oneCell']) hb_g4 rfl) rfl rfl ?_
    rintro _ w6 ⟨hN6, hg6⟩
    have hz_hg6 := hg6.size
    replace hr := hr.gr hg6 (fun _ e => by cases e; omega)
    replace hr2 := hr2.gr hg6 (fun _ e => by cases e; omega)
    replace hE := hE.gr hg6 (fun _ e => by cases e; omega)
    replace hb_g2 := hb_g2.gr hg6 (by intro e; cases e; omega)
    replace ho22 := Own.gr ho22 hg6 (by first | exact .inl rfl | (right; intro e; first | (have := hq_ho22 _ e; omega) | (have := Own.lt ho22 e; omega) | exact own_blk_ne ho22 hb_g4 (by decide) e))
    replace hb_g4 := hN6
    refine wl_val (ov_assign rfl) rfl rfl rfl ?_
    refine q_nil ?_
    refine k_then ?_
    refine q_ret ?_
    refine e_retL (rs := [.cell 4 29, .tmp 5]) (vs := [.agg #[(.int .i64 (↑m : Int)), (.slice A22 (l ++ (q.take (min q.length (m - l.length)))).length c22), (.int .u64 ((p + (min q.length (m - l.length)) : Nat) : Int))], (.int .i64 (((min q.length (m - l.length)) : Nat) : Int))]) rfl ⟨⟨_, _, [(.int .i64 (↑m : Int)), (.slice A22 (l ++ (q.take (min q.length (m - l.length)))).length c22), (.int .u64 ((p + (min q.length (m - l.length)) : Nat) : Int))], rfl, ag29_3, hb_g4, rfl⟩, rfl, trivial⟩ ?_
    exact ⟨A22, c22, rfl, Own.mono ho22 (by omega), hE⟩

theorem rtaken_any (w : World) (A : Option Addr) (c : Nat) (l : List UInt8) (m p t : Nat) (h : p = t + l.length) (hp : p ≤ 4611686018427387904) :
    Fn Try.prog 50 #[(.agg #[(.int .i64 (↑m : Int)), (.slice A l.length c), (.int .u64 (↑p : Int))])] w (fun v w' => v = .int .u64 (t : Int) ∧ Ext w w') := by
  have hE := ext_refl w
  refine fn_enter (args := [(.agg #[(.int .i64 (↑m : Int)), (.slice A l.length c), (.int .u64 (↑p : Int))])]) Try.func50 rfl rfl rfl ?_
  show WC _ _ _ _ [(0, (.agg #[(.int .i64 (↑m : Int)), (.slice A l.length c), (.int .u64 (↑p : Int))]))] _
  refine wc_seq ?_
  refine wc_regionL ?_
  refine wl_step (or_box (cs := [(.int .i64 (↑m : Int)), (.slice A l.length c), (.int .u64 (↑p : Int))]) rfl rfl) rfl rfl rfl ?_
  rintro v w1 ⟨g1, rfl, hb_g1, he1, hl1, hu1⟩
  replace hE := hE.tr he1
  have hz_he1 := he1.size
  refine wl_val (ov_assign rfl) rfl rfl rfl ?_
  refine q_nil ?_
  refine k_then ?_
  refine wc_seq ?_
  refine wc_regionL ?_
  refine wl_val (ov_field0 (off := 2) fo29_2 rfl) rfl rfl rfl ?_
  refine wl_val (ov_loadAt oc27 rfl hb_g1 rfl) rfl rfl rfl ?_
  refine wl_val (ov_field0 (off := 1) fo29_1 rfl) rfl rfl rfl ?_
  refine wl_val (ov_loadAt oc26 rfl hb_g1 rfl) rfl rfl rfl ?_
  refine wl_val (ov_len Try.underlying26 rfl) rfl rfl rfl ?_
  refine wl_val (ov_conv Try.underlying3 Try.underlying27 rfl (wu64 (by omega) (by omega))) rfl rfl rfl ?_
  refine wl_val (ov_sub rfl rfl (m := (t : Int)) (by rw [h, show ((t + l.length : Nat) : Int) - (l.length : Int) = (t : Int) by omega]; exact wu64 (by omega) (by omega))) rfl rfl rfl ?_
  refine wl_val (ov_assign rfl) rfl rfl rfl ?_
  refine q_nil ?_
  refine k_then ?_
  refine q_ret ?_
  refine e_ret rfl rfl ?_
  exact ⟨rfl, hE⟩

theorem rtake_neg (w : World) (lo hi : Nat) (m : Nat) (A : Option Addr) (c : Nat) (l : List UInt8) (p : Nat) (hr : RdB w lo hi A c l) (hlm : l.length ≤ m) (hm : m ≤ 1048576) (n : Int) (hn : n < 0) :
    Fn Try.prog 57 #[(.agg #[(.int .i64 (↑m : Int)), (.slice A l.length c), (.int .u64 (↑p : Int))]), (.int .i64 n)] w (fun v w' => v = .tuple #[.agg #[.int .i64 (m : Int), .slice A l.length c, .int .u64 (p : Int)], .slice none 0 0, .int .i64 2] ∧ Ext w w') := by
  have hE := ext_refl w
  refine fn_enter (args := [(.agg #[(.int .i64 (↑m : Int)), (.slice A l.length c), (.int .u64 (↑p : Int))]), (.int .i64 n)]) Try.func57 rfl rfl rfl ?_
  show WC _ _ _ _ [(0, (.agg #[(.int .i64 (↑m : Int)), (.slice A l.length c), (.int .u64 (↑p : Int))])), (1, (.int .i64 n))] _
  refine wc_seq ?_
  refine wc_regionL ?_
  refine wl_step (or_box (cs := [(.int .i64 (↑m : Int)), (.slice A l.length c), (.int .u64 (↑p : Int))]) rfl rfl) rfl rfl rfl ?_
  rintro v w1 ⟨g2, rfl, hb_g2, he2, hl2, hu2⟩
  replace hE := hE.tr he2
  have hz_he2 := he2.size
  refine wl_step (or_alloc (cs := [(.int .i64 0), (.slice none 0 0), (.int .u64 0)]) ze29 rfl) rfl rfl rfl ?_
  rintro v w2 ⟨g4, rfl, hb_g4, he4, hl4, hu4⟩
  replace hE := hE.tr he4
  replace hb_g2 := hb_g2.ext he4
  have hz_he4 := he4.size
  refine wl_val (ov_assign rfl) rfl rfl rfl ?_
  refine wl_val (ov_assign rfl) rfl rfl rfl ?_
  refine q_nil ?_
  refine k_then ?_
  refine wc_seq ?_
  refine wc_seq ?_
  refine wc_regionL ?_
  refine wl_val (ov_move rfl) rfl rfl rfl ?_
  refine wl_val (ov_lss rfl rfl) rfl rfl rfl ?_
  refine q_nil ?_
  refine k_then ?_
  refine wc_cond_T rfl (decide_eq_true (hn)) ?_
  refine wc_seq ?_
  refine wc_regionL ?_
  refine wl_val (ov_loadBlk (cs := [(.int .i64 (↑m : Int)), (.slice A l.length c), (.int .u64 (↑p : Int))]) ag29_3 rfl hb_g2) rfl rfl rfl ?_
  refine wl_step0 (or_storeBlk (vs := [(.int .i64 (↑m : Int)), (.slice A l.length c), (.int .u64 (↑p : Int))]) sz29 rfl rfl (by simp [Value.oneCell']) hb_g4 rfl) rfl rfl ?_
  rintro _ w3 ⟨hN3, hg3⟩
  have hz_hg3 := hg3.size
  replace hE := hE.gr hg3 (fun _ e => by cases e; omega)
  replace hb_g2 := hb_g2.gr hg3 (by intro e; cases e; omega)
  replace hb_g4 := hN3
  refine wl_val (ov_assign rfl) rfl rfl rfl ?_
  refine wl_val (ov_assign rfl) rfl rfl rfl ?_
  refine q_nil ?_
  refine k_then ?_
  refine q_ret ?_
  refine k_thenR ?_
  refine e_retL (rs := [.cell 4 29, .tmp 5, .tmp 6]) (vs := [.agg #[(.int .i64 (↑m : Int)), (.slice A l.length c), (.int .u64 (↑p : Int))], (.slice none 0 0), (.int .i64 2)]) rfl ⟨⟨_, _, [(.int .i64 (↑m : Int)), (.slice A l.length c), (.int .u64 (↑p : Int))], rfl, ag29_3, hb_g4, rfl⟩, rfl, rfl, trivial⟩ ?_
  exact ⟨rfl, hE⟩

theorem rtake_ok (w : World) (lo hi : Nat) (m : Nat) (A : Option Addr) (c : Nat) (l : List UInt8) (p : Nat) (hr : RdB w lo hi A c l) (hlm : l.length ≤ m) (hm : m ≤ 1048576) (hhi : hi ≤ w.heap.size) (n : Int) (hn : 0 ≤ n) (hn2 : n ≤ 9223372036854775807) :
    Fn Try.prog 57 #[(.agg #[(.int .i64 (↑m : Int)), (.slice A l.length c), (.int .u64 (↑p : Int))]), (.int .i64 n)] w (fun v w' => ∃ A' c' A2 c2, v = .tuple #[.agg #[.int .i64 (m : Int), .slice A' (l.drop n.toNat).length c', .int .u64 (p : Int)], .slice A2 (l.take n.toNat).length c2, .int .i64 0] ∧ OwnB w' w.heap.size 5 A' c' (l.drop n.toNat) ∧ RdB w' lo hi A2 c2 (l.take n.toNat) ∧ Ext w w') := by
  have hE := ext_refl w
  refine fn_enter (args := [(.agg #[(.int .i64 (↑m : Int)), (.slice A l.length c), (.int .u64 (↑p : Int))]), (.int .i64 n)]) Try.func57 rfl rfl rfl ?_
  show WC _ _ _ _ [(0, (.agg #[(.int .i64 (↑m : Int)), (.slice A l.length c), (.int .u64 (↑p : Int))])), (1, (.int .i64 n))] _
  refine wc_seq ?_
  refine wc_regionL ?_
  refine wl_step (or_box (cs := [(.int .i64 (↑m : Int)), (.slice A l.length c), (.int .u64 (↑p : Int))]) rfl rfl) rfl rfl rfl ?_
  rintro v w1 ⟨g2, rfl, hb_g2, he2, hl2, hu2⟩
  replace hr := hr.ext he2
  replace hE := hE.tr he2
  have hz_he2 := he2.size
  refine wl_step (or_alloc (cs := [(.int .i64 0), (.slice none 0 0), (.int .u64 0)]) ze29 rfl) rfl rfl rfl ?_
  rintro v w2 ⟨g4, rfl, hb_g4, he4, hl4, hu4⟩
  replace hr := hr.ext he4
  replace hE := hE.tr he4
  replace hb_g2 := hb_g2.ext he4
  have hz_he4 := he4.size
  refine wl_val (ov_assign rfl) rfl rfl rfl ?_
  refine wl_val (ov_assign rfl) rfl rfl rfl ?_
  refine q_nil ?_
  refine k_then ?_
  refine wc_seq ?_
  refine wc_seq ?_
  refine wc_regionL ?_
  refine wl_val (ov_move rfl) rfl rfl rfl ?_
  refine wl_val (ov_lss rfl rfl) rfl rfl rfl ?_
  refine q_nil ?_
  refine k_then ?_
  refine wc_cond_F rfl (decide_eq_false (by omega)) ?_
  refine q_skip ?_
  refine k_then ?_
  refine wc_seq ?_
  refine wc_regionL ?_
  refine wl_val (ov_move rfl) rfl rfl rfl ?_
  refine wl_val (ov_field0 (off := 1) fo29_1 rfl) rfl rfl rfl ?_
  refine wl_val (ov_loadAt oc26 rfl hb_g2 rfl) rfl rfl rfl ?_
  refine wl_val (ov_len Try.underlying26 rfl) rfl rfl rfl ?_
  refine wl_val (ov_min rfl rfl (m := ((min n.toNat l.length : Nat) : Int)) (by omega)) rfl rfl rfl ?_
  refine wl_val (ov_assign rfl) rfl rfl rfl ?_
  refine q_nil ?_
  refine k_then ?_
  refine wc_seq ?_
  refine wc_regionL ?_
  refine wl_val (ov_field0 (off := 1) fo29_1 rfl) rfl rfl rfl ?_
  refine wl_val (ov_loadAt oc26 rfl hb_g2 rfl) rfl rfl rfl ?_
  refine wl_val (ov_move rfl) rfl rfl rfl ?_
  have hcap20 := RdB.cap hr
  refine wl_step (or_bslice bt26 rfl hr (bounds_h rfl (by omega) (by omega)) (by omega) (by omega) (by omega) (by omega)) rfl rfl rfl ?_
  rintro v _ ⟨rfl, A20, c20, rfl, hr20, hl20⟩
  have hs20 : (l.drop 0).take ((Int.toNat ((min n.toNat l.length : Nat) : Int)) - 0) = (l.take n.toNat) := (by rw [List.drop_zero, Nat.sub_zero, Int.toNat_natCast]; exact take_min l n.toNat)
  rw [hs20] at hr20 hl20; rw [hs20]; clear hs20
  refine wl_val (ov_assign rfl) rfl rfl rfl ?_
  refine q_nil ?_
  refine k_then ?_
  refine wc_seq ?_
  refine wc_regionL ?_
  refine wl_val (ov_field0 (off := 1) fo29_1 rfl) rfl rfl rfl ?_
  refine wl_val (ov_loadAt oc26 rfl hb_g2 rfl) rfl rfl rfl ?_
  refine wl_val (ov_move rfl) rfl rfl rfl ?_
  have hcap24 := RdB.cap hr
  refine wl_step (or_bslice bt26 rfl hr (bounds_l rfl (by omega) (by omega)) (by omega) (by omega) (by omega) (by omega)) rfl rfl rfl ?_
  rintro v _ ⟨rfl, A24, c24, rfl, hr24, hl24⟩
  have hs24 : (l.drop (Int.toNat ((min n.toNat l.length : Nat) : Int))).take (l.length - (Int.toNat ((min n.toNat l.length : Nat) : Int))) = (l.drop n.toNat) := (by rw [Int.toNat_natCast]; exact drop_min l n.toNat)
  rw [hs24] at hr24 hl24; rw [hs24]; clear hs24
  refine wl_step (or_bappend0 bt26 rfl rfl hr24 (by simp; omega)) rfl rfl rfl ?_
  rintro v w3 ⟨A25, c25, rfl, ho25, he25⟩
  replace hr := hr.ext he25
  replace hE := hE.tr he25
  replace hb_g2 := hb_g2.ext he25
  replace hb_g4 := hb_g4.ext he25
  replace hr20 := hr20.ext he25
  replace hr24 := hr24.ext he25
  have hz_he25 := he25.size
  have hq_ho25 := fun g e => Own.lt ho25 (g := g) e
  refine wl_val (ov_field0 (off := 1) fo29_1 rfl) rfl rfl rfl ?_
  refine wl_step0 (or_storeAt (cs' := [(.int .i64 (↑m : Int)), (.slice A25 (l.drop n.toNat).length c25), (.int .u64 (↑p : Int))]) sz26 rfl rfl rfl hb_g2 rfl rfl) rfl rfl ?_
  rintro _ w4 ⟨hN4, hg4⟩
  have hz_hg4 := hg4.size
  replace hr := hr.gr hg4 (fun _ e => by cases e; omega)
  replace hE := hE.gr hg4 (fun _ e => by cases e; omega)
  replace hb_g4 := hb_g4.gr hg4 (by intro e; cases e; omega)
  replace hr20 := hr20.gr hg4 (fun _ e => by cases e; omega)
  replace hr24 := hr24.gr hg4 (fun _ e => by cases e; omega)
  replace ho25 := Own.gr ho25 hg4 (by first | exact .inl rfl | (right; intro e; first | (have := hq_ho25 _ e; omega) | (have := Own.lt ho25 e; omega) | exact own_blk_ne ho25 hb_g2 (by decide) e))
  replace hb_g2 := hN4
  refine q_nil ?_
  refine k_then ?_
  refine wc_seq ?_
  refine wc_regionL ?_
  refine wl_val (ov_loadBlk (cs := [(.int .i64 (↑m : Int)), (.slice A25 (l.drop n.toNat).length c25), (.int .u64 (↑p : Int))]) ag29_3 rfl hb_g2) rfl rfl rfl ?_
  refine wl_val (ov_move rfl) rfl rfl rfl ?_
  refine wl_step0 (or_storeBlk (vs := [(.int .i64 (↑m : Int)), (.slice A25 (l.drop n.toNat).length c25), (.int .u64 (↑p : Int))]) sz29 rfl rfl (by simp [Value.oneCell']) hb_g4 rfl) rfl rfl ?_
  rintro _ w5 ⟨hN5, hg5⟩
  have hz_hg5 := hg5.size
  replace hr := hr.gr hg5 (fun _ e => by cases e; omega)
  replace hE := hE.gr hg5 (fun _ e => by cases e; omega)
  replace hb_g2 := hb_g2.gr hg5 (by intro e; cases e; omega)
  replace hr20 := hr20.gr hg5 (fun _ e => by cases e; omega)
  replace hr24 := hr24.gr hg5 (fun _ e => by cases e; omega)
  replace ho25 := Own.gr ho25 hg5 (by first | exact .inl rfl | (right; intro e; first | (have := hq_ho25 _ e; omega) | (have := Own.lt ho25 e; omega) | exact own_blk_ne ho25 hb_g4 (by decide) e))
  replace hb_g4 := hN5
  refine wl_val (ov_assign rfl) rfl rfl rfl ?_
  refine wl_val (ov_assign rfl) rfl rfl rfl ?_
  refine q_nil ?_
  refine k_then ?_
  refine q_ret ?_
  refine e_retL (rs := [.cell 4 29, .tmp 5, .tmp 6]) (vs := [.agg #[(.int .i64 (↑m : Int)), (.slice A25 (l.drop n.toNat).length c25), (.int .u64 (↑p : Int))], (.slice A20 (l.take n.toNat).length c20), (.int .i64 0)]) rfl ⟨⟨_, _, [(.int .i64 (↑m : Int)), (.slice A25 (l.drop n.toNat).length c25), (.int .u64 (↑p : Int))], rfl, ag29_3, hb_g4, rfl⟩, rfl, rfl, trivial⟩ ?_
  exact ⟨A25, c25, A20, c20, rfl, Own.mono ho25 (by omega), hr20, hE⟩

theorem looks27_ok (w : World) (lo g : Nat) (D : Option Nat) (m : Nat) (l : List UInt8) (p t : Nat) (hbuf : Buf w lo g D m l p t) (lor hir : Nat) (A : Option Addr) (c : Nat) (hr : RdB w lor hir A c l) (hpt : p = t + l.length) (hp : p ≤ 4611686018427387904) :
    Fn Try.prog 15 #[(.pointer (some ⟨g, 0, none⟩)), (.agg #[(.int .i64 (↑m : Int)), (.slice A l.length c), (.int .u64 (↑p : Int))])] w (fun v w' => v = .bool true ∧ Ext w w') := by
  have hDs : ∀ x, D = some x → lo ≤ x ∧ x < w.heap.size := fun x e => hbuf.lt.2 x e
  have hzb := hbuf.lt.1
  have hcp := hbuf.cap
  replace hr := hr.top
  have hE := ext_refl w
  refine fn_enter (args := [(.pointer (some ⟨g, 0, none⟩)), (.agg #[(.int .i64 (↑m : Int)), (.slice A l.length c), (.int .u64 (↑p : Int))])]) Try.func15 rfl rfl rfl ?_
  show WC _ _ _ _ [(0, (.pointer (some ⟨g, 0, none⟩))), (1, (.agg #[(.int .i64 (↑m : Int)), (.slice A l.length c), (.int .u64 (↑p : Int))]))] _
  refine wc_seq ?_
  refine wc_regionL ?_
  refine wl_step (or_box (cs := [(.int .i64 (↑m : Int)), (.slice A l.length c), (.int .u64 (↑p : Int))]) rfl rfl) rfl rfl rfl ?_
  rintro v w1 ⟨g3, rfl, hb_g3, he3, hl3, hu3⟩
  replace hbuf := hbuf.ext he3
  replace hr := hr.ext he3
  replace hE := hE.tr he3
  have hz_he3 := he3.size
  refine wl_val (ov_assign rfl) rfl rfl rfl ?_
  refine q_nil ?_
  refine k_then ?_
  refine wc_seq ?_
  refine wc_regionL ?_
  refine wl_val (ov_move rfl) rfl rfl rfl ?_
  refine wl_val (ov_field0 (off := 1) fo29_1 rfl) rfl rfl rfl ?_
  refine wl_val (ov_loadAt oc26 rfl hb_g3 rfl) rfl rfl rfl ?_
  refine wl_val (ov_len Try.underlying26 rfl) rfl rfl rfl ?_
  refine wl_val (ov_add rfl rfl (wi64 (by omega) (by omega))) rfl rfl rfl ?_
  refine wl_step (or_call0 cl27 rfl rfl (bpeek_ok _ lo g D m l p t hbuf ((↑l.length : Int) + 1) (by omega) (by omega))) rfl rfl rfl ?_
  rintro v w2 ⟨A13, c13, rfl, ho13, he13⟩
  replace hbuf := hbuf.ext he13
  replace hr := hr.ext he13
  replace hE := hE.tr he13
  replace hb_g3 := hb_g3.ext he13
  have hz_he13 := he13.size
  have hq_ho13 := fun g e => Own.lt ho13 (g := g) e
  have hpa := bpeek_all l
  have hpa1 : (bpeek l ((l.length : Int) + 1)).1 = l := by rw [hpa]
  rw [hpa1] at ho13
  refine wl_spell (d := 13) rfl (v' := .tuple #[.slice A13 l.length c13, .int .i64 0]) (by rw [hpa]; rfl) ?_
  refine wl_val (ov_move rfl) rfl rfl rfl ?_
  refine wl_val (ov_extract rfl rfl) rfl rfl rfl ?_
  refine wl_val (ov_extract rfl rfl) rfl rfl rfl ?_
  refine wl_val (ov_assign rfl) rfl rfl rfl ?_
  refine wl_val (ov_assign rfl) rfl rfl rfl ?_
  refine q_nil ?_
  refine k_then ?_
  refine wc_seq ?_
  refine wc_draw mixed 42 [(16, eqv (.slice A13 l.length c13)), (17, eqv (.string (strB l))), (18, eqv (.pointer (some ⟨g3, 1, none⟩))), (19, eqv (.slice A l.length c)), (20, eqv (.string (strB l))), (21, eqv (.bool true)), (22, eqv (.bool true)), (23, eqv (.int .i64 0)), (24, eqv (.bool true)), (25, eqv (.bool true)), (26, eqv (.bool true)), (27, eqv (.pointer (some ⟨g, 0, none⟩))), (28, eqv (.int .i64 (↑l.length : Int))), (29, eqv (.pointer (some ⟨g3, 1, none⟩))), (30, eqv (.slice A l.length c)), (31, eqv (.int .i64 (↑l.length : Int))), (32, eqv (.bool true)), (33, eqv (.bool true)), (34, eqv (.bool true)), (35, eqv (.pointer (some ⟨g, 0, none⟩))), (36, eqv (.int .i64 (↑m : Int))), (37, eqv (.pointer (some ⟨g3, 0, none⟩))), (38, eqv (.int .i64 (↑m : Int))), (39, eqv (.bool true)), (40, eqv (.bool true)), (41, eqv (.bool true)), (42, eqv (.pointer (some ⟨g, 0, none⟩))), (43, eqv (.int .i64 ((m - l.length : Nat) : Int))), (44, eqv (.pointer (some ⟨g3, 0, none⟩))), (45, eqv (.int .i64 (↑m : Int))), (46, eqv (.pointer (some ⟨g3, 1, none⟩))), (47, eqv (.slice A l.length c)), (48, eqv (.int .i64 (↑l.length : Int))), (49, eqv (.int .i64 ((↑m : Int) - (↑l.length : Int)))), (50, eqv (.bool true)), (51, eqv (.bool true)), (52, eqv (.bool true)), (53, eqv (.pointer (some ⟨g, 0, none⟩))), (54, eqv (.pointer (some ⟨g3, 2, none⟩))), (55, eqv (.int .u64 (↑p : Int))), (56, eqv (.agg #[(.int .i64 (↑m : Int)), (.slice A l.length c), (.int .u64 (↑p : Int))])), (57, eqv (.int .u64 (↑t : Int)))] [[], [0], [], [2], [3], [1, 4], [5], [6], [6, 7], [6, 8], [9], [10], [10, 11], [10], [10, 13], [10, 14], [10, 12, 15], [10, 16], [17], [18], [18, 19], [18], [18, 21], [18, 20, 22], [18, 23], [24], [25], [25, 26], [25], [25, 28], [25], [25, 30], [25, 31], [25, 29, 32], [25, 27, 33], [25, 34], [35], [36], [36], [36, 38], [36], [36, 40]] _ [] [] (fun _ _ h => h) trivial (by kernel_rfl) rfl ⟨stb_eqv _, stb_eqv _, stb_eqv _, stb_eqv _, stb_eqv _, stb_eqv _, stb_eqv _, stb_eqv _, stb_eqv _, stb_eqv _, stb_eqv _, stb_eqv _, stb_eqv _, stb_eqv _, stb_eqv _, stb_eqv _, stb_eqv _, stb_eqv _, stb_eqv _, stb_eqv _, stb_eqv _, stb_eqv _, stb_eqv _, stb_eqv _, stb_eqv _, stb_eqv _, stb_eqv _, stb_eqv _, stb_eqv _, stb_eqv _, stb_eqv _, stb_eqv _, stb_eqv _, stb_eqv _, stb_eqv _, stb_eqv _, stb_eqv _, stb_eqv _, stb_eqv _, stb_eqv _, stb_eqv _, stb_eqv _, trivial⟩ ⟨?_, ?_, ?_, ?_, ?_, ?_, ?_, ?_, ?_, ?_, ?_, ?_, ?_, ?_, ?_, ?_, ?_, ?_, ?_, ?_, ?_, ?_, ?_, ?_, ?_, ?_, ?_, ?_, ?_, ?_, ?_, ?_, ?_, ?_, ?_, ?_, ?_, ?_, ?_, ?_, ?_, ?_, trivial⟩ ?_
  · intro wd hxE
    replace hbuf := hbuf.ext hxE
    replace hr := hr.ext hxE
    replace hE := hE.tr hxE
    replace hb_g3 := hb_g3.ext hxE
    replace ho13 := Own.ext ho13 hxE
    have hz_hxE := hxE.size
    show OpG _ _ _ _ _ _
    exact og_plain rfl (ox_val (ov_move rfl))
  · intro wd hxE
    replace hbuf := hbuf.ext hxE
    replace hr := hr.ext hxE
    replace hE := hE.tr hxE
    replace hb_g3 := hb_g3.ext hxE
    replace ho13 := Own.ext ho13 hxE
    have hz_hxE := hxE.size
    rintro _ rfl
    show OpG _ _ _ _ _ _
    exact og_plain rfl (ox_val (ov_bstr bt26 Try.underlying9 rfl (OwnB.rd ho13)))
  · intro wd hxE
    replace hbuf := hbuf.ext hxE
    replace hr := hr.ext hxE
    replace hE := hE.tr hxE
    replace hb_g3 := hb_g3.ext hxE
    replace ho13 := Own.ext ho13 hxE
    have hz_hxE := hxE.size
    show OpG _ _ _ _ _ _
    exact og_plain rfl (ox_val (ov_field0 (off := 1) fo29_1 rfl))
  · intro wd hxE
    replace hbuf := hbuf.ext hxE
    replace hr := hr.ext hxE
    replace hE := hE.tr hxE
    replace hb_g3 := hb_g3.ext hxE
    replace ho13 := Own.ext ho13 hxE
    have hz_hxE := hxE.size
    rintro _ rfl
    show OpG _ _ _ _ _ _
    exact og_plain rfl (ox_val (ov_loadAt oc26 rfl hb_g3 rfl))
  · intro wd hxE
    replace hbuf := hbuf.ext hxE
    replace hr := hr.ext hxE
    replace hE := hE.tr hxE
    replace hb_g3 := hb_g3.ext hxE
    replace ho13 := Own.ext ho13 hxE
    have hz_hxE := hxE.size
    rintro _ rfl
    show OpG _ _ _ _ _ _
    exact og_plain rfl (ox_val (ov_bstr bt26 Try.underlying9 rfl hr))
  · intro wd hxE
    replace hbuf := hbuf.ext hxE
    replace hr := hr.ext hxE
    replace hE := hE.tr hxE
    replace hb_g3 := hb_g3.ext hxE
    replace ho13 := Own.ext ho13 hxE
    have hz_hxE := hxE.size
    rintro _ rfl
    rintro _ rfl
    show OpG _ _ _ _ _ _
    exact og_plain rfl (ox_T (rfl) (ov_seq rfl rfl))
  · intro wd hxE
    replace hbuf := hbuf.ext hxE
    replace hr := hr.ext hxE
    replace hE := hE.tr hxE
    replace hb_g3 := hb_g3.ext hxE
    replace ho13 := Own.ext ho13 hxE
    have hz_hxE := hxE.size
    rintro _ rfl
    show OpG _ _ _ _ _ _
    exact og_plain rfl (ox_val (ov_move rfl))
  · intro wd hxE
    replace hbuf := hbuf.ext hxE
    replace hr := hr.ext hxE
    replace hE := hE.tr hxE
    replace hb_g3 := hb_g3.ext hxE
    replace ho13 := Own.ext ho13 hxE
    have hz_hxE := hxE.size
    rintro _ rfl
    show OpG _ _ _ _ _ _
    exact og_on rfl rfl rfl (ox_val (ov_move rfl))
  · intro wd hxE
    replace hbuf := hbuf.ext hxE
    replace hr := hr.ext hxE
    replace hE := hE.tr hxE
    replace hb_g3 := hb_g3.ext hxE
    replace ho13 := Own.ext ho13 hxE
    have hz_hxE := hxE.size
    rintro _ rfl
    rintro _ rfl
    show OpG _ _ _ _ _ _
    exact og_on rfl rfl rfl (ox_T (by decide) (ov_eql rfl rfl))
  · intro wd hxE
    replace hbuf := hbuf.ext hxE
    replace hr := hr.ext hxE
    replace hE := hE.tr hxE
    replace hb_g3 := hb_g3.ext hxE
    replace ho13 := Own.ext ho13 hxE
    have hz_hxE := hxE.size
    rintro _ rfl
    rintro _ rfl
    show OpG _ _ _ _ _ _
    exact og_plain rfl (ox_val (ov_pick_t rfl rfl))
  · intro wd hxE
    replace hbuf := hbuf.ext hxE
    replace hr := hr.ext hxE
    replace hE := hE.tr hxE
    replace hb_g3 := hb_g3.ext hxE
    replace ho13 := Own.ext ho13 hxE
    have hz_hxE := hxE.size
    rintro _ rfl
    show OpG _ _ _ _ _ _
    exact og_plain rfl (ox_val (ov_move rfl))
  · intro wd hxE
    replace hbuf := hbuf.ext hxE
    replace hr := hr.ext hxE
    replace hE := hE.tr hxE
    replace hb_g3 := hb_g3.ext hxE
    replace ho13 := Own.ext ho13 hxE
    have hz_hxE := hxE.size
    rintro _ rfl
    show OpG _ _ _ _ _ _
    exact og_on rfl rfl rfl (ox_val (ov_move rfl))
  · intro wd hxE
    replace hbuf := hbuf.ext hxE
    replace hr := hr.ext hxE
    replace hE := hE.tr hxE
    replace hb_g3 := hb_g3.ext hxE
    replace ho13 := Own.ext ho13 hxE
    have hz_hxE := hxE.size
    rintro _ rfl
    rintro _ rfl
    show OpG _ _ _ _ _ _
    refine og_on rfl rfl rfl (OpRun.mono (or_call0 cl20 rfl rfl (blen_ok _ _ _ _ _ _ _ _ hbuf)) ?_)
    rintro v w3 ⟨rfl, he28⟩
    replace hbuf := hbuf.ext he28
    replace hr := hr.ext he28
    replace hE := hE.tr he28
    replace hb_g3 := hb_g3.ext he28
    replace ho13 := Own.ext ho13 he28
    have hz_he28 := he28.size
    exact ⟨rfl, he28⟩
  · intro wd hxE
    replace hbuf := hbuf.ext hxE
    replace hr := hr.ext hxE
    replace hE := hE.tr hxE
    replace hb_g3 := hb_g3.ext hxE
    replace ho13 := Own.ext ho13 hxE
    have hz_hxE := hxE.size
    rintro _ rfl
    show OpG _ _ _ _ _ _
    exact og_on rfl rfl rfl (ox_val (ov_field0 (off := 1) fo29_1 rfl))
  · intro wd hxE
    replace hbuf := hbuf.ext hxE
    replace hr := hr.ext hxE
    replace hE := hE.tr hxE
    replace hb_g3 := hb_g3.ext hxE
    replace ho13 := Own.ext ho13 hxE
    have hz_hxE := hxE.size
    rintro _ rfl
    rintro _ rfl
    show OpG _ _ _ _ _ _
    exact og_on rfl rfl rfl (ox_val (ov_loadAt oc26 rfl hb_g3 rfl))
  · intro wd hxE
    replace hbuf := hbuf.ext hxE
    replace hr := hr.ext hxE
    replace hE := hE.tr hxE
    replace hb_g3 := hb_g3.ext hxE
    replace ho13 := Own.ext ho13 hxE
    have hz_hxE := hxE.size
    rintro _ rfl
    rintro _ rfl
    show OpG _ _ _ _ _ _
    exact og_on rfl rfl rfl (ox_val (ov_len Try.underlying26 rfl))
  · intro wd hxE
    replace hbuf := hbuf.ext hxE
    replace hr := hr.ext hxE
    replace hE := hE.tr hxE
    replace hb_g3 := hb_g3.ext hxE
    replace ho13 := Own.ext ho13 hxE
    have hz_hxE := hxE.size
    rintro _ rfl
    rintro _ rfl
    rintro _ rfl
    show OpG _ _ _ _ _ _
    exact og_on rfl rfl rfl (ox_T (rfl) (ov_eql rfl rfl))
  · intro wd hxE
    replace hbuf := hbuf.ext hxE
    replace hr := hr.ext hxE
    replace hE := hE.tr hxE
    replace hb_g3 := hb_g3.ext hxE
    replace ho13 := Own.ext ho13 hxE
    have hz_hxE := hxE.size
    rintro _ rfl
    rintro _ rfl
    show OpG _ _ _ _ _ _
    exact og_plain rfl (ox_val (ov_pick_t rfl rfl))
  · intro wd hxE
    replace hbuf := hbuf.ext hxE
    replace hr := hr.ext hxE
    replace hE := hE.tr hxE
    replace hb_g3 := hb_g3.ext hxE
    replace ho13 := Own.ext ho13 hxE
    have hz_hxE := hxE.size
    rintro _ rfl
    show OpG _ _ _ _ _ _
    exact og_plain rfl (ox_val (ov_move rfl))
  · intro wd hxE
    replace hbuf := hbuf.ext hxE
    replace hr := hr.ext hxE
    replace hE := hE.tr hxE
    replace hb_g3 := hb_g3.ext hxE
    replace ho13 := Own.ext ho13 hxE
    have hz_hxE := hxE.size
    rintro _ rfl
    show OpG _ _ _ _ _ _
    exact og_on rfl rfl rfl (ox_val (ov_move rfl))
  · intro wd hxE
    replace hbuf := hbuf.ext hxE
    replace hr := hr.ext hxE
    replace hE := hE.tr hxE
    replace hb_g3 := hb_g3.ext hxE
    replace ho13 := Own.ext ho13 hxE
    have hz_hxE := hxE.size
    rintro _ rfl
    rintro _ rfl
    show OpG _ _ _ _ _ _
    refine og_on rfl rfl rfl (OpRun.mono (or_call0 cl28 rfl rfl (bcap_ok _ _ _ _ _ _ _ _ hbuf)) ?_)
    rintro v w3 ⟨rfl, he36⟩
    replace hbuf := hbuf.ext he36
    replace hr := hr.ext he36
    replace hE := hE.tr he36
    replace hb_g3 := hb_g3.ext he36
    replace ho13 := Own.ext ho13 he36
    have hz_he36 := he36.size
    exact ⟨rfl, he36⟩
  · intro wd hxE
    replace hbuf := hbuf.ext hxE
    replace hr := hr.ext hxE
    replace hE := hE.tr hxE
    replace hb_g3 := hb_g3.ext hxE
    replace ho13 := Own.ext ho13 hxE
    have hz_hxE := hxE.size
    rintro _ rfl
    show OpG _ _ _ _ _ _
    exact og_on rfl rfl rfl (ox_val (ov_field0 (off := 0) fo29_0 rfl))
  · intro wd hxE
    replace hbuf := hbuf.ext hxE
    replace hr := hr.ext hxE
    replace hE := hE.tr hxE
    replace hb_g3 := hb_g3.ext hxE
    replace ho13 := Own.ext ho13 hxE
    have hz_hxE := hxE.size
    rintro _ rfl
    rintro _ rfl
    show OpG _ _ _ _ _ _
    exact og_on rfl rfl rfl (ox_val (ov_loadAt oc3 rfl hb_g3 rfl))
  · intro wd hxE
    replace hbuf := hbuf.ext hxE
    replace hr := hr.ext hxE
    replace hE := hE.tr hxE
    replace hb_g3 := hb_g3.ext hxE
    replace ho13 := Own.ext ho13 hxE
    have hz_hxE := hxE.size
    rintro _ rfl
    rintro _ rfl
    rintro _ rfl
    show OpG _ _ _ _ _ _
    exact og_on rfl rfl rfl (ox_T (rfl) (ov_eql rfl rfl))
  · intro wd hxE
    replace hbuf := hbuf.ext hxE
    replace hr := hr.ext hxE
    replace hE := hE.tr hxE
    replace hb_g3 := hb_g3.ext hxE
    replace ho13 := Own.ext ho13 hxE
    have hz_hxE := hxE.size
    rintro _ rfl
    rintro _ rfl
    show OpG _ _ _ _ _ _
    exact og_plain rfl (ox_val (ov_pick_t rfl rfl))
  · intro wd hxE
    replace hbuf := hbuf.ext hxE
    replace hr := hr.ext hxE
    replace hE := hE.tr hxE
    replace hb_g3 := hb_g3.ext hxE
    replace ho13 := Own.ext ho13 hxE
    have hz_hxE := hxE.size
    rintro _ rfl
    show OpG _ _ _ _ _ _
    exact og_plain rfl (ox_val (ov_move rfl))
  · intro wd hxE
    replace hbuf := hbuf.ext hxE
    replace hr := hr.ext hxE
    replace hE := hE.tr hxE
    replace hb_g3 := hb_g3.ext hxE
    replace ho13 := Own.ext ho13 hxE
    have hz_hxE := hxE.size
    rintro _ rfl
    show OpG _ _ _ _ _ _
    exact og_on rfl rfl rfl (ox_val (ov_move rfl))
  · intro wd hxE
    replace hbuf := hbuf.ext hxE
    replace hr := hr.ext hxE
    replace hE := hE.tr hxE
    replace hb_g3 := hb_g3.ext hxE
    replace ho13 := Own.ext ho13 hxE
    have hz_hxE := hxE.size
    rintro _ rfl
    rintro _ rfl
    show OpG _ _ _ _ _ _
    refine og_on rfl rfl rfl (OpRun.mono (or_call0 cl19 rfl rfl (broom_ok _ _ _ _ _ _ _ _ hbuf)) ?_)
    rintro v w3 ⟨rfl, he43⟩
    replace hbuf := hbuf.ext he43
    replace hr := hr.ext he43
    replace hE := hE.tr he43
    replace hb_g3 := hb_g3.ext he43
    replace ho13 := Own.ext ho13 he43
    have hz_he43 := he43.size
    exact ⟨rfl, he43⟩
  · intro wd hxE
    replace hbuf := hbuf.ext hxE
    replace hr := hr.ext hxE
    replace hE := hE.tr hxE
    replace hb_g3 := hb_g3.ext hxE
    replace ho13 := Own.ext ho13 hxE
    have hz_hxE := hxE.size
    rintro _ rfl
    show OpG _ _ _ _ _ _
    exact og_on rfl rfl rfl (ox_val (ov_field0 (off := 0) fo29_0 rfl))
  · intro wd hxE
    replace hbuf := hbuf.ext hxE
    replace hr := hr.ext hxE
    replace hE := hE.tr hxE
    replace hb_g3 := hb_g3.ext hxE
    replace ho13 := Own.ext ho13 hxE
    have hz_hxE := hxE.size
    rintro _ rfl
    rintro _ rfl
    show OpG _ _ _ _ _ _
    exact og_on rfl rfl rfl (ox_val (ov_loadAt oc3 rfl hb_g3 rfl))
  · intro wd hxE
    replace hbuf := hbuf.ext hxE
    replace hr := hr.ext hxE
    replace hE := hE.tr hxE
    replace hb_g3 := hb_g3.ext hxE
    replace ho13 := Own.ext ho13 hxE
    have hz_hxE := hxE.size
    rintro _ rfl
    show OpG _ _ _ _ _ _
    exact og_on rfl rfl rfl (ox_val (ov_field0 (off := 1) fo29_1 rfl))
  · intro wd hxE
    replace hbuf := hbuf.ext hxE
    replace hr := hr.ext hxE
    replace hE := hE.tr hxE
    replace hb_g3 := hb_g3.ext hxE
    replace ho13 := Own.ext ho13 hxE
    have hz_hxE := hxE.size
    rintro _ rfl
    rintro _ rfl
    show OpG _ _ _ _ _ _
    exact og_on rfl rfl rfl (ox_val (ov_loadAt oc26 rfl hb_g3 rfl))
  · intro wd hxE
    replace hbuf := hbuf.ext hxE
    replace hr := hr.ext hxE
    replace hE := hE.tr hxE
    replace hb_g3 := hb_g3.ext hxE
    replace ho13 := Own.ext ho13 hxE
    have hz_hxE := hxE.size
    rintro _ rfl
    rintro _ rfl
    show OpG _ _ _ _ _ _
    exact og_on rfl rfl rfl (ox_val (ov_len Try.underlying26 rfl))
  · intro wd hxE
    replace hbuf := hbuf.ext hxE
    replace hr := hr.ext hxE
    replace hE := hE.tr hxE
    replace hb_g3 := hb_g3.ext hxE
    replace ho13 := Own.ext ho13 hxE
    have hz_hxE := hxE.size
    rintro _ rfl
    rintro _ rfl
    rintro _ rfl
    show OpG _ _ _ _ _ _
    exact og_on rfl rfl rfl (ox_val (ov_sub rfl rfl (wi64 (by omega) (by omega))))
  · intro wd hxE
    replace hbuf := hbuf.ext hxE
    replace hr := hr.ext hxE
    replace hE := hE.tr hxE
    replace hb_g3 := hb_g3.ext hxE
    replace ho13 := Own.ext ho13 hxE
    have hz_hxE := hxE.size
    rintro _ rfl
    rintro _ rfl
    rintro _ rfl
    show OpG _ _ _ _ _ _
    exact og_on rfl rfl rfl (ox_T (by omega) (ov_eql rfl rfl))
  · intro wd hxE
    replace hbuf := hbuf.ext hxE
    replace hr := hr.ext hxE
    replace hE := hE.tr hxE
    replace hb_g3 := hb_g3.ext hxE
    replace ho13 := Own.ext ho13 hxE
    have hz_hxE := hxE.size
    rintro _ rfl
    rintro _ rfl
    show OpG _ _ _ _ _ _
    exact og_plain rfl (ox_val (ov_pick_t rfl rfl))
  · intro wd hxE
    replace hbuf := hbuf.ext hxE
    replace hr := hr.ext hxE
    replace hE := hE.tr hxE
    replace hb_g3 := hb_g3.ext hxE
    replace ho13 := Own.ext ho13 hxE
    have hz_hxE := hxE.size
    rintro _ rfl
    show OpG _ _ _ _ _ _
    exact og_plain rfl (ox_val (ov_move rfl))
  · intro wd hxE
    replace hbuf := hbuf.ext hxE
    replace hr := hr.ext hxE
    replace hE := hE.tr hxE
    replace hb_g3 := hb_g3.ext hxE
    replace ho13 := Own.ext ho13 hxE
    have hz_hxE := hxE.size
    rintro _ rfl
    show OpG _ _ _ _ _ _
    exact og_on rfl rfl rfl (ox_val (ov_move rfl))
  · intro wd hxE
    replace hbuf := hbuf.ext hxE
    replace hr := hr.ext hxE
    replace hE := hE.tr hxE
    replace hb_g3 := hb_g3.ext hxE
    replace ho13 := Own.ext ho13 hxE
    have hz_hxE := hxE.size
    rintro _ rfl
    show OpG _ _ _ _ _ _
    exact og_on rfl rfl rfl (ox_val (ov_field0 (off := 2) fo29_2 rfl))
  · intro wd hxE
    replace hbuf := hbuf.ext hxE
    replace hr := hr.ext hxE
    replace hE := hE.tr hxE
    replace hb_g3 := hb_g3.ext hxE
    replace ho13 := Own.ext ho13 hxE
    have hz_hxE := hxE.size
    rintro _ rfl
    rintro _ rfl
    show OpG _ _ _ _ _ _
    exact og_on rfl rfl rfl (ox_val (ov_loadAt oc27 rfl hb_g3 rfl))
  · intro wd hxE
    replace hbuf := hbuf.ext hxE
    replace hr := hr.ext hxE
    replace hE := hE.tr hxE
    replace hb_g3 := hb_g3.ext hxE
    replace ho13 := Own.ext ho13 hxE
    have hz_hxE := hxE.size
    rintro _ rfl
    show OpG _ _ _ _ _ _
    exact og_on rfl rfl rfl (ox_val (ov_loadBlk (cs := [(.int .i64 (↑m : Int)), (.slice A l.length c), (.int .u64 (↑p : Int))]) ag29_3 rfl hb_g3))
  · intro wd hxE
    replace hbuf := hbuf.ext hxE
    replace hr := hr.ext hxE
    replace hE := hE.tr hxE
    replace hb_g3 := hb_g3.ext hxE
    replace ho13 := Own.ext ho13 hxE
    have hz_hxE := hxE.size
    rintro _ rfl
    rintro _ rfl
    show OpG _ _ _ _ _ _
    refine og_on rfl rfl rfl (OpRun.mono (or_call0 cl50 rfl rfl (rtaken_any _ _ _ l _ _ t hpt hp)) ?_)
    rintro v w3 ⟨rfl, he57⟩
    replace hbuf := hbuf.ext he57
    replace hr := hr.ext he57
    replace hE := hE.tr he57
    replace hb_g3 := hb_g3.ext he57
    replace ho13 := Own.ext ho13 he57
    have hz_he57 := he57.size
    exact ⟨rfl, he57⟩
  · intro wf2 hf2
    replace hbuf := hbuf.ext hf2
    replace hr := hr.ext hf2
    replace hE := hE.tr hf2
    replace hb_g3 := hb_g3.ext hf2
    replace ho13 := Own.ext ho13 hf2
    have hz_hf2 := hf2.size
    rintro _ rfl
    rintro _ rfl
    rintro _ rfl
    rintro _ rfl
    rintro _ rfl
    rintro _ rfl
    rintro _ rfl
    rintro _ rfl
    rintro _ rfl
    rintro _ rfl
    rintro _ rfl
    rintro _ rfl
    rintro _ rfl
    rintro _ rfl
    rintro _ rfl
    rintro _ rfl
    rintro _ rfl
    rintro _ rfl
    rintro _ rfl
    rintro _ rfl
    rintro _ rfl
    rintro _ rfl
    rintro _ rfl
    rintro _ rfl
    rintro _ rfl
    rintro _ rfl
    rintro _ rfl
    rintro _ rfl
    rintro _ rfl
    rintro _ rfl
    rintro _ rfl
    rintro _ rfl
    rintro _ rfl
    rintro _ rfl
    rintro _ rfl
    rintro _ rfl
    rintro _ rfl
    rintro _ rfl
    rintro _ rfl
    rintro _ rfl
    rintro _ rfl
    rintro _ rfl
    show WL _ _ _ [_, _, _] _ _ _
    refine wl_gstep (or_call0 cl25 rfl rfl (lcounts_ok _ lo g D m l p t hbuf (p) (t) (by omega) (by omega))) rfl rfl rfl rfl rfl ?_
    rintro v w3 ⟨rfl, he58⟩
    replace hbuf := hbuf.ext he58
    replace hr := hr.ext he58
    replace hE := hE.tr he58
    replace hb_g3 := hb_g3.ext he58
    replace ho13 := Own.ext ho13 he58
    have hz_he58 := he58.size
    refine wl_val (ov_pick_t rfl rfl) rfl rfl rfl ?_
    refine wl_val (ov_assign rfl) rfl rfl rfl ?_
    refine q_nil ?_
    refine k_then ?_
    refine q_ret ?_
    refine e_ret rfl rfl ?_
    exact ⟨rfl, hE⟩

end Go.Proofs.Ytopfjpkjpmdhaaa
