/-
 The contracts of the buffer that only read, and of its making.
-/
import Derived.Test.YtiighkbehiddkaaGreatVi
import Derived.Test.YtiighkbehiddkaaGreatRes
import Derived.Test.YtiighkbehiddkaaGreatTail
namespace Go.Proofs.YtiighkbehiddkaaGreat
open Go.RowKit
set_option linter.unusedVariables false
set_option maxRecDepth 4000
theorem cl50 : callable Tryz.prog 50 = true := by kernel_rfl
theorem cl67 : callable Tryz.prog 67 = true := by kernel_rfl
theorem cl89 : callable Tryz.prog 89 = true := by kernel_rfl
theorem fo120_0 : fieldOff Tryz.prog 120 0 = some 0 := by kernel_rfl
theorem fo120_1 : fieldOff Tryz.prog 120 1 = some 1 := by kernel_rfl
theorem fo120_2 : fieldOff Tryz.prog 120 2 = some 2 := by kernel_rfl
theorem mixed : Tryz.prog.follows .mixedOrders = true := by kernel_rfl
theorem oc3 : oneCellTy Tryz.prog 3 = true := by kernel_rfl
theorem oc32 : oneCellTy Tryz.prog 32 = true := by kernel_rfl
theorem pl120 : placesOf Tryz.prog 120 = some [(0, 1), (1, 1), (2, 1), (3, 1), (4, 1)] := by kernel_rfl
theorem sz32 : (Tryz.prog.info? 32).map (·.size) = some 1 := by kernel_rfl
theorem ze120 : zeroOf Tryz.prog 120 = some (.agg #[(.int .i64 0), (.slice none 0 0), (.int .i64 0), (.int .u64 0), (.int .u64 0)]) := by kernel_rfl
/-- A buffer's cells. -/
abbrev bufc (m : Nat) (A : Option Addr) (c : Nat) (d : List UInt8) (k p t : Nat) : List Value := [.int .i64 (m : Int), .slice A d.length c, .int .i64 (k : Int), .int .u64 (p : Int), .int .u64 (t : Int)]
/-- The block g holds a buffer with the cap m and the bytes l; p were put in, t were taken; its bytes lie in the row D. -/
def Buf (w : World) (lo g : Nat) (D : Option Nat) (m : Nat) (l : List UInt8) (p t : Nat) : Prop :=
 ∃ A c d k, D = blk A ∧ Blk w g 120 (bufc m A c d k p t) ∧ OwnT w lo 5 A c d ∧ k + l.length = d.length ∧ d.drop k = l ∧ k ≤ m ∧ l.length ≤ m ∧ 1 ≤ m ∧ m ≤ 1048576
theorem Buf.ext {w w' : World} {lo g m p t : Nat} {D : Option Nat} {l : List UInt8} (h : Buf w lo g D m l p t) (he : Ext w w') : Buf w' lo g D m l p t := by
 obtain ⟨A, c, d, k, hD, hb, ho, r⟩ := h
 exact ⟨A, c, d, k, hD, hb.ext he, ho.ext he, r⟩
theorem Buf.mono {w : World} {lo lo' g m p t : Nat} {D : Option Nat} {l : List UInt8} (h : Buf w lo g D m l p t) (hl : lo' ≤ lo) : Buf w lo' g D m l p t := by
 obtain ⟨A, c, d, k, hD, hb, ho, r⟩ := h
 exact ⟨A, c, d, k, hD, hb, ho.mono hl, r⟩
theorem Buf.lt {w : World} {lo g m p t : Nat} {D : Option Nat} {l : List UInt8} (h : Buf w lo g D m l p t) : g < w.heap.size ∧ ∀ x, D = some x → lo ≤ x ∧ x < w.heap.size := by
 obtain ⟨A, c, d, k, rfl, hb, ho, r⟩ := h
 exact ⟨hb.lt, fun x e => ho.lt e⟩
theorem Buf.cap {w : World} {lo g m p t : Nat} {D : Option Nat} {l : List UInt8} (h : Buf w lo g D m l p t) : l.length ≤ m ∧ 1 ≤ m ∧ m ≤ 1048576 := by
 obtain ⟨A, c, d, k, rfl, hb, ho, h1, h2, h3, h4, h5, h6⟩ := h
 exact ⟨h4, h5, h6⟩
theorem Buf.ne {w : World} {lo g m p t : Nat} {D : Option Nat} {l : List UInt8} (h : Buf w lo g D m l p t) : D ≠ some g := by
 obtain ⟨A, c, d, k, rfl, hb, ho, r⟩ := h
 exact ho.ne hb (by decide)
/-- Another object's step. -/
theorem Buf.ch {w w' : World} {lo g m p t g2 : Nat} {D D2 : Option Nat} {l : List UInt8} (h : Buf w lo g D m l p t) (k : Ch g2 D2 w w') (h1 : g ≠ g2) (h2 : D2 ≠ some g) (h3 : D ≠ some g2) (h4 : ∀ x, D = some x → D2 ≠ some x) : Buf w' lo g D m l p t := by
 obtain ⟨A, c, d, k', rfl, hb, ho, r⟩ := h
 exact ⟨A, c, d, k', rfl, k.bk hb h1 h2, k.ownT ho (fun x e => ⟨fun e2 => h3 (e2 ▸ e), h4 x e⟩), r⟩
theorem Buf.gr {w w' : World} {lo g m p t : Nat} {D row : Option Nat} {l : List UInt8} (h : Buf w lo g D m l p t) (hg : Gr w w' row) (h1 : ∀ x, row = some x → x ≠ g) (h2 : ∀ x, row = some x → D ≠ some x) : Buf w' lo g D m l p t := by
 obtain ⟨A, c, d, k', rfl, hb, ho, r⟩ := h
 exact ⟨A, c, d, k', rfl, hb.gr hg (fun e => h1 g e rfl), ho.same (fun x e => hg.block x (ho.lt e).2 (fun e2 => h2 x e2.symm e)), r⟩
theorem Buf.kp {w w' : World} {lo g m p t : Nat} {D : Option Nat} {l : List UInt8} {gs : List Nat} (h : Buf w lo g D m l p t) (hk : Kp gs w w') (h1 : g ∉ gs) (h2 : ∀ x, D = some x → x ∉ gs) : Buf w' lo g D m l p t := by
 obtain ⟨A, c, d, k', rfl, hb, ho, r⟩ := h
 exact ⟨A, c, d, k', rfl, hk.bk hb h1, hk.ownT ho h2, r⟩
/-- What Peek gives: the bytes, the error. -/
def bpeek (l : List UInt8) (n : Int) : List UInt8 × Nat := if n < 0 then ([], 2) else (l.take n.toNat, 0)
theorem bpk_neg {l : List UInt8} {n : Int} (h : n < 0) : bpeek l n = ([], 2) := by rw [bpeek, if_pos h]
theorem bpk_ok {l : List UInt8} {n : Int} (h : ¬ n < 0) : bpeek l n = (l.take n.toNat, 0) := by rw [bpeek, if_neg h]
theorem bpk_len (l : List UInt8) (n : Int) : (bpeek l n).1.length ≤ l.length := by
 unfold bpeek
 split
 ·exact Nat.zero_le _
 ·simp; omega
theorem bpk_nat (l : List UInt8) (n : Int) : (bpeek l n).2 = 0 ∨ ((bpeek l n).2 = 2 ∧ (bpeek l n).1 = [] ∧ n < 0) := by
 unfold bpeek
 split
 ·rename_i h; exact .inr ⟨rfl, rfl, h⟩
 ·exact .inl rfl
/-- What Skip leaves: the bytes, how many went, the error. -/
def bskip (l : List UInt8) (n : Int) : List UInt8 × Nat × Nat := if n < 0 then (l, 0, 2) else if (l.length : Int) < n then (l, 0, 3) else (l.drop n.toNat, n.toNat, 0)
theorem bsk_neg {l : List UInt8} {n : Int} (h : n < 0) : bskip l n = (l, 0, 2) := by rw [bskip, if_pos h]
theorem bsk_far {l : List UInt8} {n : Int} (h : ¬ n < 0) (h2 : (l.length : Int) < n) : bskip l n = (l, 0, 3) := by rw [bskip, if_neg h, if_pos h2]
theorem bsk_ok {l : List UInt8} {n : Int} (h : ¬ n < 0) (h2 : ¬ (l.length : Int) < n) : bskip l n = (l.drop n.toNat, n.toNat, 0) := by rw [bskip, if_neg h, if_neg h2]
theorem bsk_nat {l : List UInt8} {j : Nat} (h : j ≤ l.length) : bskip l (j : Int) = (l.drop j, j, 0) := by rw [bsk_ok (by omega) (by omega), Int.toNat_natCast]
/-- What All leaves. -/
def ball (m : Nat) (l q : List UInt8) : List UInt8 × Nat × Nat := if m - l.length < q.length then (l, 0, 7) else (l ++ q, q.length, 0)
theorem bal_full {m : Nat} {l q : List UInt8} (h : m - l.length < q.length) : ball m l q = (l, 0, 7) := by rw [ball, if_pos h]
theorem bal_ok {m : Nat} {l q : List UInt8} (h : ¬ m - l.length < q.length) : ball m l q = (l ++ q, q.length, 0) := by rw [ball, if_neg h]
theorem drop_snoc {d l q : List UInt8} {k : Nat} (h : d.drop k = l) (hk : k ≤ d.length) : (d ++ q).drop k = l ++ q := by rw [List.drop_append_of_le_length hk, h]
theorem peek_eq {d l : List UInt8} {k n : Nat} {hi : Int} (hdk : d.drop k = l) (hk : k ≤ d.length) (hh : hi = (k : Int) + ((min n l.length : Nat) : Int)) : (d.drop (k : Int).toNat).take (hi.toNat - (k : Int).toNat) = l.take n := by
 have e : hi.toNat - (k : Int).toNat = min n l.length := by omega
 rw [e, Int.toNat_natCast, hdk]
 rcases Nat.le_total n l.length with h | h
 ·rw [Nat.min_eq_left h]
 ·rw [Nat.min_eq_right h, List.take_of_length_le (Nat.le_refl _), List.take_of_length_le h]
theorem bzero_ok (w : World) (g : Nat) (m : Nat) (A : Option Addr) (c : Nat) (d : List UInt8) (k p t : Nat) (hm : 1 ≤ m) (hb_g : Blk w g 120 (bufc m A c d k p t)) :
  Fn Tryz.prog 67 #[(.pointer (some ⟨g, 0, none⟩))] w (fun v w' => v = .bool false ∧ w' = w)  := by
 refine fn_enter (args := [(.pointer (some ⟨g, 0, none⟩))]) Tryz.func67 rfl rfl rfl ?_
 show WC _ _ _ _ [(0, (.pointer (some ⟨g, 0, none⟩)))] _
 refine wc_seq (wc_regionL ?_)
 refine va rfl rfl ?_
 refine q_nil (k_then (wc_seq (wc_regionL ?_)))
 refine vm rfl rfl ?_
 refine wl_val (ov_nilptr Tryz.underlying54 rfl) rfl rfl rfl ?_
 refine vm rfl rfl ?_
 refine wl_gval (ov_move rfl) rfl rfl rfl rfl rfl ?_
 refine wl_gval (ov_nilCheck rfl) rfl rfl rfl rfl rfl ?_
 refine wl_gval (ov_field0 (off := 0) fo120_0 rfl) rfl rfl rfl rfl rfl ?_
 refine wl_gval (ov_loadAt oc3 rfl hb_g rfl) rfl rfl rfl rfl rfl ?_
 refine wl_gval (ov_eql rfl rfl) rfl rfl rfl rfl rfl ?_
 refine wl_spell (d := 10) rfl (bf (by omega)) ?_
 refine wl_val (ov_pick_f rfl rfl) rfl rfl rfl ?_
 refine va rfl rfl ?_
 refine q_nil (k_then (q_ret ?_))
 refine e_ret rfl rfl ?_
 exact ⟨rfl, rfl⟩
theorem blen_ok (w : World) (lo g : Nat) (D : Option Nat) (m : Nat) (l : List UInt8) (p t : Nat) (hbuf : Buf w lo g D m l p t) :
  Fn Tryz.prog 50 #[(.pointer (some ⟨g, 0, none⟩))] w (fun v w' => v = .int .i64 (l.length : Int) ∧ Ext w w')  := by
 obtain ⟨A, c, d, k, rfl, hb_g, hot, hkl, hdk, hkm, hlm, hm1, hm2⟩ := hbuf
 have hgl := hb_g.lt
 have hcd := hot.1
 have hcm := hot.2.1
 simp only [maxLen] at hcm
 have hE := ext_refl w
 refine fn_enter (args := [(.pointer (some ⟨g, 0, none⟩))]) Tryz.func50 rfl rfl rfl ?_
 show WC _ _ _ _ [(0, (.pointer (some ⟨g, 0, none⟩)))] _
 refine wc_seq (wc_regionL ?_)
 refine va rfl rfl ?_
 refine q_nil (k_then (wc_seq (wc_seq (wc_regionL ?_))))
 refine vm rfl rfl ?_
 refine wl_val (or_call0 cl67 rfl rfl (bzero_ok _ _ _ _ _ _ _ _ _ hm1 hb_g)) rfl rfl rfl ?_
 refine q_nil (k_then ?_)
 refine wc_cond_f rfl ?_
 refine q_skip (k_then (wc_seq ?_))
 refine wc_draw mixed 9 [(5, eqv (.pointer (some ⟨g, 0, none⟩))), (6, eqv (.pointer (some ⟨g, 0, none⟩))), (7, eqv (.pointer (some ⟨g, 1, none⟩))), (8, eqv (.slice A d.length c)), (9, eqv (.int .i64 (↑d.length : Int))), (10, eqv (.pointer (some ⟨g, 0, none⟩))), (11, eqv (.pointer (some ⟨g, 0, none⟩))), (12, eqv (.pointer (some ⟨g, 2, none⟩))), (13, eqv (.int .i64 (↑k : Int)))] [[], [0], [1], [2], [3], [], [5], [6], [7]] _ [] [] (fun _ _ h => h) trivial (by kernel_rfl) rfl ⟨⟨stb_eqv _, fun _ he => by cases he⟩, ⟨stb_eqv _, fun _ he => by cases he⟩, ⟨stb_eqv _, fun _ he => by cases he⟩, ⟨stb_eqv _, fun _ he => by cases he⟩, ⟨stb_eqv _, fun _ he => by cases he⟩, ⟨stb_eqv _, fun _ he => by cases he⟩, ⟨stb_eqv _, fun _ he => by cases he⟩, ⟨stb_eqv _, fun _ he => by cases he⟩, ⟨stb_eqv _, fun _ he => by cases he⟩, trivial⟩ ⟨?_, ?_, ?_, ?_, ?_, ?_, ?_, ?_, ?_, trivial⟩ ?_
 ·intro wd hxE
  have hz_hxE := hxE.size
  show OpG _ _ _ _ _ _
  exact og_plain rfl (ox_val (ov_move rfl))
 ·intro wd hxE
  have hz_hxE := hxE.size
  rintro _ rfl
  show OpG _ _ _ _ _ _
  exact og_plain rfl (ox_val (ov_nilCheck rfl))
 ·intro wd hxE
  have hz_hxE := hxE.size
  rintro _ rfl
  show OpG _ _ _ _ _ _
  exact og_plain rfl (ox_val (ov_field0 (off := 1) fo120_1 rfl))
 ·intro wd hxE
  replace hb_g := hb_g.ext hxE
  have hz_hxE := hxE.size
  rintro _ rfl
  show OpG _ _ _ _ _ _
  exact og_plain rfl (ox_val (ov_loadAt oc32 rfl hb_g rfl))
 ·intro wd hxE
  have hz_hxE := hxE.size
  rintro _ rfl
  show OpG _ _ _ _ _ _
  exact og_plain rfl (ox_val (ov_len Tryz.underlying32 rfl))
 ·intro wd hxE
  have hz_hxE := hxE.size
  show OpG _ _ _ _ _ _
  exact og_plain rfl (ox_val (ov_move rfl))
 ·intro wd hxE
  have hz_hxE := hxE.size
  rintro _ rfl
  show OpG _ _ _ _ _ _
  exact og_plain rfl (ox_val (ov_nilCheck rfl))
 ·intro wd hxE
  have hz_hxE := hxE.size
  rintro _ rfl
  show OpG _ _ _ _ _ _
  exact og_plain rfl (ox_val (ov_field0 (off := 2) fo120_2 rfl))
 ·intro wd hxE
  replace hb_g := hb_g.ext hxE
  have hz_hxE := hxE.size
  rintro _ rfl
  show OpG _ _ _ _ _ _
  exact og_plain rfl (ox_val (ov_loadAt oc3 rfl hb_g rfl))
 ·intro wf3 hf3
  replace hE := hE.tr hf3
  have hz_hf3 := hf3.size
  rintro _ rfl
  rintro _ rfl
  rintro _ rfl
  rintro _ rfl
  rintro _ rfl
  rintro _ rfl
  rintro _ rfl
  rintro _ rfl
  rintro _ rfl
  show WL _ _ _ [_, _] _ _ _
  refine wl_val (ov_sub rfl rfl (wi64 (by omega) (by omega))) rfl rfl rfl ?_
  refine va rfl rfl ?_
  refine q_nil (k_then (q_ret ?_))
  refine e_ret rfl rfl ?_
  exact ⟨by congr 1; omega, hE⟩
theorem bcap_ok (w : World) (lo g : Nat) (D : Option Nat) (m : Nat) (l : List UInt8) (p t : Nat) (hbuf : Buf w lo g D m l p t) :
  Fn Tryz.prog 89 #[(.pointer (some ⟨g, 0, none⟩))] w (fun v w' => v = .int .i64 (m : Int) ∧ Ext w w')  := by
 obtain ⟨A, c, d, k, rfl, hb_g, hot, hkl, hdk, hkm, hlm, hm1, hm2⟩ := hbuf
 have hgl := hb_g.lt
 have hcd := hot.1
 have hcm := hot.2.1
 simp only [maxLen] at hcm
 have hE := ext_refl w
 refine fn_enter (args := [(.pointer (some ⟨g, 0, none⟩))]) Tryz.func89 rfl rfl rfl ?_
 show WC _ _ _ _ [(0, (.pointer (some ⟨g, 0, none⟩)))] _
 refine wc_seq (wc_regionL ?_)
 refine va rfl rfl ?_
 refine q_nil (k_then (wc_seq (wc_seq (wc_regionL ?_))))
 refine vm rfl rfl ?_
 refine wl_val (or_call0 cl67 rfl rfl (bzero_ok _ _ _ _ _ _ _ _ _ hm1 hb_g)) rfl rfl rfl ?_
 refine q_nil (k_then ?_)
 refine wc_cond_f rfl ?_
 refine q_skip (k_then (wc_seq (wc_regionL ?_)))
 refine vm rfl rfl ?_
 refine vn rfl rfl ?_
 refine wl_val (ov_field0 (off := 0) fo120_0 rfl) rfl rfl rfl ?_
 refine wl_val (ov_loadAt oc3 rfl hb_g rfl) rfl rfl rfl ?_
 refine va rfl rfl ?_
 refine q_nil (k_then (q_ret ?_))
 refine e_ret rfl rfl ?_
 exact ⟨rfl, hE⟩
theorem broom_ok (w : World) (lo g : Nat) (D : Option Nat) (m : Nat) (l : List UInt8) (p t : Nat) (hbuf : Buf w lo g D m l p t) :
  Fn Tryz.prog 68 #[(.pointer (some ⟨g, 0, none⟩))] w (fun v w' => v = .int .i64 ((m - l.length : Nat) : Int) ∧ Ext w w')  := by
 obtain ⟨A, c, d, k, rfl, hb_g, hot, hkl, hdk, hkm, hlm, hm1, hm2⟩ := hbuf
 have hgl := hb_g.lt
 have hcd := hot.1
 have hcm := hot.2.1
 simp only [maxLen] at hcm
 have hE := ext_refl w
 refine fn_enter (args := [(.pointer (some ⟨g, 0, none⟩))]) Tryz.func68 rfl rfl rfl ?_
 show WC _ _ _ _ [(0, (.pointer (some ⟨g, 0, none⟩)))] _
 refine wc_seq (wc_regionL ?_)
 refine va rfl rfl ?_
 refine q_nil (k_then (wc_seq (wc_regionL ?_)))
 refine vm rfl rfl ?_
 refine wl_step (or_call0 cl89 rfl rfl (bcap_ok _ _ _ _ _ _ _ _ ⟨_, _, _, _, rfl, hb_g, hot, hkl, hdk, hkm, hlm, hm1, hm2⟩)) rfl rfl rfl ?_
 rintro v w1 ⟨rfl, he4⟩
 replace hb_g := hb_g.ext he4
 replace hot := OwnT.ext hot he4
 replace hE := hE.tr he4
 have hz_he4 := he4.size
 refine vm rfl rfl ?_
 refine wl_step (or_call0 cl50 rfl rfl (blen_ok _ _ _ _ _ _ _ _ ⟨_, _, _, _, rfl, hb_g, hot, hkl, hdk, hkm, hlm, hm1, hm2⟩)) rfl rfl rfl ?_
 rintro v w2 ⟨rfl, he6⟩
 replace hE := hE.tr he6
 have hz_he6 := he6.size
 refine wl_val (ov_sub rfl rfl (wi64 (by omega) (by omega))) rfl rfl rfl ?_
 refine va rfl rfl ?_
 refine q_nil (k_then (q_ret ?_))
 refine e_ret rfl rfl ?_
 exact ⟨by congr 1; omega, hE⟩
theorem bnew_ok (w : World) (m : Nat) (h1 : 1 ≤ m) (h2 : m ≤ 1048576) :
  Fn Tryz.prog 33 #[(.int .i64 (↑m : Int))] w (fun v w' => ∃ g, v = .tuple #[.pointer (some ⟨g, 0, none⟩), .int .i64 0] ∧ Buf w' w.heap.size g none m [] 0 0 ∧ Ext w w' ∧ w.heap.size ≤ g)  := by
 have hE := ext_refl w
 refine fn_enter (args := [(.int .i64 (↑m : Int))]) Tryz.func33 rfl rfl rfl ?_
 show WC _ _ _ _ [(0, (.int .i64 (↑m : Int)))] _
 refine wc_seq (wc_regionL ?_)
 iterate 2 refine va rfl rfl ?_
 refine q_nil (k_then (wc_seq (wc_seq (wc_regionL ?_))))
 refine vm rfl rfl ?_
 refine wl_val (ov_lss rfl rfl) rfl rfl rfl ?_
 refine wl_spell (d := 5) rfl (bf (by omega)) ?_
 refine vm rfl rfl ?_
 refine wl_gval (ov_move rfl) rfl rfl rfl rfl rfl ?_
 refine wl_gval (ov_gtr rfl rfl) rfl rfl rfl rfl rfl ?_
 refine wl_spell (d := 8) rfl (bf (by omega)) ?_
 refine wl_val (ov_pick_f rfl rfl) rfl rfl rfl ?_
 refine q_nil (k_then ?_)
 refine wc_cond_f rfl ?_
 refine q_skip (k_then (wc_seq (wc_regionL ?_)))
 refine vm rfl rfl ?_
 refine wl_val (ov_build (cs := [(.int .i64 (↑m : Int)), (.slice none 0 0), (.int .i64 0), (.int .u64 0), (.int .u64 0)]) ze120 pl120 rfl rfl) rfl rfl rfl ?_
 refine wl_step (or_box (cs := [(.int .i64 (↑m : Int)), (.slice none 0 0), (.int .i64 0), (.int .u64 0), (.int .u64 0)]) rfl rfl) rfl rfl rfl ?_
 rintro v w1 ⟨g12, rfl, hb_g12, he12, hl12, hu12⟩
 replace hE := hE.tr he12
 have hz_he12 := he12.size
 iterate 2 refine va rfl rfl ?_
 refine q_nil (k_then (q_ret ?_))
 refine e_ret2 rfl rfl rfl ?_
 exact ⟨g12, rfl, ⟨none, 0, [], 0, rfl, hb_g12, OwnT.nil_ _ _ _, rfl, rfl, by omega, by simp, h1, h2⟩, hE, by omega⟩
theorem bpeek_ok (w : World) (lo g : Nat) (D : Option Nat) (m : Nat) (l : List UInt8) (p t : Nat) (hbuf : Buf w lo g D m l p t) (n : Int) (hn1 : -9223372036854775808 ≤ n) (hn : n ≤ 9223372036854775807) :
  Fn Tryz.prog 72 #[(.pointer (some ⟨g, 0, none⟩)), (.int .i64 n)] w (fun v w' => ∃ B c2, v = .tuple #[.slice B (bpeek l n).1.length c2, .int .i64 ((bpeek l n).2 : Int)] ∧ OwnB w' w.heap.size 5 B c2 (bpeek l n).1 ∧ Ext w w')  := by
 obtain ⟨A, c, d, k, rfl, hb_g, hot, hkl, hdk, hkm, hlm, hm1, hm2⟩ := hbuf
 have hgl := hb_g.lt
 have hcd := hot.1
 have hcm := hot.2.1
 simp only [maxLen] at hcm
 have hE := ext_refl w
 refine fn_enter (args := [(.pointer (some ⟨g, 0, none⟩)), (.int .i64 n)]) Tryz.func72 rfl rfl rfl ?_
 show WC _ _ _ _ [(0, (.pointer (some ⟨g, 0, none⟩))), (1, (.int .i64 n))] _
 refine wc_seq (wc_regionL ?_)
 iterate 2 refine va rfl rfl ?_
 refine q_nil (k_then (wc_seq (wc_block (wc_seq (wc_regionL ?_)))))
 refine vm rfl rfl ?_
 refine wl_val (or_call0 cl67 rfl rfl (bzero_ok _ _ _ _ _ _ _ _ _ hm1 hb_g)) rfl rfl rfl ?_
 refine va rfl rfl ?_
 refine q_nil (k_then ?_)
 refine wc_cond_f rfl ?_
 refine wc_seq (wc_regionL ?_)
 refine vm rfl rfl ?_
 refine wl_val (ov_lss rfl rfl) rfl rfl rfl ?_
 refine wl_case_d (d := 12) rfl (fun hneg => ?_) (fun hneg => ?_)
 ·refine va rfl rfl ?_
  refine q_nil (k_then ?_)
  refine wc_cond_t rfl ?_
  refine wc_seq (wc_regionL ?_)
  iterate 2 refine va rfl rfl ?_
  refine q_nil (k_then (q_ret (k_blockR (k_thenR ?_))))
  refine e_ret2 rfl rfl rfl ?_
  rw [bpk_neg hneg]
  exact ⟨none, 0, rfl, Own.nil_ _ _ _ _, hE⟩
 ·refine va rfl rfl ?_
  refine q_nil (k_then ?_)
  refine wc_cond_f rfl ?_
  refine q_skip (k_block (k_then (wc_seq (wc_regionL ?_))))
  iterate 2 refine vm rfl rfl ?_
  refine wl_step (or_call0 cl50 rfl rfl (blen_ok _ _ _ _ _ _ _ _ ⟨_, _, _, _, rfl, hb_g, hot, hkl, hdk, hkm, hlm, hm1, hm2⟩)) rfl rfl rfl ?_
  rintro v w201 ⟨rfl, he15⟩
  replace hb_g := hb_g.ext he15
  replace hot := OwnT.ext hot he15
  replace hE := hE.tr he15
  have hz_he15 := he15.size
  refine wl_val (ov_min rfl rfl (m := ((min n.toNat l.length : Nat) : Int)) (by omega)) rfl rfl rfl ?_
  refine va rfl rfl ?_
  refine q_nil (k_then (wc_seq ?_))
  refine wc_draw mixed 14 [(17, eqv (.pointer (some ⟨g, 0, none⟩))), (18, eqv (.pointer (some ⟨g, 0, none⟩))), (19, eqv (.pointer (some ⟨g, 1, none⟩))), (20, eqv (.slice A d.length c)), (21, eqv (.pointer (some ⟨g, 0, none⟩))), (22, eqv (.pointer (some ⟨g, 0, none⟩))), (23, eqv (.pointer (some ⟨g, 2, none⟩))), (24, eqv (.int .i64 (↑k : Int))), (25, eqv (.pointer (some ⟨g, 0, none⟩))), (26, eqv (.pointer (some ⟨g, 0, none⟩))), (27, eqv (.pointer (some ⟨g, 2, none⟩))), (28, eqv (.int .i64 (↑k : Int))), (29, eqv (.int .i64 ((min n.toNat l.length : Nat) : Int))), (30, eqv (.int .i64 ((↑k : Int) + ((min n.toNat l.length : Nat) : Int))))] [[], [0], [1], [2], [], [4], [5], [6], [], [8], [9], [10], [], [11, 12]] _ [] [] (fun _ _ h => h) trivial (by kernel_rfl) rfl ⟨⟨stb_eqv _, fun _ he => by cases he⟩, ⟨stb_eqv _, fun _ he => by cases he⟩, ⟨stb_eqv _, fun _ he => by cases he⟩, ⟨stb_eqv _, fun _ he => by cases he⟩, ⟨stb_eqv _, fun _ he => by cases he⟩, ⟨stb_eqv _, fun _ he => by cases he⟩, ⟨stb_eqv _, fun _ he => by cases he⟩, ⟨stb_eqv _, fun _ he => by cases he⟩, ⟨stb_eqv _, fun _ he => by cases he⟩, ⟨stb_eqv _, fun _ he => by cases he⟩, ⟨stb_eqv _, fun _ he => by cases he⟩, ⟨stb_eqv _, fun _ he => by cases he⟩, ⟨stb_eqv _, fun _ he => by cases he⟩, ⟨stb_eqv _, fun _ he => by cases he⟩, trivial⟩ ⟨?_, ?_, ?_, ?_, ?_, ?_, ?_, ?_, ?_, ?_, ?_, ?_, ?_, ?_, trivial⟩ ?_
  ·intro wd hxE
   have hz_hxE := hxE.size
   show OpG _ _ _ _ _ _
   exact og_plain rfl (ox_val (ov_move rfl))
  ·intro wd hxE
   have hz_hxE := hxE.size
   rintro _ rfl
   show OpG _ _ _ _ _ _
   exact og_plain rfl (ox_val (ov_nilCheck rfl))
  ·intro wd hxE
   have hz_hxE := hxE.size
   rintro _ rfl
   show OpG _ _ _ _ _ _
   exact og_plain rfl (ox_val (ov_field0 (off := 1) fo120_1 rfl))
  ·intro wd hxE
   replace hb_g := hb_g.ext hxE
   have hz_hxE := hxE.size
   rintro _ rfl
   show OpG _ _ _ _ _ _
   exact og_plain rfl (ox_val (ov_loadAt oc32 rfl hb_g rfl))
  ·intro wd hxE
   have hz_hxE := hxE.size
   show OpG _ _ _ _ _ _
   exact og_plain rfl (ox_val (ov_move rfl))
  ·intro wd hxE
   have hz_hxE := hxE.size
   rintro _ rfl
   show OpG _ _ _ _ _ _
   exact og_plain rfl (ox_val (ov_nilCheck rfl))
  ·intro wd hxE
   have hz_hxE := hxE.size
   rintro _ rfl
   show OpG _ _ _ _ _ _
   exact og_plain rfl (ox_val (ov_field0 (off := 2) fo120_2 rfl))
  ·intro wd hxE
   replace hb_g := hb_g.ext hxE
   have hz_hxE := hxE.size
   rintro _ rfl
   show OpG _ _ _ _ _ _
   exact og_plain rfl (ox_val (ov_loadAt oc3 rfl hb_g rfl))
  ·intro wd hxE
   have hz_hxE := hxE.size
   show OpG _ _ _ _ _ _
   exact og_plain rfl (ox_val (ov_move rfl))
  ·intro wd hxE
   have hz_hxE := hxE.size
   rintro _ rfl
   show OpG _ _ _ _ _ _
   exact og_plain rfl (ox_val (ov_nilCheck rfl))
  ·intro wd hxE
   have hz_hxE := hxE.size
   rintro _ rfl
   show OpG _ _ _ _ _ _
   exact og_plain rfl (ox_val (ov_field0 (off := 2) fo120_2 rfl))
  ·intro wd hxE
   replace hb_g := hb_g.ext hxE
   have hz_hxE := hxE.size
   rintro _ rfl
   show OpG _ _ _ _ _ _
   exact og_plain rfl (ox_val (ov_loadAt oc3 rfl hb_g rfl))
  ·intro wd hxE
   have hz_hxE := hxE.size
   show OpG _ _ _ _ _ _
   exact og_plain rfl (ox_val (ov_move rfl))
  ·intro wd hxE
   have hz_hxE := hxE.size
   rintro _ rfl
   rintro _ rfl
   show OpG _ _ _ _ _ _
   exact og_plain rfl (ox_val (ov_add rfl rfl (wi64 (by omega) (by omega))))
  ·intro wf6 hf6
   replace hot := OwnT.ext hot hf6
   replace hE := hE.tr hf6
   have hz_hf6 := hf6.size
   rintro _ rfl
   rintro _ rfl
   rintro _ rfl
   rintro _ rfl
   rintro _ rfl
   rintro _ rfl
   rintro _ rfl
   rintro _ rfl
   rintro _ rfl
   rintro _ rfl
   rintro _ rfl
   rintro _ rfl
   rintro _ rfl
   rintro _ rfl
   show WL _ _ _ [_, _, _, _] _ _ _
   have hcap31 := RdB.cap (OwnT.rd hot)
   refine wl_step (or_bslice bt32 rfl (OwnT.rd hot) (bounds_lh rfl rfl (by omega) (by omega) (by omega)) (by omega) (by omega) (by omega) (by omega)) rfl rfl rfl ?_
   rintro v _ ⟨rfl, A31, c31, rfl, hr31, hl31⟩
   have hs31 : (d.drop (Int.toNat (↑k : Int))).take ((Int.toNat ((↑k : Int) + ((min n.toNat l.length : Nat) : Int))) - (Int.toNat (↑k : Int))) = (l.take n.toNat) := (peek_eq hdk (by omega) rfl)
   rw [hs31] at hr31 hl31; rw [hs31]; clear hs31
   refine wl_step (or_call0 cl47 rfl rfl (slclone_any _ _ _ _ _ _ hr31 (by omega))) rfl rfl rfl ?_
   rintro v w202 ⟨A32, c32, rfl, ho32, he32⟩
   replace hE := hE.tr he32
   have hz_he32 := he32.size
   iterate 2 refine va rfl rfl ?_
   refine q_nil (k_then (q_ret ?_))
   refine e_ret2 rfl rfl rfl ?_
   rw [bpk_ok hneg]
   exact ⟨A32, c32, rfl, Own.mono ho32 (by omega), hE⟩
end Go.Proofs.YtiighkbehiddkaaGreat