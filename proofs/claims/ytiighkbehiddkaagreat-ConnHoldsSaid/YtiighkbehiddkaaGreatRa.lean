/-
 Responses, plainly; the writing of parts.
-/
import Derived.Test.YtiighkbehiddkaaGreatQa
import Derived.Test.YtiighkbehiddkaaGreatRr
import Derived.Test.YtiighkbehiddkaaGreatFr
import Derived.Test.YtiighkbehiddkaaGreatTyp
import Derived.Test.YtiighkbehiddkaaGreatItems
namespace Go.Proofs.YtiighkbehiddkaaGreat
open Go.RowKit
set_option linter.unusedVariables false
set_option maxRecDepth 4000
theorem cl131 : callable Tryz.prog 131 = true := by kernel_rfl
theorem fo43_2 : fieldOff Tryz.prog 43 2 = some 2 := by kernel_rfl
theorem fo43_3 : fieldOff Tryz.prog 43 3 = some 3 := by kernel_rfl
theorem fo43_4 : fieldOff Tryz.prog 43 4 = some 4 := by kernel_rfl
theorem oc40 : oneCellTy Tryz.prog 40 = true := by kernel_rfl
/-- An item; a response. -/
structure Itm where
 mark : Int
 value : List UInt8
 ver : Nat
 dead : Nat
structure Rsp where
 op : Int
 err : Int
 items : List Itm
 ver : Nat
 count : Int
 nums : List Nat
theorem Itm.ext_iff' {a b : Itm} : a = b ↔ a.mark = b.mark ∧ a.value = b.value ∧ a.ver = b.ver ∧ a.dead = b.dead := by
 constructor
 ·rintro rfl; simp
 ·cases a; cases b; simp only [Itm.mk.injEq]; exact id
theorem Rsp.ext_iff' {a b : Rsp} : a = b ↔ a.op = b.op ∧ a.err = b.err ∧ a.items = b.items ∧ a.ver = b.ver ∧ a.count = b.count ∧ a.nums = b.nums := by
 constructor
 ·rintro rfl; simp
 ·cases a; cases b; simp only [Rsp.mk.injEq]; exact id
instance (a b : Itm) : Decidable (a = b) := decidable_of_iff _ Itm.ext_iff'.symm
instance (a b : Rsp) : Decidable (a = b) := decidable_of_iff _ Rsp.ext_iff'.symm
/-- An item with the place of its value; its cells. -/
abbrev IT := Itm × Option Addr × Nat
def itc (x : IT) : List Value := [.int .i64 x.1.mark, .slice x.2.1 x.1.value.length x.2.2, .int .u64 (x.1.ver : Int), .int .u64 (x.1.dead : Int)]
def nuc (n : Nat) : List Value := [.int .u64 (n : Int)]
def vals (xs : List IT) : List Itm := xs.map (·.1)
/-- A response's cells; the items with their places. -/
def rspc (r : Rsp) (X : Option Addr) (cx : Nat) (N : Option Addr) (cn : Nat) : List Value := [.int .i64 r.op, .int .i64 r.err, .slice X r.items.length cx, .int .u64 (r.ver : Int), .int .i64 r.count, .slice N r.nums.length cn]
abbrev RdN (w : World) (lo hi : Nat) (A : Option Addr) (c : Nat) (ns : List Nat) : Prop := RdR w lo hi 1 nuc A c ns
/-- The items read, and their values. -/
def RdI (w : World) (lo hi : Nat) (X : Option Addr) (cx : Nat) (xs : List IT) : Prop := RdR w lo hi 4 itc X cx xs ∧ ∀ x ∈ xs, RdB w lo hi x.2.1 x.2.2 x.1.value
theorem RdI.gr {w w' : World} {lo hi cx : Nat} {X : Option Addr} {xs : List IT} (h : RdI w lo hi X cx xs) {row : Option Nat} (hg : Gr w w' row) (hr : ∀ g, row = some g → g < lo ∨ hi ≤ g) : RdI w' lo hi X cx xs :=
 ⟨h.1.gr hg hr, fun x hx => (h.2 x hx).gr hg hr⟩
theorem RdI.ext {w w' : World} {lo hi cx : Nat} {X : Option Addr} {xs : List IT} (h : RdI w lo hi X cx xs) (he : Ext w w') : RdI w' lo hi X cx xs := h.gr he fun g e => by cases e
theorem RdI.mono {w : World} {lo hi lo' hi' cx : Nat} {X : Option Addr} {xs : List IT} (h : RdI w lo hi X cx xs) (h1 : lo' ≤ lo) (h2 : hi ≤ hi') : RdI w lo' hi' X cx xs := ⟨h.1.mono h1 h2, fun x hx => (h.2 x hx).mono h1 h2⟩
theorem RdI.top {w : World} {lo hi cx : Nat} {X : Option Addr} {xs : List IT} (h : RdI w lo hi X cx xs) : RdI w lo w.heap.size X cx xs := ⟨Rd.top h.1, fun x hx => Rd.top (h.2 x hx)⟩
theorem RdI.kp {w w' : World} {gs : List Nat} {lo hi cx : Nat} {X : Option Addr} {xs : List IT} (h : RdI w lo hi X cx xs) (k : Kp gs w w') (hg : ∀ g ∈ gs, g < lo ∨ hi ≤ g) : RdI w' lo hi X cx xs := ⟨k.rd h.1 hg, fun x hx => k.rd (h.2 x hx) hg⟩
theorem RdI.nil (w : World) (lo hi : Nat) : RdI w lo hi none 0 [] := ⟨Rd.nil _ _ _ _ _ _ (Nat.zero_le _), by simp⟩
/-- The parts of a response without an error: v version, c count, o one item, i items, m many, n numbers. -/
def pl (op : Int) : List UInt8 := if op = 1 ∨ op = 2 ∨ op = 3 then [118, 99] else if op = 4 then [111, 105] else if op = 5 then [109, 105] else if op = 15 then [110] else [99]
def plOk (op : Int) : Bool := decide (1 ≤ op ∧ op ≤ 15)
def okI (x : Itm) : Bool := decide (0 ≤ x.mark ∧ x.mark ≤ 2 ∧ x.value.length ≤ 65536)
def wI (x : Itm) : List UInt8 := enc x.mark.toNat ++ if x.mark = 0 then [] else enc x.ver ++ (enc x.dead ++ pb x.value)
def okP (r : Rsp) (p : UInt8) : Bool :=
 if p = 118 then true else if p = 99 then decide (0 ≤ r.count ∧ r.count ≤ 1099511627776) else if p = 111 then decide (r.items.length = 1) else if p = 105 then r.items.all okI
 else if p = 109 then decide (1 ≤ r.items.length ∧ r.items.length ≤ 16) else decide (r.nums.length ≤ 64)
def putC (r : Rsp) (p : UInt8) : List UInt8 :=
 if p = 118 then enc r.ver else if p = 99 then enc r.count.toNat else if p = 111 then [] else if p = 105 then r.items.flatMap wI
 else if p = 109 then enc r.items.length else enc r.nums.length ++ r.nums.flatMap enc
def isz (x : Itm) : Nat := x.value.length + 40
def rsz (r : Rsp) : Nat := (r.items.map isz).sum + 10 * r.nums.length + 100
theorem wI_len (x : Itm) (h : okI x = true) : (wI x).length ≤ isz x := by
 have h1 := enc_len x.mark.toNat
 have h2 := enc_len x.ver
 have h3 := enc_len x.dead
 have h4 := enc_len x.value.length
 unfold wI isz pb
 rw [List.length_append]
 split <;> simp only [List.length_nil, List.length_append] <;> omega
theorem wI_take {xs : List Itm} {k : Nat} {x : Itm} (h : xs[k]? = some x) : (xs.take (k + 1)).flatMap wI = (xs.take k).flatMap wI ++ wI x := by
 rw [List.take_add_one, h, List.flatMap_append]; simp
theorem okI_take {xs : List Itm} {k : Nat} {x : Itm} (h : xs[k]? = some x) : (xs.take (k + 1)).all okI = ((xs.take k).all okI && okI x) := by
 rw [List.take_add_one, h, List.all_append]; simp
theorem items_len : ∀ (xs : List Itm), xs.all okI = true → (xs.flatMap wI).length ≤ (xs.map isz).sum
 | [], _ => by simp
 | x :: r, h => by
  rw [List.all_cons, Bool.and_eq_true] at h
  have h1 := wI_len x h.1
  have h2 := items_len r h.2
  rw [List.flatMap_cons, List.length_append, List.map_cons, List.sum_cons]; omega
theorem sum_take (xs : List Itm) : ∀ k, ((xs.take k).map isz).sum ≤ (xs.map isz).sum := by
 intro k
 have e : (xs.map isz).sum = ((xs.take k).map isz).sum + ((xs.drop k).map isz).sum := by rw [← List.sum_append_nat, ← List.map_append, List.take_append_drop]
 omega
theorem enc_take {xs : List Nat} {k : Nat} {x : Nat} (h : xs[k]? = some x) : (xs.take (k + 1)).flatMap enc = (xs.take k).flatMap enc ++ enc x := by
 rw [List.take_add_one, h, List.flatMap_append]; simp
theorem encs_len (xs : List Nat) : (xs.flatMap enc).length ≤ 10 * xs.length := by
 induction xs with
 | nil => simp
 | cons a r ih => have := enc_len a; rw [List.flatMap_cons, List.length_append, List.length_cons]; omega
theorem rnum_any (w : World) (gb : Nat) (A : Option Addr) (c : Nat) (out : List UInt8) {b0 : Nat} (hb0 : b0 ≤ w.heap.size) (hb_gb : Blk w gb 32 [.slice A (out).length c]) (ho : OwnB w (b0) 5 A c out) (hol : out.length ≤ 35184372088832) (n m : Nat) (hn : n < 18446744073709551616) (hm : m < 18446744073709551616) :
  Fn Tryz.prog 131 #[(.pointer (some ⟨gb, 0, none⟩)), (.int .u64 (↑n : Int)), (.int .u64 (↑m : Int))] w (fun v w' => v = .bool (decide (n ≤ m)) ∧ (∃ A' c', Blk w' gb 32 [.slice A' (out ++ enc n).length c'] ∧ OwnB w' (b0) 5 A' c' (out ++ enc n)) ∧ Gr w w' (some gb))  := by
 have hG := (ext_refl w).row (some gb)
 have hgbl := hb_gb.lt
 refine fn_enter (args := [(.pointer (some ⟨gb, 0, none⟩)), (.int .u64 (↑n : Int)), (.int .u64 (↑m : Int))]) Tryz.func131 rfl rfl rfl ?_
 show WC _ _ _ _ [(0, (.pointer (some ⟨gb, 0, none⟩))), (1, (.int .u64 (↑n : Int))), (2, (.int .u64 (↑m : Int)))] _
 refine wc_seq (wc_regionL ?_)
 refine va rfl rfl ?_
 refine q_nil (k_then (wc_seq (wc_regionL ?_)))
 iterate 2 refine vm rfl rfl ?_
 refine vn rfl rfl ?_
 refine wl_val (ov_loadAt oc32 rfl hb_gb rfl) rfl rfl rfl ?_
 refine vm rfl rfl ?_
 refine wl_step (or_call0 cl92 rfl rfl (put_any _ _ _ _ _ out (n) (OwnB.rd ho) (by omega) (by omega))) rfl rfl rfl ?_
 rintro v w1 ⟨A12, c12, rfl, ho12, he12⟩
 replace hb_gb := hb_gb.ext he12
 replace hG := hG.gr he12 (fun _ e => by cases e)
 have hz_he12 := he12.size
 have hq_ho12 := fun g e => Own.lt ho12 (g := g) e
 refine vn rfl rfl ?_
 refine wl_step0 (or_storeAt (cs' := [(.slice A12 (out ++ enc (n)).length c12)]) sz32 rfl rfl rfl hb_gb rfl rfl) rfl rfl ?_
 rintro _ w2 ⟨hN2, hg2⟩
 have hz_hg2 := hg2.size
 replace hG := hG.gr hg2 (fun _ e => by first | exact .inl e | (cases e; right; omega))
 replace ho12 := Own.gr ho12 hg2 (by first | exact .inl rfl | (right; intro e; first | (have := hq_ho12 _ e; omega) | (have := Own.lt ho12 e; omega) | exact own_blk_ne ho12 hb_gb (by decide) e))
 replace hb_gb := hN2
 refine q_nil (k_then (wc_seq (wc_regionL ?_)))
 iterate 2 refine vm rfl rfl ?_
 refine wl_val (ov_leq rfl rfl) rfl rfl rfl ?_
 refine va rfl rfl ?_
 refine q_nil (k_then (q_ret ?_))
 refine e_ret rfl rfl ?_
 exact ⟨by congr 1; rw [decide_eq_decide]; omega, ⟨A12, c12, hb_gb, Own.mono ho12 (by omega)⟩, hG⟩
theorem putv (w : World) (gb gx : Nat) (A : Option Addr) (c : Nat) (out : List UInt8) {b0 : Nat} (hb0 : b0 ≤ w.heap.size) (hb_gb : Blk w gb 32 [.slice A (out).length c]) (ho : OwnB w (b0) 5 A c out) (hol : out.length ≤ 35184372088832) (r : Rsp) (xs : List IT) (hxs : vals xs = r.items) (X : Option Addr) (cx : Nat) (N : Option Addr) (cn : Nat) (hb_gx : Blk w gx 43 (rspc r X cx N cn)) (hne : gx ≠ gb) (lo hi : Nat) (hx : RdI w lo hi X cx xs) (hn : RdN w lo hi N cn r.nums) (hxb : gb < lo ∨ hi ≤ gb) (hhi : hi ≤ w.heap.size) (hvr : r.ver < 18446744073709551616) (hdd : ∀ x ∈ r.items, x.ver < 18446744073709551616 ∧ x.dead < 18446744073709551616) (hnn : ∀ n ∈ r.nums, n < 18446744073709551616) (hsz : out.length + rsz r ≤ 17592186044416) :
  Fn Tryz.prog 130 #[(.pointer (some ⟨gb, 0, none⟩)), (.pointer (some ⟨gx, 0, none⟩))] w (fun v w' => v = .bool (okP r 118) ∧ (∃ A' c' o', Blk w' gb 32 [.slice A' (List.length o') c'] ∧ OwnB w' (b0) 5 A' c' o' ∧ (okP r 118 = true → o' = out ++ putC r 118)) ∧ Gr w w' (some gb))  := by
 have hG := (ext_refl w).row (some gb)
 have hgbl := hb_gb.lt
 have hgxl := hb_gx.lt
 have hxl : xs.length = r.items.length := by rw [← hxs]; exact (List.length_map ..).symm
 have hcx := hx.1.1
 have hcx2 := hx.1.2.1
 have hcn := hn.1
 have hcn2 := hn.2.1
 simp only [maxLen] at hcx2 hcn2
 refine fn_enter (args := [(.pointer (some ⟨gb, 0, none⟩)), (.pointer (some ⟨gx, 0, none⟩))]) Tryz.func130 rfl rfl rfl ?_
 show WC _ _ _ _ [(0, (.pointer (some ⟨gb, 0, none⟩))), (1, (.pointer (some ⟨gx, 0, none⟩)))] _
 refine wc_seq (wc_regionL ?_)
 refine va rfl rfl ?_
 refine q_nil (k_then (wc_seq (wc_regionL ?_)))
 iterate 2 refine vm rfl rfl ?_
 refine vn rfl rfl ?_
 refine wl_val (ov_field0 (off := 3) fo43_3 rfl) rfl rfl rfl ?_
 refine wl_val (ov_loadAt oc36 rfl hb_gx rfl) rfl rfl rfl ?_
 refine wl_step (or_call0 cl131 rfl rfl (rnum_any _ gb A c out (by omega) hb_gb ho (by omega) (r.ver) 18446744073709551615 (by omega) (by omega))) rfl rfl rfl ?_
 rintro v w1 ⟨rfl, ⟨A10, c10, hN10, ho10⟩, hg10⟩
 have hz_hg10 := hg10.size
 replace hG := hG.gr hg10 (fun _ e => by first | exact .inl e | (cases e; right; omega))
 replace hb_gb := hN10
 have hl10 : (out ++ enc (r.ver)).length = (out).length + (enc (r.ver)).length := List.length_append
 have hle10 := enc_len (r.ver)
 refine va rfl rfl ?_
 refine q_nil (k_then (q_ret ?_))
 refine e_ret rfl rfl ?_
 exact ⟨by show Value.bool (decide _) = .bool true; rw [decide_eq_true (by omega)], ⟨A10, c10, _, hb_gb, ho10, fun _ => rfl⟩, hG⟩
theorem putc (w : World) (gb gx : Nat) (A : Option Addr) (c : Nat) (out : List UInt8) {b0 : Nat} (hb0 : b0 ≤ w.heap.size) (hb_gb : Blk w gb 32 [.slice A (out).length c]) (ho : OwnB w (b0) 5 A c out) (hol : out.length ≤ 35184372088832) (r : Rsp) (xs : List IT) (hxs : vals xs = r.items) (X : Option Addr) (cx : Nat) (N : Option Addr) (cn : Nat) (hb_gx : Blk w gx 43 (rspc r X cx N cn)) (hne : gx ≠ gb) (lo hi : Nat) (hx : RdI w lo hi X cx xs) (hn : RdN w lo hi N cn r.nums) (hxb : gb < lo ∨ hi ≤ gb) (hhi : hi ≤ w.heap.size) (hvr : r.ver < 18446744073709551616) (hdd : ∀ x ∈ r.items, x.ver < 18446744073709551616 ∧ x.dead < 18446744073709551616) (hnn : ∀ n ∈ r.nums, n < 18446744073709551616) (hsz : out.length + rsz r ≤ 17592186044416) (hcnt : r.count ≤ 9223372036854775807) :
  Fn Tryz.prog 133 #[(.pointer (some ⟨gb, 0, none⟩)), (.pointer (some ⟨gx, 0, none⟩))] w (fun v w' => v = .bool (okP r 99) ∧ (∃ A' c' o', Blk w' gb 32 [.slice A' (List.length o') c'] ∧ OwnB w' (b0) 5 A' c' o' ∧ (okP r 99 = true → o' = out ++ putC r 99)) ∧ Gr w w' (some gb))  := by
 have hG := (ext_refl w).row (some gb)
 have hgbl := hb_gb.lt
 have hgxl := hb_gx.lt
 have hxl : xs.length = r.items.length := by rw [← hxs]; exact (List.length_map ..).symm
 have hcx := hx.1.1
 have hcx2 := hx.1.2.1
 have hcn := hn.1
 have hcn2 := hn.2.1
 simp only [maxLen] at hcx2 hcn2
 refine fn_enter (args := [(.pointer (some ⟨gb, 0, none⟩)), (.pointer (some ⟨gx, 0, none⟩))]) Tryz.func133 rfl rfl rfl ?_
 show WC _ _ _ _ [(0, (.pointer (some ⟨gb, 0, none⟩))), (1, (.pointer (some ⟨gx, 0, none⟩)))] _
 refine wc_seq (wc_regionL ?_)
 refine va rfl rfl ?_
 refine q_nil (k_then (wc_seq (wc_regionL ?_)))
 refine vm rfl rfl ?_
 refine vn rfl rfl ?_
 refine wl_val (ov_field0 (off := 4) fo43_4 rfl) rfl rfl rfl ?_
 refine wl_val (ov_loadAt oc3 rfl hb_gx rfl) rfl rfl rfl ?_
 refine wl_val (ov_geq rfl rfl) rfl rfl rfl ?_
 refine wl_case_d (d := 9) rfl (fun h9 => ?_) (fun h9 => ?_)
 ·refine vm rfl rfl ?_
  iterate 2 refine wl_gval (ov_move rfl) rfl rfl rfl rfl rfl ?_
  refine wl_gval (ov_nilCheck rfl) rfl rfl rfl rfl rfl ?_
  refine wl_gval (ov_field0 (off := 4) fo43_4 rfl) rfl rfl rfl rfl rfl ?_
  refine wl_gval (ov_loadAt oc3 rfl hb_gx rfl) rfl rfl rfl rfl rfl ?_
  refine wl_gval (ov_conv Tryz.underlying3 Tryz.underlying36 rfl (wu64 (by omega) (by omega))) rfl rfl rfl rfl rfl ?_
  have hcu := hcnt
  refine wl_spell (d := 16) rfl (v' := (.int .u64 (↑r.count.toNat : Int))) (by rw [Int.toNat_of_nonneg (by omega)]) ?_
  refine wl_gstep (or_call0 cl131 rfl rfl (rnum_any _ gb A c out (by omega) hb_gb ho (by omega) (r.count.toNat) 1099511627776 (by omega) (by omega))) rfl rfl rfl rfl rfl ?_
  rintro v w1 ⟨rfl, ⟨A17, c17, hN17, ho17⟩, hg17⟩
  have hz_hg17 := hg17.size
  replace hG := hG.gr hg17 (fun _ e => by first | exact .inl e | (cases e; right; omega))
  replace hb_gb := hN17
  have hl17 : (out ++ enc (r.count.toNat)).length = (out).length + (enc (r.count.toNat)).length := List.length_append
  have hle17 := enc_len (r.count.toNat)
  refine wl_val (ov_pick_t rfl rfl) rfl rfl rfl ?_
  refine va rfl rfl ?_
  refine q_nil (k_then (q_ret ?_))
  refine e_ret rfl rfl ?_
  refine ⟨?_, ⟨A17, c17, _, hb_gb, ho17, fun _ => rfl⟩, hG⟩
  show Value.bool (decide _) = .bool (decide _)
  congr 1; rw [decide_eq_decide]; omega
 ·refine vm rfl rfl ?_
  iterate 7 refine wl_gskip rfl rfl rfl rfl rfl rfl ?_
  refine wl_val (ov_pick_f rfl rfl) rfl rfl rfl ?_
  refine va rfl rfl ?_
  refine q_nil (k_then (q_ret ?_))
  refine e_ret rfl rfl ?_
  refine ⟨?_, ⟨A, c, out, hb_gb, ho, fun h => ?_⟩, hG⟩
  ·show Value.bool false = .bool (decide _)
   rw [decide_eq_false (by omega)]
  ·have h2 := of_decide_eq_true h
   omega
theorem puto (w : World) (gb gx : Nat) (A : Option Addr) (c : Nat) (out : List UInt8) {b0 : Nat} (hb0 : b0 ≤ w.heap.size) (hb_gb : Blk w gb 32 [.slice A (out).length c]) (ho : OwnB w (b0) 5 A c out) (hol : out.length ≤ 35184372088832) (r : Rsp) (xs : List IT) (hxs : vals xs = r.items) (X : Option Addr) (cx : Nat) (N : Option Addr) (cn : Nat) (hb_gx : Blk w gx 43 (rspc r X cx N cn)) (hne : gx ≠ gb) (lo hi : Nat) (hx : RdI w lo hi X cx xs) (hn : RdN w lo hi N cn r.nums) (hxb : gb < lo ∨ hi ≤ gb) (hhi : hi ≤ w.heap.size) (hvr : r.ver < 18446744073709551616) (hdd : ∀ x ∈ r.items, x.ver < 18446744073709551616 ∧ x.dead < 18446744073709551616) (hnn : ∀ n ∈ r.nums, n < 18446744073709551616) (hsz : out.length + rsz r ≤ 17592186044416) :
  Fn Tryz.prog 135 #[(.pointer (some ⟨gb, 0, none⟩)), (.pointer (some ⟨gx, 0, none⟩))] w (fun v w' => v = .bool (okP r 111) ∧ (∃ A' c' o', Blk w' gb 32 [.slice A' (List.length o') c'] ∧ OwnB w' (b0) 5 A' c' o' ∧ (okP r 111 = true → o' = out ++ putC r 111)) ∧ Gr w w' (some gb))  := by
 have hG := (ext_refl w).row (some gb)
 have hgbl := hb_gb.lt
 have hgxl := hb_gx.lt
 have hxl : xs.length = r.items.length := by rw [← hxs]; exact (List.length_map ..).symm
 have hcx := hx.1.1
 have hcx2 := hx.1.2.1
 have hcn := hn.1
 have hcn2 := hn.2.1
 simp only [maxLen] at hcx2 hcn2
 refine fn_enter (args := [(.pointer (some ⟨gb, 0, none⟩)), (.pointer (some ⟨gx, 0, none⟩))]) Tryz.func135 rfl rfl rfl ?_
 show WC _ _ _ _ [(0, (.pointer (some ⟨gb, 0, none⟩))), (1, (.pointer (some ⟨gx, 0, none⟩)))] _
 refine wc_seq (wc_regionL ?_)
 refine va rfl rfl ?_
 refine q_nil (k_then (wc_seq (wc_regionL ?_)))
 refine vm rfl rfl ?_
 refine vn rfl rfl ?_
 refine wl_val (ov_field0 (off := 2) fo43_2 rfl) rfl rfl rfl ?_
 refine wl_val (ov_loadAt oc40 rfl hb_gx rfl) rfl rfl rfl ?_
 refine wl_val (ov_len Tryz.underlying40 rfl) rfl rfl rfl ?_
 refine ve rfl rfl rfl ?_
 refine va rfl rfl ?_
 refine q_nil (k_then (q_ret ?_))
 refine e_ret rfl rfl ?_
 refine ⟨?_, ⟨A, c, out, hb_gb, ho, fun _ => (List.append_nil _).symm⟩, hG⟩
 show Value.bool (decide _) = .bool (decide _)
 congr 1; rw [decide_eq_decide]; omega
theorem putm (w : World) (gb gx : Nat) (A : Option Addr) (c : Nat) (out : List UInt8) {b0 : Nat} (hb0 : b0 ≤ w.heap.size) (hb_gb : Blk w gb 32 [.slice A (out).length c]) (ho : OwnB w (b0) 5 A c out) (hol : out.length ≤ 35184372088832) (r : Rsp) (xs : List IT) (hxs : vals xs = r.items) (X : Option Addr) (cx : Nat) (N : Option Addr) (cn : Nat) (hb_gx : Blk w gx 43 (rspc r X cx N cn)) (hne : gx ≠ gb) (lo hi : Nat) (hx : RdI w lo hi X cx xs) (hn : RdN w lo hi N cn r.nums) (hxb : gb < lo ∨ hi ≤ gb) (hhi : hi ≤ w.heap.size) (hvr : r.ver < 18446744073709551616) (hdd : ∀ x ∈ r.items, x.ver < 18446744073709551616 ∧ x.dead < 18446744073709551616) (hnn : ∀ n ∈ r.nums, n < 18446744073709551616) (hsz : out.length + rsz r ≤ 17592186044416) :
  Fn Tryz.prog 139 #[(.pointer (some ⟨gb, 0, none⟩)), (.pointer (some ⟨gx, 0, none⟩))] w (fun v w' => v = .bool (okP r 109) ∧ (∃ A' c' o', Blk w' gb 32 [.slice A' (List.length o') c'] ∧ OwnB w' (b0) 5 A' c' o' ∧ (okP r 109 = true → o' = out ++ putC r 109)) ∧ Gr w w' (some gb))  := by
 have hG := (ext_refl w).row (some gb)
 have hgbl := hb_gb.lt
 have hgxl := hb_gx.lt
 have hxl : xs.length = r.items.length := by rw [← hxs]; exact (List.length_map ..).symm
 have hcx := hx.1.1
 have hcx2 := hx.1.2.1
 have hcn := hn.1
 have hcn2 := hn.2.1
 simp only [maxLen] at hcx2 hcn2
 refine fn_enter (args := [(.pointer (some ⟨gb, 0, none⟩)), (.pointer (some ⟨gx, 0, none⟩))]) Tryz.func139 rfl rfl rfl ?_
 show WC _ _ _ _ [(0, (.pointer (some ⟨gb, 0, none⟩))), (1, (.pointer (some ⟨gx, 0, none⟩)))] _
 refine wc_seq (wc_regionL ?_)
 refine va rfl rfl ?_
 refine q_nil (k_then (wc_seq (wc_regionL ?_)))
 refine vm rfl rfl ?_
 refine vn rfl rfl ?_
 refine wl_val (ov_field0 (off := 2) fo43_2 rfl) rfl rfl rfl ?_
 refine wl_val (ov_loadAt oc40 rfl hb_gx rfl) rfl rfl rfl ?_
 refine wl_val (ov_len Tryz.underlying40 rfl) rfl rfl rfl ?_
 refine wl_val (ov_gtr rfl rfl) rfl rfl rfl ?_
 refine wl_case_d (d := 10) rfl (fun h10 => ?_) (fun h10 => ?_)
 ·refine vm rfl rfl ?_
  iterate 2 refine wl_gval (ov_move rfl) rfl rfl rfl rfl rfl ?_
  refine wl_gval (ov_nilCheck rfl) rfl rfl rfl rfl rfl ?_
  refine wl_gval (ov_field0 (off := 2) fo43_2 rfl) rfl rfl rfl rfl rfl ?_
  refine wl_gval (ov_loadAt oc40 rfl hb_gx rfl) rfl rfl rfl rfl rfl ?_
  refine wl_gval (ov_len Tryz.underlying40 rfl) rfl rfl rfl rfl rfl ?_
  refine wl_gval (ov_conv Tryz.underlying3 Tryz.underlying36 rfl (wu64 (by omega) (by omega))) rfl rfl rfl rfl rfl ?_
  refine wl_gstep (or_call0 cl131 rfl rfl (rnum_any _ gb A c out (by omega) hb_gb ho (by omega) (r.items.length) 16 (by omega) (by omega))) rfl rfl rfl rfl rfl ?_
  rintro v w1 ⟨rfl, ⟨A19, c19, hN19, ho19⟩, hg19⟩
  have hz_hg19 := hg19.size
  replace hG := hG.gr hg19 (fun _ e => by first | exact .inl e | (cases e; right; omega))
  replace hb_gb := hN19
  have hl19 : (out ++ enc (r.items.length)).length = (out).length + (enc (r.items.length)).length := List.length_append
  have hle19 := enc_len (r.items.length)
  refine wl_val (ov_pick_t rfl rfl) rfl rfl rfl ?_
  refine va rfl rfl ?_
  refine q_nil (k_then (q_ret ?_))
  refine e_ret rfl rfl ?_
  refine ⟨?_, ⟨A19, c19, _, hb_gb, ho19, fun _ => rfl⟩, hG⟩
  show Value.bool (decide _) = .bool (decide _)
  congr 1; rw [decide_eq_decide]; omega
 ·refine vm rfl rfl ?_
  iterate 8 refine wl_gskip rfl rfl rfl rfl rfl rfl ?_
  refine wl_val (ov_pick_f rfl rfl) rfl rfl rfl ?_
  refine va rfl rfl ?_
  refine q_nil (k_then (q_ret ?_))
  refine e_ret rfl rfl ?_
  refine ⟨?_, ⟨A, c, out, hb_gb, ho, fun h => ?_⟩, hG⟩
  ·show Value.bool false = .bool (decide _)
   rw [decide_eq_false (by omega)]
  ·have h2 := of_decide_eq_true h
   omega
end Go.Proofs.YtiighkbehiddkaaGreat