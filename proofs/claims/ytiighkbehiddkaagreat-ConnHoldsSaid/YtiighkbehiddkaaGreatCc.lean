/-
 Copies of rows and of a response.
-/
import Derived.Test.YtiighkbehiddkaaGreatCb
namespace Go.Proofs.YtiighkbehiddkaaGreat
open Go.RowKit
set_option linter.unusedVariables false
set_option maxRecDepth 4000
theorem cl70 : callable Tryz.prog 70 = true := by kernel_rfl
theorem cl71 : callable Tryz.prog 71 = true := by kernel_rfl
theorem flat_itc4 (xs : List IT) : ∀ x ∈ xs, (itc x).length = 4 := fun _ _ => rfl
section
variable {P : Program} {L : Env} {w : World} {d : Option Nat} {ty : TypeId} {pos : String} {aft : Array Edge} {gd : Option (Nat × Bool)}
theorem or_storeOwnG {t e : TypeId} {x y : Operand} {lo g k n c size : Nat} {xs : List Value} {v : Value} (ht : (P.info? t).map (·.size) = some 1) (hx : ev L x = some (.pointer (some ⟨g, k, none⟩))) (hy : ev L y = some v) (h1v : v.oneCell' = true) (hown : Own w lo e size (some ⟨g, 0, none⟩) n c xs) (hk : k < n * size) (hl : k < xs.length) :
  OpRun P ⟨d, .store t x y, ty, pos, aft, gd⟩ L w fun _ w' => Own w' lo e size (some ⟨g, 0, none⟩) n c (xs.set k v) ∧ Gr w w' (some g) :=
 opRun_skip fun ρ h1 _ => by
  have hcell := World.ownsRow.cellAt hown k hk
  have hfr := World.ownsRow.frozenAt hown k
  obtain ⟨inf, hinf, hsz⟩ := Option.map_eq_some_iff.1 ht
  refine ⟨w.setCell ⟨g, k, none⟩ v, ?_, (World.ownsRow.stored hown k v).1, gr_setCell w ⟨g, k, none⟩ v⟩
  have hst := run_store P w ⟨g, k, none⟩ v .plain h1v
  rw [hcell, List.getElem?_eq_getElem hl] at hst
  simp only [hfr] at hst
  have hc : v.cells = #[v] := by cases v <;> first | rfl | (simp [Value.oneCell'] at h1v)
  simp [execOp, h1 x _ hx, h1 y _ hy, Instr.storeAt, Instr.sureAddr, storeVar, sizeOf_run hinf, hsz, hc, storeCells, Addr.add_zero', hst]
end
theorem own_field {w : World} {lo e g n c : Nat} {zs : List IT} {i j : Nat} {x : IT} {u : Value} (h : Own w lo e 4 (some ⟨g, 0, none⟩) n c (zs.flatMap itc)) (hn : n = zs.length) (hx : zs[i]? = some x) (hu : (itc x)[j]? = some u) : w.cell? ⟨g, i * 4 + j, none⟩ = some u := by
 have hi := (List.getElem?_eq_some_iff.1 hx).1
 have hj : j < 4 := (List.getElem?_eq_some_iff.1 hu).1
 rw [World.ownsRow.cellAt h (i * 4 + j) (by omega)]
 exact flat_get (flat_itc4 zs) hx hu
/-- The items so far copied, and the rest. -/
theorem set_value {ys xs : List IT} {i : Nat} {x : IT} (hy : ys.length = i) (hx : xs[i]? = some x) (A : Option Addr) (c : Nat) :
  ((ys ++ xs.drop i).flatMap itc).set (i * 4 + 1) (.slice A x.1.value.length c) = ((ys ++ [(x.1, A, c)]) ++ xs.drop (i + 1)).flatMap itc := by
 have hi := (List.getElem?_eq_some_iff.1 hx).1
 have hd : xs.drop i = x :: xs.drop (i + 1) := by rw [List.drop_eq_getElem_cons hi]; congr 1; exact (List.getElem?_eq_some_iff.1 hx).2
 rw [List.flatMap_append, hd, List.flatMap_cons, List.set_append_right _ _ (by rw [itc_len]; omega), itc_len, hy, show i * 4 + 1 - 4 * i = 1 by omega, List.flatMap_append, List.flatMap_append, List.append_assoc, List.flatMap_singleton]
 rfl
/-- The values of items, each in a row of one's own, in order. -/
def OwnV (w : World) (lo : Nat) (ys : List IT) : Prop := (∀ y ∈ ys, OwnB w lo 5 y.2.1 y.2.2 y.1.value) ∧ ys.Pairwise fun a b => ∀ g g', blk a.2.1 = some g → blk b.2.1 = some g' → g < g'
theorem OwnV.ext {w w' : World} {lo : Nat} {ys : List IT} (h : OwnV w lo ys) (he : Ext w w') : OwnV w' lo ys := ⟨fun y hy => Own.ext (h.1 y hy) he, h.2⟩
theorem OwnV.gr {w w' : World} {lo : Nat} {ys : List IT} (h : OwnV w lo ys) {row : Option Nat} (hg : Gr w w' row) (hr : ∀ g, row = some g → g < lo) : OwnV w' lo ys :=
 ⟨fun y hy => Own.gr (h.1 y hy) hg (own_apart fun g e g' e' => by have := Own.lt (h.1 y hy) e; have := hr g' e'; omega), h.2⟩
theorem OwnV.add {w : World} {lo B : Nat} {ys : List IT} {y : IT} (h : OwnV w lo ys) (hy : OwnB w lo 5 y.2.1 y.2.2 y.1.value) (hb : ∀ g, blk y.2.1 = some g → B ≤ g) (hB : ∀ x ∈ ys, ∀ g, blk x.2.1 = some g → g < B) : OwnV w lo (ys ++ [y]) := by
 refine ⟨?_, ?_⟩
 ·intro z hz
  rcases List.mem_append.1 hz with hz | hz
  ·exact h.1 z hz
  ·rw [List.mem_singleton.1 hz]; exact hy
 ·rw [List.pairwise_append]
  refine ⟨h.2, by simp, ?_⟩
  intro a ha b hb' g g' e e'
  rw [List.mem_singleton.1 hb'] at e'
  have := hB a ha g e
  have := hb g' e'
  omega
theorem OwnV.vr {w : World} {lo : Nat} {ys : List IT} (h : OwnV w lo ys) : VR w lo ys := fun y hy => OwnB.rd (h.1 y hy)
theorem OwnV.lt {w : World} {lo : Nat} {ys : List IT} (h : OwnV w lo ys) : ∀ x ∈ ys, ∀ g, blk x.2.1 = some g → g < w.heap.size := fun x hx g e => (Own.lt (h.1 x hx) e).2
theorem OwnV.mono {w : World} {lo lo' : Nat} {ys : List IT} (h : OwnV w lo ys) (hl : lo' ≤ lo) : OwnV w lo' ys := ⟨fun y hy => Own.mono (h.1 y hy) hl, h.2⟩
theorem itc_one : ∀ {xs : List IT} {u : Value}, u ∈ xs.flatMap itc → u.oneCell' = true := by
 intro xs u h
 obtain ⟨x, _, hx⟩ := List.mem_flatMap.1 h
 simp only [itc, List.mem_cons, List.not_mem_nil, or_false] at hx
 rcases hx with rfl | rfl | rfl | rfl <;> rfl
theorem nuc_one : ∀ {xs : List Nat} {u : Value}, u ∈ xs.flatMap nuc → u.oneCell' = true := by
 intro xs u h
 obtain ⟨x, _, hx⟩ := List.mem_flatMap.1 h
 rw [List.mem_singleton.1 hx]; rfl
/-- A copy: the items' row, the values' rows and the numbers' row are one's own, from lo on. -/
structure CopyAt (w : World) (lo : Nat) (r : Rsp) (ys : List IT) (X : Option Addr) (cx : Nat) (N : Option Addr) (cn : Nat) : Prop where
 v : vals ys = r.items
 x : Own w lo 80 4 X r.items.length cx (ys.flatMap itc)
 vs : OwnV w lo ys
 n : Own w lo 36 1 N r.nums.length cn (r.nums.flatMap nuc)
theorem CopyAt.ext {w w' : World} {lo : Nat} {r : Rsp} {ys : List IT} {X : Option Addr} {cx : Nat} {N : Option Addr} {cn : Nat} (h : CopyAt w lo r ys X cx N cn) (he : Ext w w') : CopyAt w' lo r ys X cx N cn := ⟨h.v, Own.ext h.x he, h.vs.ext he, Own.ext h.n he⟩
theorem CopyAt.hx {w : World} {lo : Nat} {r : Rsp} {ys : List IT} {X : Option Addr} {cx : Nat} {N : Option Addr} {cn : Nat} (h : CopyAt w lo r ys X cx N cn) : RdI w lo w.heap.size X cx ys := by
 have e : (vals ys).length = ys.length := List.length_map ..
 have hr := Own.rd h.x
 rw [← h.v, e] at hr
 exact ⟨hr, h.vs.vr⟩
theorem strc_one : ∀ {xs : List (List UInt8)} {u : Value}, u ∈ xs.flatMap strc → u.oneCell' = true := by
 intro xs u h
 obtain ⟨x, _, hx⟩ := List.mem_flatMap.1 h
 rw [List.mem_singleton.1 hx]; rfl
theorem rdR_none {α : Type} {w : World} {lo hi size c : Nat} {f : α → List Value} {xs : List α} (h : RdR w lo hi size f none c xs) (hs : 0 < size) : xs = [] := by
 rcases Nat.eq_zero_or_pos xs.length with e | e
 ·exact List.eq_nil_of_length_eq_zero e
 ·have h1 := h.2.2.1
  have hne : xs.flatMap f ≠ [] := fun q => by
   rw [q] at h1
   have : 0 < xs.length * size := Nat.mul_pos e hs
   simp at h1; omega
  obtain ⟨ad, ha, _⟩ := h.2.2.2 hne
  cases ha
theorem isum_mem {xs : List Itm} {x : Itm} (h : x ∈ xs) : x.value.length + 40 ≤ (xs.map isz).sum := by
 induction xs with
 | nil => cases h
 | cons y r ih =>
  rw [List.map_cons, List.sum_cons]
  rcases List.mem_cons.1 h with h | h
  ·subst h; show _ ≤ (x.value.length + 40) + _; omega
  ·have := ih h; omega
theorem isum_len : ∀ (xs : List Itm), 40 * xs.length ≤ (xs.map isz).sum
 | [] => Nat.zero_le _
 | x :: r => by
  have := isum_len r
  rw [List.map_cons, List.sum_cons, List.length_cons]
  show _ ≤ (x.value.length + 40) + _
  omega
theorem itclone_any (w : World) (lo hi : Nat) (A : Option Addr) (c : Nat) (xs : List IT) (hr : RdR w lo hi 4 itc A c xs) (hl : xs.length ≤ 1099511627776) :
  Fn Tryz.prog 70 #[(.slice A xs.length c)] w (fun v w' => ∃ A' c', v = .slice A' xs.length c' ∧ Own w' w.heap.size 80 4 A' xs.length c' (xs.flatMap itc) ∧ Ext w w')  := by
 refine fn_enter (args := [(.slice A xs.length c)]) Tryz.func70 rfl rfl rfl ?_
 show WC _ _ _ _ [(0, (.slice A xs.length c))] _
 refine wc_seq (wc_regionL ?_)
 refine va rfl rfl ?_
 refine q_nil (k_then (wc_seq (wc_seq (wc_regionL ?_))))
 refine vm rfl rfl ?_
 refine wl_val (ov_nilslice Tryz.underlying40 rfl) rfl rfl rfl ?_
 refine q_nil (k_then ?_)
 refine wc_cond rfl (fun hc1 => ?_) (fun hc1 => ?_)
 ·have hA : A = none := by cases A <;> simp_all
  subst hA
  have hxs := rdR_none hr (by decide)
  subst hxs
  refine wc_seq (wc_regionL ?_)
  refine va rfl rfl ?_
  refine q_nil (k_then (q_ret (k_thenR ?_)))
  refine e_ret rfl rfl ?_
  exact ⟨none, 0, rfl, Own.nil_ w w.heap.size _ _, ext_refl w⟩
 ·refine q_skip (k_then (wc_seq (wc_regionL ?_)))
  refine wl_step (or_buildSlice0 sl40) rfl rfl rfl ?_
  rintro v w201 ⟨A5, c5, rfl, ho5, he5⟩
  replace hr := hr.ext he5
  have hz_he5 := he5.size
  have hq_ho5 := fun g e => Own.lt ho5 (g := g) e
  refine vm rfl rfl ?_
  refine wl_step (or_append sl40 rfl ho5 rfl hr (fun u hu => itc_one hu) (by omega) (by simp only [maxLen]; omega) (by omega)) rfl rfl rfl ?_
  rintro v w202 ⟨A7, c7, rfl, ho7, hg7, ha7⟩
  have hE7 : Ext _ _ := he5.gr hg7 (fun g e => (hq_ho5 g e).1)
  rw [Nat.zero_add, List.nil_append] at ho7
  refine wl_spell (d := 7) rfl (v' := .slice A7 xs.length c7) (by rw [Nat.zero_add]) ?_
  refine va rfl rfl ?_
  refine q_nil (k_then (q_ret ?_))
  refine e_ret rfl rfl ?_
  exact ⟨A7, c7, rfl, ho7, hE7⟩
theorem nuclone_any (w : World) (lo hi : Nat) (A : Option Addr) (c : Nat) (xs : List Nat) (hr : RdR w lo hi 1 nuc A c xs) (hl : xs.length ≤ 1099511627776) :
  Fn Tryz.prog 71 #[(.slice A xs.length c)] w (fun v w' => ∃ A' c', v = .slice A' xs.length c' ∧ Own w' w.heap.size 36 1 A' xs.length c' (xs.flatMap nuc) ∧ Ext w w')  := by
 refine fn_enter (args := [(.slice A xs.length c)]) Tryz.func71 rfl rfl rfl ?_
 show WC _ _ _ _ [(0, (.slice A xs.length c))] _
 refine wc_seq (wc_regionL ?_)
 refine va rfl rfl ?_
 refine q_nil (k_then (wc_seq (wc_seq (wc_regionL ?_))))
 refine vm rfl rfl ?_
 refine wl_val (ov_nilslice Tryz.underlying41 rfl) rfl rfl rfl ?_
 refine q_nil (k_then ?_)
 refine wc_cond rfl (fun hc1 => ?_) (fun hc1 => ?_)
 ·have hA : A = none := by cases A <;> simp_all
  subst hA
  have hxs := rdR_none hr (by decide)
  subst hxs
  refine wc_seq (wc_regionL ?_)
  refine va rfl rfl ?_
  refine q_nil (k_then (q_ret (k_thenR ?_)))
  refine e_ret rfl rfl ?_
  exact ⟨none, 0, rfl, Own.nil_ w w.heap.size _ _, ext_refl w⟩
 ·refine q_skip (k_then (wc_seq (wc_regionL ?_)))
  refine wl_step (or_buildSlice0 sl41) rfl rfl rfl ?_
  rintro v w201 ⟨A5, c5, rfl, ho5, he5⟩
  replace hr := hr.ext he5
  have hz_he5 := he5.size
  have hq_ho5 := fun g e => Own.lt ho5 (g := g) e
  refine vm rfl rfl ?_
  refine wl_step (or_append sl41 rfl ho5 rfl hr (fun u hu => nuc_one hu) (by omega) (by simp only [maxLen]; omega) (by omega)) rfl rfl rfl ?_
  rintro v w202 ⟨A7, c7, rfl, ho7, hg7, ha7⟩
  have hE7 : Ext _ _ := he5.gr hg7 (fun g e => (hq_ho5 g e).1)
  rw [Nat.zero_add, List.nil_append] at ho7
  refine wl_spell (d := 7) rfl (v' := .slice A7 xs.length c7) (by rw [Nat.zero_add]) ?_
  refine va rfl rfl ?_
  refine q_nil (k_then (q_ret ?_))
  refine e_ret rfl rfl ?_
  exact ⟨A7, c7, rfl, ho7, hE7⟩
theorem stclone_any (w : World) (lo hi : Nat) (A : Option Addr) (c : Nat) (xs : List (List UInt8)) (hr : RdR w lo hi 1 strc A c xs) (hl : xs.length ≤ 1099511627776) :
  Fn Tryz.prog 46 #[(.slice A xs.length c)] w (fun v w' => ∃ A' c', v = .slice A' xs.length c' ∧ Own w' w.heap.size 9 1 A' xs.length c' (xs.flatMap strc) ∧ Ext w w')  := by
 refine fn_enter (args := [(.slice A xs.length c)]) Tryz.func46 rfl rfl rfl ?_
 show WC _ _ _ _ [(0, (.slice A xs.length c))] _
 refine wc_seq (wc_regionL ?_)
 refine va rfl rfl ?_
 refine q_nil (k_then (wc_seq (wc_seq (wc_regionL ?_))))
 refine vm rfl rfl ?_
 refine wl_val (ov_nilslice Tryz.underlying35 rfl) rfl rfl rfl ?_
 refine q_nil (k_then ?_)
 refine wc_cond rfl (fun hc1 => ?_) (fun hc1 => ?_)
 ·have hA : A = none := by cases A <;> simp_all
  subst hA
  have hxs := rdR_none hr (by decide)
  subst hxs
  refine wc_seq (wc_regionL ?_)
  refine va rfl rfl ?_
  refine q_nil (k_then (q_ret (k_thenR ?_)))
  refine e_ret rfl rfl ?_
  exact ⟨none, 0, rfl, Own.nil_ w w.heap.size _ _, ext_refl w⟩
 ·refine q_skip (k_then (wc_seq (wc_regionL ?_)))
  refine wl_step (or_buildSlice0 sl35) rfl rfl rfl ?_
  rintro v w201 ⟨A5, c5, rfl, ho5, he5⟩
  replace hr := hr.ext he5
  have hz_he5 := he5.size
  have hq_ho5 := fun g e => Own.lt ho5 (g := g) e
  refine vm rfl rfl ?_
  refine wl_step (or_append sl35 rfl ho5 rfl hr (fun u hu => strc_one hu) (by omega) (by simp only [maxLen]; omega) (by omega)) rfl rfl rfl ?_
  rintro v w202 ⟨A7, c7, rfl, ho7, hg7, ha7⟩
  have hE7 : Ext _ _ := he5.gr hg7 (fun g e => (hq_ho5 g e).1)
  rw [Nat.zero_add, List.nil_append] at ho7
  refine wl_spell (d := 7) rfl (v' := .slice A7 xs.length c7) (by rw [Nat.zero_add]) ?_
  refine va rfl rfl ?_
  refine q_nil (k_then (q_ret ?_))
  refine e_ret rfl rfl ?_
  exact ⟨A7, c7, rfl, ho7, hE7⟩
theorem cown_n (w : World) (r : Rsp) (xs : List IT) (hv : vals xs = r.items) (lo hi : Nat) (X : Option Addr) (cx : Nat) (N : Option Addr) (cn : Nat) (hx : RdI w lo hi X cx xs) (hn : RdN w lo hi N cn r.nums) (hsz : rsz r ≤ 4398046511104) (hn0 : 0 < xs.length) :
  Fn Tryz.prog 48 #[(.agg #[(.int .i64 r.op), (.int .i64 r.err), (.slice X r.items.length cx), (.int .u64 (↑r.ver : Int)), (.int .i64 r.count), (.slice N r.nums.length cn)])] w (fun v w' => ∃ ys X' cx' N' cn', v = .agg (rspc r X' cx' N' cn').toArray ∧ CopyAt w' w.heap.size r ys X' cx' N' cn' ∧ Ext w w')  := by
 replace hx := hx.top
 replace hn := Rd.top hn
 have hE := ext_refl w
 obtain ⟨hi, hh1⟩ : ∃ n, n = w.heap.size := ⟨_, rfl⟩
 rw [← hh1] at hx hn
 have hvl := vals_len xs
 rw [hv] at hvl
 have hvr : rsz r = (r.items.map isz).sum + 10 * r.nums.length + 100 := rfl
 have hil := isum_len r.items
 have hvs : ∀ x ∈ r.items, x.value.length ≤ 4398046511104 := fun x hx => by have := isum_mem hx; omega
 refine fn_enter (args := [(.agg #[(.int .i64 r.op), (.int .i64 r.err), (.slice X r.items.length cx), (.int .u64 (↑r.ver : Int)), (.int .i64 r.count), (.slice N r.nums.length cn)])]) Tryz.func48 rfl rfl rfl ?_
 show WC _ _ _ _ [(0, (.agg #[(.int .i64 r.op), (.int .i64 r.err), (.slice X r.items.length cx), (.int .u64 (↑r.ver : Int)), (.int .i64 r.count), (.slice N r.nums.length cn)]))] _
 refine wc_seq (wc_regionL ?_)
 refine wl_step (or_box (cs := [(.int .i64 r.op), (.int .i64 r.err), (.slice X r.items.length cx), (.int .u64 (↑r.ver : Int)), (.int .i64 r.count), (.slice N r.nums.length cn)]) rfl rfl) rfl rfl rfl ?_
 rintro v w1 ⟨g1, rfl, hb_g1, he1, hl1, hu1⟩
 replace hx := RdI.ext hx he1
 replace hn := hn.ext he1
 replace hE := hE.tr he1
 have hz_he1 := he1.size
 refine wl_step (or_alloc (cs := [(.int .i64 0), (.int .i64 0), (.slice none 0 0), (.int .u64 0), (.int .i64 0), (.slice none 0 0)]) ze43 rfl) rfl rfl rfl ?_
 rintro v w2 ⟨g2, rfl, hb_g2, he2, hl2, hu2⟩
 replace hx := RdI.ext hx he2
 replace hn := hn.ext he2
 replace hE := hE.tr he2
 replace hb_g1 := hb_g1.ext he2
 have hz_he2 := he2.size
 refine q_nil (k_then (wc_seq ?_))
 refine wc_draw mixed 7 [(4, eqv (.pointer (some ⟨g1, 2, none⟩))), (5, eqv (.slice X xs.length cx)), (6, (fun v wz => ∃ A c, v = .slice A xs.length c ∧ Own wz w2.heap.size 80 4 A xs.length c (xs.flatMap itc))), (7, eqv (.pointer (some ⟨g1, 5, none⟩))), (8, eqv (.slice N r.nums.length cn)), (9, (fun v wz => ∃ A c, v = .slice A r.nums.length c ∧ Own wz w2.heap.size 36 1 A r.nums.length c (r.nums.flatMap nuc))), (10, eqv (.pointer (some ⟨g1, 2, none⟩)))] [[], [0], [1], [], [3], [4], []] _ [] [] (fun _ _ h => h) trivial (by kernel_rfl) rfl ⟨⟨stb_eqv _, fun _ he => by cases he⟩, ⟨stb_eqv _, fun _ he => by cases he⟩, ⟨(fun v w w' ⟨A, c, hv, ho⟩ he => ⟨A, c, hv, Own.ext ho he⟩), fun _ he => by cases he⟩, ⟨stb_eqv _, fun _ he => by cases he⟩, ⟨stb_eqv _, fun _ he => by cases he⟩, ⟨(fun v w w' ⟨A, c, hv, ho⟩ he => ⟨A, c, hv, Own.ext ho he⟩), fun _ he => by cases he⟩, ⟨stb_eqv _, fun _ he => by cases he⟩, trivial⟩ ⟨?_, ?_, ?_, ?_, ?_, ?_, ?_, trivial⟩ ?_
 ·intro wd hxE
  have hz_hxE := hxE.size
  show OpG _ _ _ _ _ _
  exact og_plain rfl (ox_val (ov_field0 (off := 2) fo43_2 rfl))
 ·intro wd hxE
  replace hb_g1 := hb_g1.ext hxE
  have hz_hxE := hxE.size
  rintro _ rfl
  show OpG _ _ _ _ _ _
  exact og_plain rfl (ox_spell (by rw [← hv, vals_len]) (ov_loadAt oc40 rfl hb_g1 rfl))
 ·intro wd hxE
  replace hx := RdI.ext hx hxE
  have hz_hxE := hxE.size
  rintro _ rfl
  show OpG _ _ _ _ _ _
  refine og_plain rfl (OpRun.mono (or_call0 cl70 rfl rfl (itclone_any _ _ _ X cx xs hx.1 (by omega))) ?_)
  rintro v w3 ⟨A6, c6, rfl, ho6, he6⟩
  have hz_he6 := he6.size
  exact ⟨⟨A6, c6, rfl, Own.mono ho6 (by omega)⟩, he6⟩
 ·intro wd hxE
  have hz_hxE := hxE.size
  show OpG _ _ _ _ _ _
  exact og_plain rfl (ox_val (ov_field0 (off := 5) fo43_5 rfl))
 ·intro wd hxE
  replace hb_g1 := hb_g1.ext hxE
  have hz_hxE := hxE.size
  rintro _ rfl
  show OpG _ _ _ _ _ _
  exact og_plain rfl (ox_val (ov_loadAt oc41 rfl hb_g1 rfl))
 ·intro wd hxE
  replace hn := hn.ext hxE
  have hz_hxE := hxE.size
  rintro _ rfl
  show OpG _ _ _ _ _ _
  refine og_plain rfl (OpRun.mono (or_call0 cl71 rfl rfl (nuclone_any _ _ _ N cn r.nums hn (by omega))) ?_)
  rintro v w3 ⟨A9, c9, rfl, ho9, he9⟩
  have hz_he9 := he9.size
  exact ⟨⟨A9, c9, rfl, Own.mono ho9 (by omega)⟩, he9⟩
 ·intro wd hxE
  have hz_hxE := hxE.size
  show OpG _ _ _ _ _ _
  exact og_plain rfl (ox_val (ov_field0 (off := 2) fo43_2 rfl))
 ·intro wf1 hf1
  replace hx := RdI.ext hx hf1
  replace hE := hE.tr hf1
  replace hb_g1 := hb_g1.ext hf1
  replace hb_g2 := hb_g2.ext hf1
  have hz_hf1 := hf1.size
  rintro _ rfl
  rintro _ rfl
  rintro _ ⟨A6, c6, rfl, ho6⟩
  rintro _ rfl
  rintro _ rfl
  rintro _ ⟨A9, c9, rfl, ho9⟩
  rintro _ rfl
  show WL _ _ _ [_, _, _] _ _ _
  have hq_ho6 := fun g e => Own.lt ho6 (g := g) e
  have hq_ho9 := fun g e => Own.lt ho9 (g := g) e
  replace ho6 := Own.mono ho6 (show w.heap.size ≤ _ by omega)
  replace ho9 := Own.mono ho9 (show w.heap.size ≤ _ by omega)
  refine wl_step0 (or_storeAt (cs' := [(.int .i64 r.op), (.int .i64 r.err), (.slice A6 xs.length c6), (.int .u64 (↑r.ver : Int)), (.int .i64 r.count), (.slice N r.nums.length cn)]) sz40 rfl rfl rfl hb_g1 rfl rfl) rfl rfl ?_
  rintro _ w3 ⟨hN3, hg3⟩
  have hz_hg3 := hg3.size
  replace hx := RdI.gr hx hg3 (fun _ e => by cases e; omega)
  replace hE := hE.gr hg3 (fun _ e => by cases e; omega)
  replace hb_g2 := hb_g2.gr hg3 (by intro e; cases e; omega)
  replace ho6 := Own.gr ho6 hg3 (by first | exact .inl rfl | (right; intro e; first | (have := hq_ho6 _ e; omega) | (have := Own.lt ho6 e; omega) | exact own_blk_ne ho6 hb_g1 (by decide) e))
  replace ho9 := Own.gr ho9 hg3 (by first | exact .inl rfl | (right; intro e; first | (have := hq_ho9 _ e; omega) | (have := Own.lt ho9 e; omega) | exact own_blk_ne ho9 hb_g1 (by decide) e))
  replace hb_g1 := hN3
  refine wl_val (ov_field0 (off := 5) fo43_5 rfl) rfl rfl rfl ?_
  refine wl_step0 (or_storeAt (cs' := [(.int .i64 r.op), (.int .i64 r.err), (.slice A6 xs.length c6), (.int .u64 (↑r.ver : Int)), (.int .i64 r.count), (.slice A9 r.nums.length c9)]) sz41 rfl rfl rfl hb_g1 rfl rfl) rfl rfl ?_
  rintro _ w4 ⟨hN4, hg4⟩
  have hz_hg4 := hg4.size
  replace hx := RdI.gr hx hg4 (fun _ e => by cases e; omega)
  replace hE := hE.gr hg4 (fun _ e => by cases e; omega)
  replace hb_g2 := hb_g2.gr hg4 (by intro e; cases e; omega)
  replace ho6 := Own.gr ho6 hg4 (by first | exact .inl rfl | (right; intro e; first | (have := hq_ho6 _ e; omega) | (have := Own.lt ho6 e; omega) | exact own_blk_ne ho6 hb_g1 (by decide) e))
  replace ho9 := Own.gr ho9 hg4 (by first | exact .inl rfl | (right; intro e; first | (have := hq_ho9 _ e; omega) | (have := Own.lt ho9 e; omega) | exact own_blk_ne ho9 hb_g1 (by decide) e))
  replace hb_g1 := hN4
  refine q_nil (k_then (wc_seq (wc_seq (wc_regionL ?_))))
  refine wl_val (ov_field0 (off := 2) fo43_2 rfl) rfl rfl rfl ?_
  refine wl_val (ov_loadAt oc40 rfl hb_g1 rfl) rfl rfl rfl ?_
  refine wl_val (ov_len Tryz.underlying40 rfl) rfl rfl rfl ?_
  refine vm rfl rfl ?_
  refine q_nil (k_then (wc_block ?_))
  have hz1 := hb_g1.lt
  have hz2 := hb_g2.lt
  obtain ⟨g7, rfl, hg71, hg72⟩ := Own.addr ho6 (by omega)
  have hg12 : g7 ≠ g1 ∧ g7 ≠ g2 := ⟨fun e => own_blk_ne ho6 hb_g1 (by decide) (by rw [e]; rfl), fun e => own_blk_ne ho6 hb_g2 (by decide) (by rw [e]; rfl)⟩
  obtain ⟨hg7a, hg7b⟩ := hg12
  obtain ⟨B1, hB1⟩ : ∃ n, n = w4.heap.size := ⟨_, rfl⟩
  have hg7B : g7 < B1 := by omega
  have hBw : w.heap.size ≤ B1 := by omega
  refine wc_loop (σ := Nat × List IT) (fun s => xs.length - s.1) (fun s => [(1, .pointer (some ⟨g1, 0, none⟩)), (2, .pointer (some ⟨g2, 0, none⟩)), (14, .int .i64 (xs.length : Int)), (15, .int .i64 (s.1 : Int))]) (fun s w' => s.1 ≤ xs.length ∧ s.2.length = s.1 ∧ vals s.2 = (vals xs).take s.1 ∧ Own w' w.heap.size 80 4 (some ⟨g7, 0, none⟩) xs.length c6 ((s.2 ++ xs.drop s.1).flatMap itc) ∧ OwnV w' B1 s.2 ∧ Own w' w.heap.size 36 1 A9 r.nums.length c9 (r.nums.flatMap nuc) ∧ B1 ≤ w'.heap.size ∧ Blk w' g1 43 [.int .i64 r.op, .int .i64 r.err, .slice (some ⟨g7, 0, none⟩) xs.length c6, .int .u64 (r.ver : Int), .int .i64 r.count, .slice A9 r.nums.length c9] ∧ Blk w' g2 43 (rspc (rspO 0 0) none 0 none 0) ∧ RdI w' lo hi X cx xs ∧ Ext w w') ((0, [])) (⟨Nat.zero_le _, rfl, rfl, ho6, ⟨fun _ h => (by cases h), List.Pairwise.nil⟩, ho9, by omega, hb_g1, hb_g2, hx, hE⟩) (⟨rfl, rfl, rfl, rfl, trivial⟩) ?_
  rintro ⟨i, ys⟩ wq ⟨hi0, hyl, hyv, ho6, hvy, ho9, hBq, hb_g1, hb_g2, hx, hE⟩
  show WC _ _ _ _ [(1, (.pointer (some ⟨g1, 0, none⟩))), (2, (.pointer (some ⟨g2, 0, none⟩))), (14, (.int .i64 (↑xs.length : Int))), (15, (.int .i64 (↑i : Int)))] _
  simp only at hi0 hyl hyv
  replace ho6 : Own wq w.heap.size 80 4 (some ⟨g7, 0, none⟩) xs.length c6 ((ys ++ xs.drop i).flatMap itc) := ho6
  replace hvy : OwnV wq B1 ys := hvy
  have hz_E := hE.size
  have hq_ho6 := fun g e => Own.lt ho6 (g := g) e
  have hq_ho9 := fun g e => Own.lt ho9 (g := g) e
  have hg7l := (hq_ho6 g7 rfl).2
  have hyb := hvy.lt
  refine wc_seq (wc_regionL ?_)
  refine wl_val (ov_lss rfl rfl) rfl rfl rfl ?_
  refine q_nil (k_then (wc_seq ?_))
  refine wc_cond_d rfl (fun hc1 => ?_) (fun hc1 => ?_)
  ·obtain ⟨x, hk⟩ : ∃ s, xs[i]? = some s := ⟨_, List.getElem?_eq_getElem (by omega)⟩
   have hki := vals_at hv hk
   have hxl := hvs x.1 (List.mem_of_getElem? hki)
   have hk2 : (ys ++ xs.drop i)[i]? = some x := by rw [List.getElem?_append_right (by omega), hyl, Nat.sub_self, List.getElem?_drop, Nat.add_zero]; exact hk
   have hlz : xs.length = (ys ++ xs.drop i).length := by rw [List.length_append, List.length_drop]; omega
   have hrv := hx.2 x (List.mem_of_getElem? hk)
   refine q_skip (k_then (wc_seq (wc_block (wc_seq (wc_regionL ?_)))))
   refine vm rfl rfl ?_
   refine va rfl rfl ?_
   refine q_nil (k_then ?_)
   refine wc_draw mixed 10 [(18, eqv (.pointer (some ⟨g1, 2, none⟩))), (19, eqv (.slice (some ⟨g7, 0, none⟩) xs.length c6)), (20, eqv (.int .i64 (↑i : Int))), (21, eqv (.pointer (some ⟨g1, 2, none⟩))), (22, eqv (.slice (some ⟨g7, 0, none⟩) xs.length c6)), (23, eqv (.int .i64 (↑i : Int))), (24, eqv (.pointer (some ⟨g7, (i * 4), none⟩))), (25, eqv (.pointer (some ⟨g7, (i * 4 + 1), none⟩))), (26, eqv (.slice x.2.1 x.1.value.length x.2.2)), (27, isOwnB wq.heap.size 5 x.1.value)] [[], [0], [], [], [3], [], [4, 5], [6], [7], [8]] _ [] [] (fun _ _ h => h) trivial (by kernel_rfl) rfl ⟨⟨stb_eqv _, fun _ he => by cases he⟩, ⟨stb_eqv _, fun _ he => by cases he⟩, ⟨stb_eqv _, fun _ he => by cases he⟩, ⟨stb_eqv _, fun _ he => by cases he⟩, ⟨stb_eqv _, fun _ he => by cases he⟩, ⟨stb_eqv _, fun _ he => by cases he⟩, ⟨stb_eqv _, fun _ he => by cases he⟩, ⟨stb_eqv _, fun _ he => by cases he⟩, ⟨stb_eqv _, fun _ he => by cases he⟩, ⟨stb_isOwnB _ _ _, fun _ he => by cases he⟩, trivial⟩ ⟨?_, ?_, ?_, ?_, ?_, ?_, ?_, ?_, ?_, ?_, trivial⟩ ?_
   ·intro wd hxE
    have hz_hxE := hxE.size
    show OpG _ _ _ _ _ _
    exact og_plain rfl (ox_val (ov_field0 (off := 2) fo43_2 rfl))
   ·intro wd hxE
    replace hb_g1 := hb_g1.ext hxE
    have hz_hxE := hxE.size
    rintro _ rfl
    show OpG _ _ _ _ _ _
    exact og_plain rfl (ox_val (ov_loadAt oc40 rfl hb_g1 rfl))
   ·intro wd hxE
    have hz_hxE := hxE.size
    show OpG _ _ _ _ _ _
    exact og_plain rfl (ox_val (ov_move rfl))
   ·intro wd hxE
    have hz_hxE := hxE.size
    show OpG _ _ _ _ _ _
    exact og_plain rfl (ox_val (ov_field0 (off := 2) fo43_2 rfl))
   ·intro wd hxE
    replace hb_g1 := hb_g1.ext hxE
    have hz_hxE := hxE.size
    rintro _ rfl
    show OpG _ _ _ _ _ _
    exact og_plain rfl (ox_val (ov_loadAt oc40 rfl hb_g1 rfl))
   ·intro wd hxE
    have hz_hxE := hxE.size
    show OpG _ _ _ _ _ _
    exact og_plain rfl (ox_val (ov_move rfl))
   ·intro wd hxE
    have hz_hxE := hxE.size
    rintro _ rfl
    rintro _ rfl
    show OpG _ _ _ _ _ _
    exact og_plain rfl (ox_val (ov_aindex (m := i) sl40 rfl rfl rfl (by omega)))
   ·intro wd hxE
    have hz_hxE := hxE.size
    rintro _ rfl
    show OpG _ _ _ _ _ _
    exact og_plain rfl (ox_val (ov_field0 (off := 1) fo80_1 rfl))
   ·intro wd hxE
    replace ho6 := Own.ext ho6 hxE
    have hz_hxE := hxE.size
    rintro _ rfl
    show OpG _ _ _ _ _ _
    have hc19 := own_field (j := 1) ho6 hlz hk2 rfl
    exact og_plain rfl (ox_val (ov_load oc32 rfl hc19))
   ·intro wd hxE
    replace hrv := hrv.ext hxE
    have hz_hxE := hxE.size
    rintro _ rfl
    show OpG _ _ _ _ _ _
    refine og_plain rfl (OpRun.mono (or_call0 cl47 rfl rfl (slclone_any _ _ _ _ _ _ hrv (by omega))) ?_)
    rintro v w5 ⟨A27, c27, rfl, ho27, he27⟩
    have hz_he27 := he27.size
    exact ⟨⟨A27, c27, rfl, Own.mono ho27 (by omega)⟩, he27⟩
   ·intro wf5 hf5
    replace ho6 := Own.ext ho6 hf5
    replace hvy := OwnV.ext hvy hf5
    replace ho9 := Own.ext ho9 hf5
    replace hb_g1 := hb_g1.ext hf5
    replace hb_g2 := hb_g2.ext hf5
    replace hx := RdI.ext hx hf5
    replace hE := hE.tr hf5
    have hz_hf5 := hf5.size
    rintro _ rfl
    rintro _ rfl
    rintro _ rfl
    rintro _ rfl
    rintro _ rfl
    rintro _ rfl
    rintro _ rfl
    rintro _ rfl
    rintro _ rfl
    rintro _ ⟨A27, c27, rfl, ho27⟩
    have hq_ho27 := fun g e => Own.lt ho27 (g := g) e
    show WL _ _ _ [_, _, _] _ _ _
    refine wl_val (ov_aindex (m := i) sl40 rfl rfl rfl (by omega)) rfl rfl rfl ?_
    refine wl_val (ov_field0 (off := 1) fo80_1 rfl) rfl rfl rfl ?_
    refine wl_step0 (or_storeOwnG sz32 rfl rfl rfl ho6 (by omega) (by rw [itc_len, List.length_append, List.length_drop]; omega)) rfl rfl ?_
    rintro _ w5 ⟨hN32, hg32⟩
    replace ho9 := Own.gr ho9 hg32 (own_own_ne ho9 ho6 (by decide))
    have hz_hg32 := hg32.size
    replace hvy := OwnV.gr hvy hg32 (fun _ e => by cases e; omega)
    replace hb_g1 := hb_g1.gr hg32 (by intro e; cases e; omega)
    replace hb_g2 := hb_g2.gr hg32 (by intro e; cases e; omega)
    replace hx := RdI.gr hx hg32 (fun _ e => by cases e; omega)
    replace hE := hE.gr hg32 (fun _ e => by cases e; omega)
    replace ho27 := Own.gr ho27 hg32 (by first | exact .inl rfl | (right; intro e; first | (have := hq_ho27 _ e; omega) | (have := Own.lt ho27 e; omega)))
    rw [set_value hyl hk] at hN32
    replace ho6 := hN32
    refine q_nil (k_block (k_then (wc_regionL ?_)))
    refine wl_val (ov_add rfl rfl (wi64 (by omega) (by omega))) rfl rfl rfl ?_
    refine vm rfl rfl ?_
    refine q_nil ?_
    have hyn : vals (ys ++ [(x.1, A27, c27)]) = (vals xs).take (i + 1) := by rw [vals_add, hyv, List.take_add_one, vals_get hk]; rfl
    have hvn : OwnV w5 B1 (ys ++ [(x.1, A27, c27)]) := hvy.add (B := wq.heap.size) (Own.mono ho27 (by omega)) (fun g e => by have := hq_ho27 g e; omega) hyb
    refine k_loop ((i + 1, ys ++ [(x.1, A27, c27)])) (by show xs.length - (i + 1) < xs.length - i; omega) (⟨rfl, rfl, rfl, rfl, trivial⟩) (⟨by show i + 1 ≤ _; omega, by show (ys ++ [_]).length = i + 1; rw [List.length_append, hyl]; rfl, hyn, ho6, hvn, ho9, by omega, hb_g1, hb_g2, hx, hE⟩)
  ·have hix : xs.length = i := by omega
   subst hix
   rw [List.drop_length, List.append_nil] at ho6
   rw [show (vals xs).take xs.length = vals xs from by rw [← vals_len xs, List.take_length], hv] at hyv
   refine q_exit (k_thenX (k_thenX (k_blockE (k_then (wc_seq (wc_regionL ?_))))))
   refine wl_val (ov_loadBlk (cs := [(.int .i64 r.op), (.int .i64 r.err), (.slice (some ⟨g7, 0, none⟩) xs.length c6), (.int .u64 (↑r.ver : Int)), (.int .i64 r.count), (.slice A9 r.nums.length c9)]) ag43_6 rfl hb_g1) rfl rfl rfl ?_
   refine wl_step0 (or_storeBlk (vs := [(.int .i64 r.op), (.int .i64 r.err), (.slice (some ⟨g7, 0, none⟩) xs.length c6), (.int .u64 (↑r.ver : Int)), (.int .i64 r.count), (.slice A9 r.nums.length c9)]) sz43 rfl rfl (by simp [Value.oneCell']) hb_g2 rfl) rfl rfl ?_
   rintro _ w205 ⟨hN205, hg205⟩
   have hz_hg205 := hg205.size
   replace ho6 := Own.gr ho6 hg205 (by first | exact .inl rfl | (right; intro e; first | (have := hq_ho6 _ e; omega) | (have := Own.lt ho6 e; omega) | exact own_blk_ne ho6 hb_g2 (by decide) e))
   replace hvy := OwnV.gr hvy hg205 (fun _ e => by cases e; omega)
   replace ho9 := Own.gr ho9 hg205 (by first | exact .inl rfl | (right; intro e; first | (have := hq_ho9 _ e; omega) | (have := Own.lt ho9 e; omega) | exact own_blk_ne ho9 hb_g2 (by decide) e))
   replace hE := hE.gr hg205 (fun _ e => by cases e; omega)
   replace hb_g2 := hN205
   refine q_nil (k_then (q_ret ?_))
   refine e_retL (rs := [.cell 2 43]) (vs := [.agg #[(.int .i64 r.op), (.int .i64 r.err), (.slice (some ⟨g7, 0, none⟩) xs.length c6), (.int .u64 (↑r.ver : Int)), (.int .i64 r.count), (.slice A9 r.nums.length c9)]]) rfl ⟨⟨_, _, [(.int .i64 r.op), (.int .i64 r.err), (.slice (some ⟨g7, 0, none⟩) xs.length c6), (.int .u64 (↑r.ver : Int)), (.int .i64 r.count), (.slice A9 r.nums.length c9)], rfl, ag43_6, hb_g2, rfl⟩, trivial⟩ ?_
   refine ⟨ys, (some ⟨g7, 0, none⟩), c6, A9, c9, ?_, ⟨hyv, by rw [hvl]; exact ho6, hvy.mono (by omega), ho9⟩, hE⟩
   unfold rspc
   rw [hvl]
   rfl
theorem cown_0 (w : World) (r : Rsp) (xs : List IT) (hv : vals xs = r.items) (lo hi : Nat) (X : Option Addr) (cx : Nat) (N : Option Addr) (cn : Nat) (hx : RdI w lo hi X cx xs) (hn : RdN w lo hi N cn r.nums) (hsz : rsz r ≤ 4398046511104) (hn0 : xs.length = 0) :
  Fn Tryz.prog 48 #[(.agg #[(.int .i64 r.op), (.int .i64 r.err), (.slice X r.items.length cx), (.int .u64 (↑r.ver : Int)), (.int .i64 r.count), (.slice N r.nums.length cn)])] w (fun v w' => ∃ ys X' cx' N' cn', v = .agg (rspc r X' cx' N' cn').toArray ∧ CopyAt w' w.heap.size r ys X' cx' N' cn' ∧ Ext w w')  := by
 replace hx := hx.top
 replace hn := Rd.top hn
 have hE := ext_refl w
 obtain ⟨hi, hh1⟩ : ∃ n, n = w.heap.size := ⟨_, rfl⟩
 rw [← hh1] at hx hn
 have hvl := vals_len xs
 rw [hv] at hvl
 have hvr : rsz r = (r.items.map isz).sum + 10 * r.nums.length + 100 := rfl
 have hil := isum_len r.items
 have hvs : ∀ x ∈ r.items, x.value.length ≤ 4398046511104 := fun x hx => by have := isum_mem hx; omega
 refine fn_enter (args := [(.agg #[(.int .i64 r.op), (.int .i64 r.err), (.slice X r.items.length cx), (.int .u64 (↑r.ver : Int)), (.int .i64 r.count), (.slice N r.nums.length cn)])]) Tryz.func48 rfl rfl rfl ?_
 show WC _ _ _ _ [(0, (.agg #[(.int .i64 r.op), (.int .i64 r.err), (.slice X r.items.length cx), (.int .u64 (↑r.ver : Int)), (.int .i64 r.count), (.slice N r.nums.length cn)]))] _
 refine wc_seq (wc_regionL ?_)
 refine wl_step (or_box (cs := [(.int .i64 r.op), (.int .i64 r.err), (.slice X r.items.length cx), (.int .u64 (↑r.ver : Int)), (.int .i64 r.count), (.slice N r.nums.length cn)]) rfl rfl) rfl rfl rfl ?_
 rintro v w1 ⟨g1, rfl, hb_g1, he1, hl1, hu1⟩
 replace hx := RdI.ext hx he1
 replace hn := hn.ext he1
 replace hE := hE.tr he1
 have hz_he1 := he1.size
 refine wl_step (or_alloc (cs := [(.int .i64 0), (.int .i64 0), (.slice none 0 0), (.int .u64 0), (.int .i64 0), (.slice none 0 0)]) ze43 rfl) rfl rfl rfl ?_
 rintro v w2 ⟨g2, rfl, hb_g2, he2, hl2, hu2⟩
 replace hx := RdI.ext hx he2
 replace hn := hn.ext he2
 replace hE := hE.tr he2
 replace hb_g1 := hb_g1.ext he2
 have hz_he2 := he2.size
 refine q_nil (k_then (wc_seq ?_))
 refine wc_draw mixed 7 [(4, eqv (.pointer (some ⟨g1, 2, none⟩))), (5, eqv (.slice X xs.length cx)), (6, (fun v wz => ∃ A c, v = .slice A xs.length c ∧ Own wz w2.heap.size 80 4 A xs.length c (xs.flatMap itc))), (7, eqv (.pointer (some ⟨g1, 5, none⟩))), (8, eqv (.slice N r.nums.length cn)), (9, (fun v wz => ∃ A c, v = .slice A r.nums.length c ∧ Own wz w2.heap.size 36 1 A r.nums.length c (r.nums.flatMap nuc))), (10, eqv (.pointer (some ⟨g1, 2, none⟩)))] [[], [0], [1], [], [3], [4], []] _ [] [] (fun _ _ h => h) trivial (by kernel_rfl) rfl ⟨⟨stb_eqv _, fun _ he => by cases he⟩, ⟨stb_eqv _, fun _ he => by cases he⟩, ⟨(fun v w w' ⟨A, c, hv, ho⟩ he => ⟨A, c, hv, Own.ext ho he⟩), fun _ he => by cases he⟩, ⟨stb_eqv _, fun _ he => by cases he⟩, ⟨stb_eqv _, fun _ he => by cases he⟩, ⟨(fun v w w' ⟨A, c, hv, ho⟩ he => ⟨A, c, hv, Own.ext ho he⟩), fun _ he => by cases he⟩, ⟨stb_eqv _, fun _ he => by cases he⟩, trivial⟩ ⟨?_, ?_, ?_, ?_, ?_, ?_, ?_, trivial⟩ ?_
 ·intro wd hxE
  have hz_hxE := hxE.size
  show OpG _ _ _ _ _ _
  exact og_plain rfl (ox_val (ov_field0 (off := 2) fo43_2 rfl))
 ·intro wd hxE
  replace hb_g1 := hb_g1.ext hxE
  have hz_hxE := hxE.size
  rintro _ rfl
  show OpG _ _ _ _ _ _
  exact og_plain rfl (ox_spell (by rw [← hv, vals_len]) (ov_loadAt oc40 rfl hb_g1 rfl))
 ·intro wd hxE
  replace hx := RdI.ext hx hxE
  have hz_hxE := hxE.size
  rintro _ rfl
  show OpG _ _ _ _ _ _
  refine og_plain rfl (OpRun.mono (or_call0 cl70 rfl rfl (itclone_any _ _ _ X cx xs hx.1 (by omega))) ?_)
  rintro v w3 ⟨A6, c6, rfl, ho6, he6⟩
  have hz_he6 := he6.size
  exact ⟨⟨A6, c6, rfl, Own.mono ho6 (by omega)⟩, he6⟩
 ·intro wd hxE
  have hz_hxE := hxE.size
  show OpG _ _ _ _ _ _
  exact og_plain rfl (ox_val (ov_field0 (off := 5) fo43_5 rfl))
 ·intro wd hxE
  replace hb_g1 := hb_g1.ext hxE
  have hz_hxE := hxE.size
  rintro _ rfl
  show OpG _ _ _ _ _ _
  exact og_plain rfl (ox_val (ov_loadAt oc41 rfl hb_g1 rfl))
 ·intro wd hxE
  replace hn := hn.ext hxE
  have hz_hxE := hxE.size
  rintro _ rfl
  show OpG _ _ _ _ _ _
  refine og_plain rfl (OpRun.mono (or_call0 cl71 rfl rfl (nuclone_any _ _ _ N cn r.nums hn (by omega))) ?_)
  rintro v w3 ⟨A9, c9, rfl, ho9, he9⟩
  have hz_he9 := he9.size
  exact ⟨⟨A9, c9, rfl, Own.mono ho9 (by omega)⟩, he9⟩
 ·intro wd hxE
  have hz_hxE := hxE.size
  show OpG _ _ _ _ _ _
  exact og_plain rfl (ox_val (ov_field0 (off := 2) fo43_2 rfl))
 ·intro wf1 hf1
  replace hE := hE.tr hf1
  replace hb_g1 := hb_g1.ext hf1
  replace hb_g2 := hb_g2.ext hf1
  have hz_hf1 := hf1.size
  rintro _ rfl
  rintro _ rfl
  rintro _ ⟨A6, c6, rfl, ho6⟩
  rintro _ rfl
  rintro _ rfl
  rintro _ ⟨A9, c9, rfl, ho9⟩
  rintro _ rfl
  show WL _ _ _ [_, _, _] _ _ _
  have hq_ho6 := fun g e => Own.lt ho6 (g := g) e
  have hq_ho9 := fun g e => Own.lt ho9 (g := g) e
  replace ho6 := Own.mono ho6 (show w.heap.size ≤ _ by omega)
  replace ho9 := Own.mono ho9 (show w.heap.size ≤ _ by omega)
  refine wl_step0 (or_storeAt (cs' := [(.int .i64 r.op), (.int .i64 r.err), (.slice A6 xs.length c6), (.int .u64 (↑r.ver : Int)), (.int .i64 r.count), (.slice N r.nums.length cn)]) sz40 rfl rfl rfl hb_g1 rfl rfl) rfl rfl ?_
  rintro _ w3 ⟨hN3, hg3⟩
  have hz_hg3 := hg3.size
  replace hE := hE.gr hg3 (fun _ e => by cases e; omega)
  replace hb_g2 := hb_g2.gr hg3 (by intro e; cases e; omega)
  replace ho6 := Own.gr ho6 hg3 (by first | exact .inl rfl | (right; intro e; first | (have := hq_ho6 _ e; omega) | (have := Own.lt ho6 e; omega) | exact own_blk_ne ho6 hb_g1 (by decide) e))
  replace ho9 := Own.gr ho9 hg3 (by first | exact .inl rfl | (right; intro e; first | (have := hq_ho9 _ e; omega) | (have := Own.lt ho9 e; omega) | exact own_blk_ne ho9 hb_g1 (by decide) e))
  replace hb_g1 := hN3
  refine wl_val (ov_field0 (off := 5) fo43_5 rfl) rfl rfl rfl ?_
  refine wl_step0 (or_storeAt (cs' := [(.int .i64 r.op), (.int .i64 r.err), (.slice A6 xs.length c6), (.int .u64 (↑r.ver : Int)), (.int .i64 r.count), (.slice A9 r.nums.length c9)]) sz41 rfl rfl rfl hb_g1 rfl rfl) rfl rfl ?_
  rintro _ w4 ⟨hN4, hg4⟩
  have hz_hg4 := hg4.size
  replace hE := hE.gr hg4 (fun _ e => by cases e; omega)
  replace hb_g2 := hb_g2.gr hg4 (by intro e; cases e; omega)
  replace ho6 := Own.gr ho6 hg4 (by first | exact .inl rfl | (right; intro e; first | (have := hq_ho6 _ e; omega) | (have := Own.lt ho6 e; omega) | exact own_blk_ne ho6 hb_g1 (by decide) e))
  replace ho9 := Own.gr ho9 hg4 (by first | exact .inl rfl | (right; intro e; first | (have := hq_ho9 _ e; omega) | (have := Own.lt ho9 e; omega) | exact own_blk_ne ho9 hb_g1 (by decide) e))
  replace hb_g1 := hN4
  refine q_nil (k_then (wc_seq (wc_seq (wc_regionL ?_))))
  refine wl_val (ov_field0 (off := 2) fo43_2 rfl) rfl rfl rfl ?_
  refine wl_val (ov_loadAt oc40 rfl hb_g1 rfl) rfl rfl rfl ?_
  refine wl_val (ov_len Tryz.underlying40 rfl) rfl rfl rfl ?_
  refine vm rfl rfl ?_
  refine q_nil (k_then (wc_block ?_))
  have hz1 := hb_g1.lt
  have hz2 := hb_g2.lt
  refine wc_loop (σ := Nat) (fun s => s) (fun s => [(1, .pointer (some ⟨g1, 0, none⟩)), (2, .pointer (some ⟨g2, 0, none⟩)), (14, .int .i64 (xs.length : Int)), (15, .int .i64 0)]) (fun s w' => Own w' w.heap.size 80 4 A6 xs.length c6 (xs.flatMap itc) ∧ Own w' w.heap.size 36 1 A9 r.nums.length c9 (r.nums.flatMap nuc) ∧ Blk w' g1 43 [.int .i64 r.op, .int .i64 r.err, .slice A6 xs.length c6, .int .u64 (r.ver : Int), .int .i64 r.count, .slice A9 r.nums.length c9] ∧ Blk w' g2 43 (rspc (rspO 0 0) none 0 none 0) ∧ Ext w w') (0) (⟨ho6, ho9, hb_g1, hb_g2, hE⟩) (⟨rfl, rfl, rfl, rfl, trivial⟩) ?_
  rintro i wq ⟨ho6, ho9, hb_g1, hb_g2, hE⟩
  show WC _ _ _ _ [(1, (.pointer (some ⟨g1, 0, none⟩))), (2, (.pointer (some ⟨g2, 0, none⟩))), (14, (.int .i64 (↑xs.length : Int))), (15, (.int .i64 0))] _
  have hz_E := hE.size
  have hq_ho6 := fun g e => Own.lt ho6 (g := g) e
  have hq_ho9 := fun g e => Own.lt ho9 (g := g) e
  have hz1 := hb_g1.lt
  have hz2 := hb_g2.lt
  refine wc_seq (wc_regionL ?_)
  refine wl_val (ov_lss rfl rfl) rfl rfl rfl ?_
  refine q_nil (k_then (wc_seq ?_))
  refine wc_cond_F rfl (decide_eq_false (by omega)) ?_
  refine q_exit (k_thenX (k_thenX (k_blockE (k_then (wc_seq (wc_regionL ?_))))))
  refine wl_val (ov_loadBlk (cs := [(.int .i64 r.op), (.int .i64 r.err), (.slice A6 xs.length c6), (.int .u64 (↑r.ver : Int)), (.int .i64 r.count), (.slice A9 r.nums.length c9)]) ag43_6 rfl hb_g1) rfl rfl rfl ?_
  refine wl_step0 (or_storeBlk (vs := [(.int .i64 r.op), (.int .i64 r.err), (.slice A6 xs.length c6), (.int .u64 (↑r.ver : Int)), (.int .i64 r.count), (.slice A9 r.nums.length c9)]) sz43 rfl rfl (by simp [Value.oneCell']) hb_g2 rfl) rfl rfl ?_
  rintro _ w5 ⟨hN5, hg5⟩
  have hz_hg5 := hg5.size
  replace ho6 := Own.gr ho6 hg5 (by first | exact .inl rfl | (right; intro e; first | (have := hq_ho6 _ e; omega) | (have := Own.lt ho6 e; omega) | exact own_blk_ne ho6 hb_g2 (by decide) e))
  replace ho9 := Own.gr ho9 hg5 (by first | exact .inl rfl | (right; intro e; first | (have := hq_ho9 _ e; omega) | (have := Own.lt ho9 e; omega) | exact own_blk_ne ho9 hb_g2 (by decide) e))
  replace hE := hE.gr hg5 (fun _ e => by cases e; omega)
  replace hb_g2 := hN5
  refine q_nil (k_then (q_ret ?_))
  refine e_retL (rs := [.cell 2 43]) (vs := [.agg #[(.int .i64 r.op), (.int .i64 r.err), (.slice A6 xs.length c6), (.int .u64 (↑r.ver : Int)), (.int .i64 r.count), (.slice A9 r.nums.length c9)]]) rfl ⟨⟨_, _, [(.int .i64 r.op), (.int .i64 r.err), (.slice A6 xs.length c6), (.int .u64 (↑r.ver : Int)), (.int .i64 r.count), (.slice A9 r.nums.length c9)], rfl, ag43_6, hb_g2, rfl⟩, trivial⟩ ?_
  have hxs : xs = [] := List.eq_nil_of_length_eq_zero hn0
  subst hxs
  refine ⟨[], A6, c6, A9, c9, ?_, ⟨hv, by rw [hvl]; exact ho6, ⟨fun _ h => (by cases h), List.Pairwise.nil⟩, ho9⟩, hE⟩
  unfold rspc
  rw [hvl]
  rfl
theorem cown_any (w : World) (r : Rsp) (xs : List IT) (hv : vals xs = r.items) (lo hi : Nat) (X : Option Addr) (cx : Nat) (N : Option Addr) (cn : Nat) (hx : RdI w lo hi X cx xs) (hn : RdN w lo hi N cn r.nums) (hsz : rsz r ≤ 4398046511104) :
  Fn Tryz.prog 48 #[.agg (rspc r X cx N cn).toArray] w (fun v w' => ∃ ys X' cx' N' cn', v = .agg (rspc r X' cx' N' cn').toArray ∧ CopyAt w' w.heap.size r ys X' cx' N' cn' ∧ Ext w w') := by
 by_cases h : xs.length = 0
 ·exact cown_0 w r xs hv lo hi X cx N cn hx hn hsz h
 ·exact cown_n w r xs hv lo hi X cx N cn hx hn hsz (by omega)
end Go.Proofs.YtiighkbehiddkaaGreat