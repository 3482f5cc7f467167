/-
  Copies of a response.
-/
import Derived.Test.YtohnkjjjejnkpaaRj
import Derived.Test.YtohnkjjjejnkpaaRm
import Derived.Test.YtohnkjjjejnkpaaRspQ
namespace Go.Proofs.Ytohnkjjjejnkpaa
open Go.RowKit
set_option linter.unusedVariables false
set_option maxRecDepth 4000


theorem flat_itc4 (xs : List IT) : ∀ x ∈ xs, (itc x).length = 4 := fun _ _ => rfl
section
variable {P : Program} {L : Env} {w : World} {d : Option Nat} {ty : TypeId} {pos : String} {aft : Array Edge} {gd : Option (Nat × Bool)}
theorem or_storeOwnG {t e : TypeId} {x y : Operand} {lo g k n c size : Nat} {xs : List Value} {v : Value} (ht : (P.info? t).map (·.size) = some 1) (hx : ev L x = some (.pointer (some ⟨g, k, none⟩))) (hy : ev L y = some v) (h1v : v.oneCell' = true) (hown : Own w lo e size (some ⟨g, 0, none⟩) n c xs) (hk : k < n * size) (hl : k < xs.length) :
    OpRun P ⟨d, .store t x y, ty, pos, aft, gd⟩ L w fun _ w' => Own w' lo e size (some ⟨g, 0, none⟩) n c (xs.set k v) ∧ Gr w w' (some g) :=
  opRun_skip fun ρ h1 _ => by
    have hcell := World.ownsRow.cellAt hown k hk
    have hfr := World.ownsRow.frozenAt hown k
    obtain ⟨inf, hinf, hsz⟩ := Option.map_eq_some_iff.1 ht
    refine ⟨w.setCell ⟨g, k, none⟩ v, ?_, (World.ownsRow.stored hown k v).1, gr_setCell w ⟨g, k, none⟩ v⟩
    have hst := run_store P w ⟨g, k, none⟩ v .plain h1v
    rw [hcell, List.getElem?_eq_getElem hl] at hst
    simp only [hfr] at hst
    have hc : v.cells = #[v] := by cases v <;> first | rfl | (simp [Value.oneCell'] at h1v)
    simp [execOp, h1 x _ hx, h1 y _ hy, Instr.storeAt, Instr.sureAddr, storeVar, sizeOf_run hinf, hsz, hc, storeCells, Addr.add_zero', hst]
end
theorem own_field {w : World} {lo e g n c : Nat} {zs : List IT} {i j : Nat} {x : IT} {u : Value} (h : Own w lo e 4 (some ⟨g, 0, none⟩) n c (zs.flatMap itc)) (hn : n = zs.length) (hx : zs[i]? = some x) (hu : (itc x)[j]? = some u) : w.cell? ⟨g, i * 4 + j, none⟩ = some u := by
  have hi := (List.getElem?_eq_some_iff.1 hx).1
  have hj : j < 4 := (List.getElem?_eq_some_iff.1 hu).1
  rw [World.ownsRow.cellAt h (i * 4 + j) (by omega)]
  exact flat_get (flat_itc4 zs) hx hu
/-- The items so far copied, and the rest. -/
theorem set_value {ys xs : List IT} {i : Nat} {x : IT} (hy : ys.length = i) (hx : xs[i]? = some x) (A : Option Addr) (c : Nat) :
    ((ys ++ xs.drop i).flatMap itc).set (i * 4 + 1) (.slice A x.1.value.length c) = ((ys ++ [(x.1, A, c)]) ++ xs.drop (i + 1)).flatMap itc := by
  have hi := (List.getElem?_eq_some_iff.1 hx).1
  have hd : xs.drop i = x :: xs.drop (i + 1) := by rw [List.drop_eq_getElem_cons hi]; congr 1; exact (List.getElem?_eq_some_iff.1 hx).2
  rw [List.flatMap_append, hd, List.flatMap_cons, List.set_append_right _ _ (by rw [itc_len]; omega), itc_len, hy, show i * 4 + 1 - 4 * i = 1 by omega, List.flatMap_append, List.flatMap_append, List.append_assoc, List.flatMap_singleton]
  rfl
/-- The values of items, each in a row of one's own, in order. -/
def OwnV (w : World) (lo : Nat) (ys : List IT) : Prop := (∀ y ∈ ys, OwnB w lo 5 y.2.1 y.2.2 y.1.value) ∧ ys.Pairwise fun a b => ∀ g g', blk a.2.1 = some g → blk b.2.1 = some g' → g < g'
theorem OwnV.ext {w w' : World} {lo : Nat} {ys : List IT} (h : OwnV w lo ys) (he : Ext w w') : OwnV w' lo ys := ⟨fun y hy => Own.ext (h.1 y hy) he, h.2⟩
theorem OwnV.gr {w w' : World} {lo : Nat} {ys : List IT} (h : OwnV w lo ys) {row : Option Nat} (hg : Gr w w' row) (hr : ∀ g, row = some g → g < lo) : OwnV w' lo ys :=
  ⟨fun y hy => Own.gr (h.1 y hy) hg (own_apart fun g e g' e' => by have := Own.lt (h.1 y hy) e; have := hr g' e'; omega), h.2⟩
theorem OwnV.add {w : World} {lo B : Nat} {ys : List IT} {y : IT} (h : OwnV w lo ys) (hy : OwnB w lo 5 y.2.1 y.2.2 y.1.value) (hb : ∀ g, blk y.2.1 = some g → B ≤ g) (hB : ∀ x ∈ ys, ∀ g, blk x.2.1 = some g → g < B) : OwnV w lo (ys ++ [y]) := by
  refine ⟨?_, ?_⟩
  · intro z hz
    rcases List.mem_append.1 hz with hz | hz
    · exact h.1 z hz
    · rw [List.mem_singleton.1 hz]; exact hy
  · rw [List.pairwise_append]
    refine ⟨h.2, by simp, ?_⟩
    intro a ha b hb' g g' e e'
    rw [List.mem_singleton.1 hb'] at e'
    have := hB a ha g e
    have := hb g' e'
    omega
theorem OwnV.vr {w : World} {lo : Nat} {ys : List IT} (h : OwnV w lo ys) : VR w lo ys := fun y hy => OwnB.rd (h.1 y hy)
theorem OwnV.lt {w : World} {lo : Nat} {ys : List IT} (h : OwnV w lo ys) : ∀ x ∈ ys, ∀ g, blk x.2.1 = some g → g < w.heap.size := fun x hx g e => (Own.lt (h.1 x hx) e).2
theorem OwnV.mono {w : World} {lo lo' : Nat} {ys : List IT} (h : OwnV w lo ys) (hl : lo' ≤ lo) : OwnV w lo' ys := ⟨fun y hy => Own.mono (h.1 y hy) hl, h.2⟩
theorem itc_one : ∀ {xs : List IT} {u : Value}, u ∈ xs.flatMap itc → u.oneCell' = true := by
  intro xs u h
  obtain ⟨x, _, hx⟩ := List.mem_flatMap.1 h
  simp only [itc, List.mem_cons, List.not_mem_nil, or_false] at hx
  rcases hx with rfl | rfl | rfl | rfl <;> rfl
theorem nuc_one : ∀ {xs : List Nat} {u : Value}, u ∈ xs.flatMap nuc → u.oneCell' = true := by
  intro xs u h
  obtain ⟨x, _, hx⟩ := List.mem_flatMap.1 h
  rw [List.mem_singleton.1 hx]; rfl
/-- A copy: the items' row, the values' rows and the numbers' row are one's own, from lo on. -/
structure CopyAt (w : World) (lo : Nat) (r : Rsp) (ys : List IT) (X : Option Addr) (cx : Nat) (N : Option Addr) (cn : Nat) : Prop where
  v : vals ys = r.items
  x : Own w lo 53 4 X r.items.length cx (ys.flatMap itc)
  vs : OwnV w lo ys
  n : Own w lo 25 1 N r.nums.length cn (r.nums.flatMap nuc)
theorem CopyAt.ext {w w' : World} {lo : Nat} {r : Rsp} {ys : List IT} {X : Option Addr} {cx : Nat} {N : Option Addr} {cn : Nat} (h : CopyAt w lo r ys X cx N cn) (he : Ext w w') : CopyAt w' lo r ys X cx N cn := ⟨h.v, Own.ext h.x he, h.vs.ext he, Own.ext h.n he⟩
theorem CopyAt.hx {w : World} {lo : Nat} {r : Rsp} {ys : List IT} {X : Option Addr} {cx : Nat} {N : Option Addr} {cn : Nat} (h : CopyAt w lo r ys X cx N cn) : RdI w lo w.heap.size X cx ys := by
  have e : (vals ys).length = ys.length := List.length_map ..
  have hr := Own.rd h.x
  rw [← h.v, e] at hr
  exact ⟨hr, h.vs.vr⟩

theorem copies8_n (w : World) (r : Rsp) (xs : List IT) (hv : vals xs = r.items) (lo hi : Nat) (X : Option Addr) (cx : Nat) (N : Option Addr) (cn : Nat) (hx : RdI w lo hi X cx xs) (hn : RdN w lo hi N cn r.nums) (h40 : r.items.length ≤ 40) (h100 : r.nums.length ≤ 100) (hvs : ∀ x ∈ r.items, x.value.length ≤ 600) (hn0 : 0 < xs.length) :
    Fn Try.prog 12 #[(.agg #[(.int .i64 r.op), (.int .i64 r.err), (.slice X r.items.length cx), (.int .u64 (↑r.ver : Int)), (.int .i64 r.count), (.slice N r.nums.length cn)])] w (fun v w' => ∃ ys X' cx' N' cn', v = .agg (rspc r X' cx' N' cn').toArray ∧ CopyAt w' w.heap.size r ys X' cx' N' cn' ∧ Ext w w')  := by
  replace hx := hx.top
  replace hn := Rd.top hn
  have hE := ext_refl w
  obtain ⟨hi, hh1⟩ : ∃ n, n = w.heap.size := ⟨_, rfl⟩
  rw [← hh1] at hx hn
  have hvl := vals_len xs
  rw [hv] at hvl
  refine fn_enter (args := [(.agg #[(.int .i64 r.op), (.int .i64 r.err), (.slice X r.items.length cx), (.int .u64 (↑r.ver : Int)), (.int .i64 r.count), (.slice N r.nums.length cn)])]) Try.func12 rfl rfl rfl ?_
  show WC _ _ _ _ [(0, (.agg #[(.int .i64 r.op), (.int .i64 r.err), (.slice X r.items.length cx), (.int .u64 (↑r.ver : Int)), (.int .i64 r.count), (.slice N r.nums.length cn)]))] _
  refine wc_seq (wc_regionL ?_)
  refine wl_step (or_box (cs := [(.int .i64 r.op), (.int .i64 r.err), (.slice X r.items.length cx), (.int .u64 (↑r.ver : Int)), (.int .i64 r.count), (.slice N r.nums.length cn)]) rfl rfl) rfl rfl rfl ?_
  rintro v w1 ⟨g1, rfl, hb_g1, he1, hl1, hu1⟩
  replace hx := RdI.ext hx he1
  replace hn := hn.ext he1
  replace hE := hE.tr he1
  have hz_he1 := he1.size
  refine wl_step (or_alloc (cs := [(.int .i64 0), (.int .i64 0), (.slice none 0 0), (.int .u64 0), (.int .i64 0), (.slice none 0 0)]) ze28 rfl) rfl rfl rfl ?_
  rintro v w2 ⟨g2, rfl, hb_g2, he2, hl2, hu2⟩
  replace hx := RdI.ext hx he2
  replace hn := hn.ext he2
  replace hE := hE.tr he2
  replace hb_g1 := hb_g1.ext he2
  have hz_he2 := he2.size
  refine q_nil (k_then (wc_seq (wc_regionL ?_)))
  refine wl_val (ov_field0 (off := 2) fo28_2 rfl) rfl rfl rfl ?_
  refine wl_val (ov_loadAt oc24 rfl hb_g1 rfl) rfl rfl rfl ?_
  refine wl_spell (d := 6) rfl (v' := (.slice X xs.length cx)) (by rw [← hv, vals_len]) ?_
  refine wl_step (or_append sl24 rfl (Own.nil_ _ w.heap.size _ _) rfl hx.1 (fun u hu => itc_one hu) (by omega) (by simp only [maxLen]; omega) (by omega)) rfl rfl rfl ?_
  rintro v w3 ⟨A7, c7, rfl, ho7, hg7, ha7⟩
  have he7 : Ext _ _ := hg7
  replace hx := RdI.ext hx he7
  replace hn := hn.ext he7
  replace hE := hE.tr he7
  replace hb_g1 := hb_g1.ext he7
  replace hb_g2 := hb_g2.ext he7
  have hz_he7 := he7.size
  rw [Nat.zero_add, List.nil_append] at ho7
  refine wl_spell (d := 7) rfl (v' := .slice A7 xs.length c7) (by rw [Nat.zero_add]) ?_
  obtain ⟨g7, rfl, hg71, hg72⟩ := Own.addr ho7 (by omega)
  have hge7 : g7 = w2.heap.size := by
    rcases ha7 with h | h
    · cases h
    · exact Option.some.inj h
  have hq_ho7 := fun g e => Own.lt ho7 (g := g) e
  refine va rfl rfl ?_
  refine q_nil (k_then (wc_seq (wc_seq (wc_regionL ?_))))
  refine vm rfl rfl ?_
  refine wl_val (ov_len Try.underlying24 rfl) rfl rfl rfl ?_
  refine vm rfl rfl ?_
  refine q_nil (k_then (wc_block ?_))
  have hz1 := hb_g1.lt
  have hz2 := hb_g2.lt
  refine wc_loop (σ := Nat × List IT) (fun s => xs.length - s.1) (fun s => [(1, .pointer (some ⟨g1, 0, none⟩)), (2, .pointer (some ⟨g2, 0, none⟩)), (3, .slice (some ⟨g7, 0, none⟩) xs.length c7), (9, .int .i64 (xs.length : Int)), (10, .int .i64 (s.1 : Int))]) (fun s w' => s.1 ≤ xs.length ∧ s.2.length = s.1 ∧ vals s.2 = (vals xs).take s.1 ∧ Own w' w.heap.size 53 4 (some ⟨g7, 0, none⟩) xs.length c7 ((s.2 ++ xs.drop s.1).flatMap itc) ∧ OwnV w' (g7 + 1) s.2 ∧ Blk w' g1 28 (rspc r X cx N cn) ∧ Blk w' g2 28 (rspc (rspO 0 0) none 0 none 0) ∧ RdI w' lo hi X cx xs ∧ RdN w' lo hi N cn r.nums ∧ Ext w w') ((0, [])) (⟨Nat.zero_le _, rfl, rfl, ho7, ⟨fun _ h => (by cases h), List.Pairwise.nil⟩, hb_g1, hb_g2, hx, hn, hE⟩) (⟨rfl, rfl, rfl, rfl, rfl, trivial⟩) ?_
  rintro ⟨i, ys⟩ wq ⟨hi0, hyl, hyv, ho7, hvy, hb_g1, hb_g2, hx, hn, hE⟩
  show WC _ _ _ _ [(1, (.pointer (some ⟨g1, 0, none⟩))), (2, (.pointer (some ⟨g2, 0, none⟩))), (3, (.slice (some ⟨g7, 0, none⟩) xs.length c7)), (9, (.int .i64 (↑xs.length : Int))), (10, (.int .i64 (↑i : Int)))] _
  simp only at hi0 hyl hyv
  replace ho7 : Own wq w.heap.size 53 4 (some ⟨g7, 0, none⟩) xs.length c7 ((ys ++ xs.drop i).flatMap itc) := ho7
  replace hvy : OwnV wq (g7 + 1) ys := hvy
  have hz_E := hE.size
  have hq_ho7 := fun g e => Own.lt ho7 (g := g) e
  have hg7l := (hq_ho7 g7 rfl).2
  have hyb := hvy.lt
  refine wc_seq (wc_regionL ?_)
  refine wl_val (ov_lss rfl rfl) rfl rfl rfl ?_
  refine q_nil (k_then (wc_seq ?_))
  refine wc_cond_d rfl (fun hc1 => ?_) (fun hc1 => ?_)
  · obtain ⟨x, hk⟩ : ∃ s, xs[i]? = some s := ⟨_, List.getElem?_eq_getElem (by omega)⟩
    have hki := vals_at hv hk
    have hxl := hvs x.1 (List.mem_of_getElem? hki)
    have hk2 : (ys ++ xs.drop i)[i]? = some x := by rw [List.getElem?_append_right (by omega), hyl, Nat.sub_self, List.getElem?_drop, Nat.add_zero]; exact hk
    have hlz : xs.length = (ys ++ xs.drop i).length := by rw [List.length_append, List.length_drop]; omega
    have hrv := hx.2 x (List.mem_of_getElem? hk)
    refine q_skip (k_then (wc_seq (wc_block (wc_seq (wc_regionL ?_)))))
    refine vm rfl rfl ?_
    refine va rfl rfl ?_
    refine q_nil (k_then (wc_regionL ?_))
    iterate 4 refine vm rfl rfl ?_
    refine wl_val (ov_aindex (m := i) sl24 rfl rfl rfl (by omega)) rfl rfl rfl ?_
    refine wl_val (ov_field0 (off := 1) fo53_1 rfl) rfl rfl rfl ?_
    have hc19 := own_field (j := 1) ho7 hlz hk2 rfl
    refine wl_val (ov_load oc32 rfl hc19) rfl rfl rfl ?_
    refine wl_step (or_bappend0 bt32 rfl rfl hrv (by omega)) rfl rfl rfl ?_
    rintro v w4 ⟨A20, c20, rfl, ho20, he20⟩
    replace ho7 := Own.ext ho7 he20
    replace hvy := OwnV.ext hvy he20
    replace hb_g1 := hb_g1.ext he20
    replace hb_g2 := hb_g2.ext he20
    replace hx := RdI.ext hx he20
    replace hn := hn.ext he20
    replace hE := hE.tr he20
    replace hrv := hrv.ext he20
    have hz_he20 := he20.size
    have hq_ho20 := fun g e => Own.lt ho20 (g := g) e
    refine wl_val (ov_aindex (m := i) sl24 rfl rfl rfl (by omega)) rfl rfl rfl ?_
    refine wl_val (ov_field0 (off := 1) fo53_1 rfl) rfl rfl rfl ?_
    refine wl_step0 (or_storeOwnG sz32 rfl rfl rfl ho7 (by omega) (by rw [itc_len, List.length_append, List.length_drop]; omega)) rfl rfl ?_
    rintro _ w5 ⟨hN32, hg32⟩
    have hz_hg32 := hg32.size
    replace hvy := OwnV.gr hvy hg32 (fun _ e => by cases e; omega)
    replace hb_g1 := hb_g1.gr hg32 (by intro e; cases e; omega)
    replace hb_g2 := hb_g2.gr hg32 (by intro e; cases e; omega)
    replace hx := RdI.gr hx hg32 (fun _ e => by cases e; omega)
    replace hn := hn.gr hg32 (fun _ e => by cases e; omega)
    replace hE := hE.gr hg32 (fun _ e => by cases e; omega)
    replace hrv := hrv.gr hg32 (fun _ e => by cases e; omega)
    replace ho20 := Own.gr ho20 hg32 (by first | exact .inl rfl | (right; intro e; first | (have := hq_ho20 _ e; omega) | (have := Own.lt ho20 e; omega)))
    rw [set_value hyl hk] at hN32
    replace ho7 := hN32
    refine q_nil (k_block (k_then (wc_regionL ?_)))
    refine wl_val (ov_add rfl rfl (wi64 (by omega) (by omega))) rfl rfl rfl ?_
    refine vm rfl rfl ?_
    refine q_nil ?_
    have hyn : vals (ys ++ [(x.1, A20, c20)]) = (vals xs).take (i + 1) := by rw [vals_add, hyv, List.take_add_one, vals_get hk]; rfl
    have hvn : OwnV w5 (g7 + 1) (ys ++ [(x.1, A20, c20)]) := hvy.add (B := wq.heap.size) (Own.mono ho20 (by omega)) (fun g e => by have := hq_ho20 g e; omega) hyb
    refine k_loop ((i + 1, ys ++ [(x.1, A20, c20)])) (by show xs.length - (i + 1) < xs.length - i; omega) (⟨rfl, rfl, rfl, rfl, rfl, trivial⟩) (⟨by show i + 1 ≤ _; omega, by show (ys ++ [_]).length = i + 1; rw [List.length_append, hyl]; rfl, hyn, ho7, hvn, hb_g1, hb_g2, hx, hn, hE⟩)
  · have hix : i = xs.length := by omega
    subst hix
    rw [List.drop_length, List.append_nil] at ho7
    rw [show (vals xs).take xs.length = vals xs from by rw [← vals_len xs, List.take_length], hv] at hyv
    refine q_exit (k_thenX (k_thenX (k_blockE (k_then (wc_seq (wc_regionL ?_))))))
    refine vm rfl rfl ?_
    refine wl_val (ov_field0 (off := 5) fo28_5 rfl) rfl rfl rfl ?_
    refine wl_val (ov_loadAt oc26 rfl hb_g1 rfl) rfl rfl rfl ?_
    refine wl_step (or_append sl26 rfl (Own.nil_ _ w.heap.size _ _) rfl hn (fun u hu => nuc_one hu) (by omega) (by simp only [maxLen]; omega) (by omega)) rfl rfl rfl ?_
    rintro v w204 ⟨A27, c27, rfl, ho27, hg27, ha27⟩
    have he27 : Ext _ _ := hg27
    replace ho7 := Own.ext ho7 he27
    replace hvy := OwnV.ext hvy he27
    replace hb_g1 := hb_g1.ext he27
    replace hb_g2 := hb_g2.ext he27
    replace hx := RdI.ext hx he27
    replace hn := hn.ext he27
    replace hE := hE.tr he27
    have hz_he27 := he27.size
    rw [Nat.zero_add, List.nil_append] at ho27
    refine wl_spell (d := 27) rfl (v' := .slice A27 r.nums.length c27) (by rw [Nat.zero_add]) ?_
    have hq_ho27 := fun g e => Own.lt ho27 (g := g) e
    refine wl_val (ov_field0 (off := 2) fo28_2 rfl) rfl rfl rfl ?_
    refine wl_step0 (or_storeAt (cs' := [(.int .i64 r.op), (.int .i64 r.err), (.slice (some ⟨g7, 0, none⟩) xs.length c7), (.int .u64 (↑r.ver : Int)), (.int .i64 r.count), (.slice N r.nums.length cn)]) sz24 rfl rfl rfl hb_g1 rfl rfl) rfl rfl ?_
    rintro _ w205 ⟨hN205, hg205⟩
    have hz_hg205 := hg205.size
    replace ho7 := Own.gr ho7 hg205 (by first | exact .inl rfl | (right; intro e; first | (have := hq_ho7 _ e; omega) | (have := Own.lt ho7 e; omega) | exact own_blk_ne ho7 hb_g1 (by decide) e))
    replace hvy := OwnV.gr hvy hg205 (fun _ e => by cases e; omega)
    replace hb_g2 := hb_g2.gr hg205 (by intro e; cases e; omega)
    replace hx := RdI.gr hx hg205 (fun _ e => by cases e; omega)
    replace hn := hn.gr hg205 (fun _ e => by cases e; omega)
    replace hE := hE.gr hg205 (fun _ e => by cases e; omega)
    replace ho27 := Own.gr ho27 hg205 (by first | exact .inl rfl | (right; intro e; first | (have := hq_ho27 _ e; omega) | (have := Own.lt ho27 e; omega) | exact own_blk_ne ho27 hb_g1 (by decide) e))
    replace hb_g1 := hN205
    refine wl_val (ov_field0 (off := 5) fo28_5 rfl) rfl rfl rfl ?_
    refine wl_step0 (or_storeAt (cs' := [(.int .i64 r.op), (.int .i64 r.err), (.slice (some ⟨g7, 0, none⟩) xs.length c7), (.int .u64 (↑r.ver : Int)), (.int .i64 r.count), (.slice A27 r.nums.length c27)]) sz26 rfl rfl rfl hb_g1 rfl rfl) rfl rfl ?_
    rintro _ w206 ⟨hN206, hg206⟩
    have hz_hg206 := hg206.size
    replace ho7 := Own.gr ho7 hg206 (by first | exact .inl rfl | (right; intro e; first | (have := hq_ho7 _ e; omega) | (have := Own.lt ho7 e; omega) | exact own_blk_ne ho7 hb_g1 (by decide) e))
    replace hvy := OwnV.gr hvy hg206 (fun _ e => by cases e; omega)
    replace hb_g2 := hb_g2.gr hg206 (by intro e; cases e; omega)
    replace hx := RdI.gr hx hg206 (fun _ e => by cases e; omega)
    replace hn := hn.gr hg206 (fun _ e => by cases e; omega)
    replace hE := hE.gr hg206 (fun _ e => by cases e; omega)
    replace ho27 := Own.gr ho27 hg206 (by first | exact .inl rfl | (right; intro e; first | (have := hq_ho27 _ e; omega) | (have := Own.lt ho27 e; omega) | exact own_blk_ne ho27 hb_g1 (by decide) e))
    replace hb_g1 := hN206
    refine q_nil (k_then (wc_seq (wc_regionL ?_)))
    refine wl_val (ov_loadBlk (cs := [(.int .i64 r.op), (.int .i64 r.err), (.slice (some ⟨g7, 0, none⟩) xs.length c7), (.int .u64 (↑r.ver : Int)), (.int .i64 r.count), (.slice A27 r.nums.length c27)]) ag28_6 rfl hb_g1) rfl rfl rfl ?_
    refine wl_step0 (or_storeBlk (vs := [(.int .i64 r.op), (.int .i64 r.err), (.slice (some ⟨g7, 0, none⟩) xs.length c7), (.int .u64 (↑r.ver : Int)), (.int .i64 r.count), (.slice A27 r.nums.length c27)]) sz28 rfl rfl (by simp [Value.oneCell']) hb_g2 rfl) rfl rfl ?_
    rintro _ w207 ⟨hN207, hg207⟩
    have hz_hg207 := hg207.size
    replace ho7 := Own.gr ho7 hg207 (by first | exact .inl rfl | (right; intro e; first | (have := hq_ho7 _ e; omega) | (have := Own.lt ho7 e; omega) | exact own_blk_ne ho7 hb_g2 (by decide) e))
    replace hvy := OwnV.gr hvy hg207 (fun _ e => by cases e; omega)
    replace hb_g1 := hb_g1.gr hg207 (by intro e; cases e; omega)
    replace hx := RdI.gr hx hg207 (fun _ e => by cases e; omega)
    replace hn := hn.gr hg207 (fun _ e => by cases e; omega)
    replace hE := hE.gr hg207 (fun _ e => by cases e; omega)
    replace ho27 := Own.gr ho27 hg207 (by first | exact .inl rfl | (right; intro e; first | (have := hq_ho27 _ e; omega) | (have := Own.lt ho27 e; omega) | exact own_blk_ne ho27 hb_g2 (by decide) e))
    replace hb_g2 := hN207
    refine q_nil (k_then (q_ret ?_))
    refine e_retL (rs := [.cell 2 28]) (vs := [.agg #[(.int .i64 r.op), (.int .i64 r.err), (.slice (some ⟨g7, 0, none⟩) xs.length c7), (.int .u64 (↑r.ver : Int)), (.int .i64 r.count), (.slice A27 r.nums.length c27)]]) rfl ⟨⟨_, _, [(.int .i64 r.op), (.int .i64 r.err), (.slice (some ⟨g7, 0, none⟩) xs.length c7), (.int .u64 (↑r.ver : Int)), (.int .i64 r.count), (.slice A27 r.nums.length c27)], rfl, ag28_6, hb_g2, rfl⟩, trivial⟩ ?_
    refine ⟨ys, (some ⟨g7, 0, none⟩), c7, A27, c27, ?_, ⟨hyv, by rw [hvl]; exact ho7, hvy.mono (by omega), ho27⟩, hE⟩
    unfold rspc
    rw [hvl]
    rfl

theorem copies8_0 (w : World) (r : Rsp) (xs : List IT) (hv : vals xs = r.items) (lo hi : Nat) (X : Option Addr) (cx : Nat) (N : Option Addr) (cn : Nat) (hx : RdI w lo hi X cx xs) (hn : RdN w lo hi N cn r.nums) (h40 : r.items.length ≤ 40) (h100 : r.nums.length ≤ 100) (hvs : ∀ x ∈ r.items, x.value.length ≤ 600) (hn0 : xs.length = 0) :
    Fn Try.prog 12 #[(.agg #[(.int .i64 r.op), (.int .i64 r.err), (.slice X r.items.length cx), (.int .u64 (↑r.ver : Int)), (.int .i64 r.count), (.slice N r.nums.length cn)])] w (fun v w' => ∃ ys X' cx' N' cn', v = .agg (rspc r X' cx' N' cn').toArray ∧ CopyAt w' w.heap.size r ys X' cx' N' cn' ∧ Ext w w')  := by
  replace hx := hx.top
  replace hn := Rd.top hn
  have hE := ext_refl w
  obtain ⟨hi, hh1⟩ : ∃ n, n = w.heap.size := ⟨_, rfl⟩
  rw [← hh1] at hx hn
  have hvl := vals_len xs
  rw [hv] at hvl
  refine fn_enter (args := [(.agg #[(.int .i64 r.op), (.int .i64 r.err), (.slice X r.items.length cx), (.int .u64 (↑r.ver : Int)), (.int .i64 r.count), (.slice N r.nums.length cn)])]) Try.func12 rfl rfl rfl ?_
  show WC _ _ _ _ [(0, (.agg #[(.int .i64 r.op), (.int .i64 r.err), (.slice X r.items.length cx), (.int .u64 (↑r.ver : Int)), (.int .i64 r.count), (.slice N r.nums.length cn)]))] _
  refine wc_seq (wc_regionL ?_)
  refine wl_step (or_box (cs := [(.int .i64 r.op), (.int .i64 r.err), (.slice X r.items.length cx), (.int .u64 (↑r.ver : Int)), (.int .i64 r.count), (.slice N r.nums.length cn)]) rfl rfl) rfl rfl rfl ?_
  rintro v w1 ⟨g1, rfl, hb_g1, he1, hl1, hu1⟩
  replace hx := RdI.ext hx he1
  replace hn := hn.ext he1
  replace hE := hE.tr he1
  have hz_he1 := he1.size
  refine wl_step (or_alloc (cs := [(.int .i64 0), (.int .i64 0), (.slice none 0 0), (.int .u64 0), (.int .i64 0), (.slice none 0 0)]) ze28 rfl) rfl rfl rfl ?_
  rintro v w2 ⟨g2, rfl, hb_g2, he2, hl2, hu2⟩
  replace hx := RdI.ext hx he2
  replace hn := hn.ext he2
  replace hE := hE.tr he2
  replace hb_g1 := hb_g1.ext he2
  have hz_he2 := he2.size
  refine q_nil (k_then (wc_seq (wc_regionL ?_)))
  refine wl_val (ov_field0 (off := 2) fo28_2 rfl) rfl rfl rfl ?_
  refine wl_val (ov_loadAt oc24 rfl hb_g1 rfl) rfl rfl rfl ?_
  refine wl_spell (d := 6) rfl (v' := (.slice X xs.length cx)) (by rw [← hv, vals_len]) ?_
  refine wl_step (or_append sl24 rfl (Own.nil_ _ w.heap.size _ _) rfl hx.1 (fun u hu => itc_one hu) (by omega) (by simp only [maxLen]; omega) (by omega)) rfl rfl rfl ?_
  rintro v w3 ⟨A7, c7, rfl, ho7, hg7, ha7⟩
  have he7 : Ext _ _ := hg7
  replace hx := RdI.ext hx he7
  replace hn := hn.ext he7
  replace hE := hE.tr he7
  replace hb_g1 := hb_g1.ext he7
  replace hb_g2 := hb_g2.ext he7
  have hz_he7 := he7.size
  rw [Nat.zero_add, List.nil_append] at ho7
  refine wl_spell (d := 7) rfl (v' := .slice A7 xs.length c7) (by rw [Nat.zero_add]) ?_
  have hq_ho7 := fun g e => Own.lt ho7 (g := g) e
  refine va rfl rfl ?_
  refine q_nil (k_then (wc_seq (wc_seq (wc_regionL ?_))))
  refine vm rfl rfl ?_
  refine wl_val (ov_len Try.underlying24 rfl) rfl rfl rfl ?_
  refine vm rfl rfl ?_
  refine q_nil (k_then (wc_block ?_))
  have hz1 := hb_g1.lt
  have hz2 := hb_g2.lt
  refine wc_loop (σ := Nat) (fun s => s) (fun s => [(1, .pointer (some ⟨g1, 0, none⟩)), (2, .pointer (some ⟨g2, 0, none⟩)), (3, .slice A7 xs.length c7), (9, .int .i64 (xs.length : Int)), (10, .int .i64 0)]) (fun s w' => Own w' w.heap.size 53 4 A7 xs.length c7 (xs.flatMap itc) ∧ Blk w' g1 28 (rspc r X cx N cn) ∧ Blk w' g2 28 (rspc (rspO 0 0) none 0 none 0) ∧ RdN w' lo hi N cn r.nums ∧ Ext w w') (0) (⟨ho7, hb_g1, hb_g2, hn, hE⟩) (⟨rfl, rfl, rfl, rfl, rfl, trivial⟩) ?_
  rintro i wq ⟨ho7, hb_g1, hb_g2, hn, hE⟩
  show WC _ _ _ _ [(1, (.pointer (some ⟨g1, 0, none⟩))), (2, (.pointer (some ⟨g2, 0, none⟩))), (3, (.slice A7 xs.length c7)), (9, (.int .i64 (↑xs.length : Int))), (10, (.int .i64 0))] _
  have hz_E := hE.size
  have hq_ho7 := fun g e => Own.lt ho7 (g := g) e
  refine wc_seq (wc_regionL ?_)
  refine wl_val (ov_lss rfl rfl) rfl rfl rfl ?_
  refine q_nil (k_then (wc_seq ?_))
  refine wc_cond_F rfl (decide_eq_false (by omega)) ?_
  refine q_exit (k_thenX (k_thenX (k_blockE (k_then (wc_seq (wc_regionL ?_))))))
  refine vm rfl rfl ?_
  refine wl_val (ov_field0 (off := 5) fo28_5 rfl) rfl rfl rfl ?_
  refine wl_val (ov_loadAt oc26 rfl hb_g1 rfl) rfl rfl rfl ?_
  refine wl_step (or_append sl26 rfl (Own.nil_ _ w.heap.size _ _) rfl hn (fun u hu => nuc_one hu) (by omega) (by simp only [maxLen]; omega) (by omega)) rfl rfl rfl ?_
  rintro v w4 ⟨A27, c27, rfl, ho27, hg27, ha27⟩
  have he27 : Ext _ _ := hg27
  replace ho7 := Own.ext ho7 he27
  replace hb_g1 := hb_g1.ext he27
  replace hb_g2 := hb_g2.ext he27
  replace hn := hn.ext he27
  replace hE := hE.tr he27
  have hz_he27 := he27.size
  rw [Nat.zero_add, List.nil_append] at ho27
  refine wl_spell (d := 27) rfl (v' := .slice A27 r.nums.length c27) (by rw [Nat.zero_add]) ?_
  have hq_ho27 := fun g e => Own.lt ho27 (g := g) e
  refine wl_val (ov_field0 (off := 2) fo28_2 rfl) rfl rfl rfl ?_
  refine wl_step0 (or_storeAt (cs' := [(.int .i64 r.op), (.int .i64 r.err), (.slice A7 xs.length c7), (.int .u64 (↑r.ver : Int)), (.int .i64 r.count), (.slice N r.nums.length cn)]) sz24 rfl rfl rfl hb_g1 rfl rfl) rfl rfl ?_
  rintro _ w5 ⟨hN5, hg5⟩
  have hz_hg5 := hg5.size
  replace ho7 := Own.gr ho7 hg5 (by first | exact .inl rfl | (right; intro e; first | (have := hq_ho7 _ e; omega) | (have := Own.lt ho7 e; omega) | exact own_blk_ne ho7 hb_g1 (by decide) e))
  replace hb_g2 := hb_g2.gr hg5 (by intro e; cases e; omega)
  replace hn := hn.gr hg5 (fun _ e => by cases e; omega)
  replace hE := hE.gr hg5 (fun _ e => by cases e; omega)
  replace ho27 := Own.gr ho27 hg5 (by first | exact .inl rfl | (right; intro e; first | (have := hq_ho27 _ e; omega) | (have := Own.lt ho27 e; omega) | exact own_blk_ne ho27 hb_g1 (by decide) e))
  replace hb_g1 := hN5
  refine wl_val (ov_field0 (off := 5) fo28_5 rfl) rfl rfl rfl ?_
  refine wl_step0 (or_storeAt (cs' := [(.int .i64 r.op), (.int .i64 r.err), (.slice A7 xs.length c7), (.int .u64 (↑r.ver : Int)), (.int .i64 r.count), (.slice A27 r.nums.length c27)]) sz26 rfl rfl rfl hb_g1 rfl rfl) rfl rfl ?_
  rintro _ w6 ⟨hN6, hg6⟩
  have hz_hg6 := hg6.size
  replace ho7 := Own.gr ho7 hg6 (by first | exact .inl rfl | (right; intro e; first | (have := hq_ho7 _ e; omega) | (have := Own.lt ho7 e; omega) | exact own_blk_ne ho7 hb_g1 (by decide) e))
  replace hb_g2 := hb_g2.gr hg6 (by intro e; cases e; omega)
  replace hn := hn.gr hg6 (fun _ e => by cases e; omega)
  replace hE := hE.gr hg6 (fun _ e => by cases e; omega)
  replace ho27 := Own.gr ho27 hg6 (by first | exact .inl rfl | (right; intro e; first | (have := hq_ho27 _ e; omega) | (have := Own.lt ho27 e; omega) | exact own_blk_ne ho27 hb_g1 (by decide) e))
  replace hb_g1 := hN6
  refine q_nil (k_then (wc_seq (wc_regionL ?_)))
  refine wl_val (ov_loadBlk (cs := [(.int .i64 r.op), (.int .i64 r.err), (.slice A7 xs.length c7), (.int .u64 (↑r.ver : Int)), (.int .i64 r.count), (.slice A27 r.nums.length c27)]) ag28_6 rfl hb_g1) rfl rfl rfl ?_
  refine wl_step0 (or_storeBlk (vs := [(.int .i64 r.op), (.int .i64 r.err), (.slice A7 xs.length c7), (.int .u64 (↑r.ver : Int)), (.int .i64 r.count), (.slice A27 r.nums.length c27)]) sz28 rfl rfl (by simp [Value.oneCell']) hb_g2 rfl) rfl rfl ?_
  rintro _ w7 ⟨hN7, hg7⟩
  have hz_hg7 := hg7.size
  replace ho7 := Own.gr ho7 hg7 (by first | exact .inl rfl | (right; intro e; first | (have := hq_ho7 _ e; omega) | (have := Own.lt ho7 e; omega) | exact own_blk_ne ho7 hb_g2 (by decide) e))
  replace hb_g1 := hb_g1.gr hg7 (by intro e; cases e; omega)
  replace hn := hn.gr hg7 (fun _ e => by cases e; omega)
  replace hE := hE.gr hg7 (fun _ e => by cases e; omega)
  replace ho27 := Own.gr ho27 hg7 (by first | exact .inl rfl | (right; intro e; first | (have := hq_ho27 _ e; omega) | (have := Own.lt ho27 e; omega) | exact own_blk_ne ho27 hb_g2 (by decide) e))
  replace hb_g2 := hN7
  refine q_nil (k_then (q_ret ?_))
  refine e_retL (rs := [.cell 2 28]) (vs := [.agg #[(.int .i64 r.op), (.int .i64 r.err), (.slice A7 xs.length c7), (.int .u64 (↑r.ver : Int)), (.int .i64 r.count), (.slice A27 r.nums.length c27)]]) rfl ⟨⟨_, _, [(.int .i64 r.op), (.int .i64 r.err), (.slice A7 xs.length c7), (.int .u64 (↑r.ver : Int)), (.int .i64 r.count), (.slice A27 r.nums.length c27)], rfl, ag28_6, hb_g2, rfl⟩, trivial⟩ ?_
  have hxs : xs = [] := List.eq_nil_of_length_eq_zero hn0
  subst hxs
  refine ⟨[], A7, c7, A27, c27, ?_, ⟨hv, by rw [hvl]; exact ho7, ⟨fun _ h => (by cases h), List.Pairwise.nil⟩, ho27⟩, hE⟩
  unfold rspc
  rw [hvl]
  rfl

theorem copies8_any (w : World) (r : Rsp) (xs : List IT) (hv : vals xs = r.items) (lo hi : Nat) (X : Option Addr) (cx : Nat) (N : Option Addr) (cn : Nat) (hx : RdI w lo hi X cx xs) (hn : RdN w lo hi N cn r.nums) (h40 : r.items.length ≤ 40) (h100 : r.nums.length ≤ 100) (hvs : ∀ x ∈ r.items, x.value.length ≤ 600) :
    Fn Try.prog 12 #[.agg (rspc r X cx N cn).toArray] w (fun v w' => ∃ ys X' cx' N' cn', v = .agg (rspc r X' cx' N' cn').toArray ∧ CopyAt w' w.heap.size r ys X' cx' N' cn' ∧ Ext w w') := by
  by_cases h : xs.length = 0
  · exact copies8_0 w r xs hv lo hi X cx N cn hx hn h40 h100 hvs h
  · exact copies8_n w r xs hv lo hi X cx N cn hx hn h40 h100 hvs (by omega)

end Go.Proofs.Ytohnkjjjejnkpaa
