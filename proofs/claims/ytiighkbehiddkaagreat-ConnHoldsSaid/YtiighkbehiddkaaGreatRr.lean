/-
 The contracts of the readers. Conditions: that the reader lies in memory, or is nil or zero; sizes.
-/
import Derived.Test.YtiighkbehiddkaaGreatVi
namespace Go.Proofs.YtiighkbehiddkaaGreat
open Go.RowKit
set_option linter.unusedVariables false
set_option maxRecDepth 4000
theorem cl144 : callable Tryz.prog 144 = true := by kernel_rfl
theorem cl145 : callable Tryz.prog 145 = true := by kernel_rfl
theorem cl146 : callable Tryz.prog 146 = true := by kernel_rfl
theorem cl147 : callable Tryz.prog 147 = true := by kernel_rfl
theorem fo178_0 : fieldOff Tryz.prog 178 0 = some 0 := by kernel_rfl
theorem fo178_1 : fieldOff Tryz.prog 178 1 = some 1 := by kernel_rfl
theorem oc3 : oneCellTy Tryz.prog 3 = true := by kernel_rfl
theorem oc32 : oneCellTy Tryz.prog 32 = true := by kernel_rfl
theorem oc4 : oneCellTy Tryz.prog 4 = true := by kernel_rfl
theorem pl178 : placesOf Tryz.prog 178 = some [(0, 1), (1, 1)] := by kernel_rfl
theorem sz32 : (Tryz.prog.info? 32).map (·.size) = some 1 := by kernel_rfl
theorem ze178 : zeroOf Tryz.prog 178 = some (.agg #[(.bool false), (.slice none 0 0)]) := by kernel_rfl
/-- What a call of a reader's method leaves of the reader: only its own block has been written; what is left reads as l'. -/
def RdrStep (w w' : World) (g lo hi : Nat) (l' : List UInt8) : Prop :=
 Gr w w' (some g) ∧ ∃ A' c', Blk w' g 178 [.bool true, .slice A' l'.length c'] ∧ RdB w' lo hi A' c' l'
theorem cut_l (l : List UInt8) {i : Int} {a : Nat} (h1 : i = (a : Int)) : (l.drop i.toNat).take (l.length - i.toNat) = l.drop a := by
 rw [show i.toNat = a by omega, List.take_of_length_le (by simp)]
theorem takenum_ok (w : World) (g lo hi : Nat) (A : Option Addr) (c : Nat) (l : List UInt8) (hb_g : Blk w g 178 [.bool true, .slice A l.length c]) (hr : RdB w lo hi A c l) (hne : g < lo ∨ hi ≤ g) (hlen : l.length ≤ 140737488355328) :
  Fn Tryz.prog 147 #[(.pointer (some ⟨g, 0, none⟩)), (.func (.func 102) #[] #[])] w (fun v w' => v = .tuple #[.int .u64 ((vget l).1 : Int), .int .i64 ((vget l).2.2 : Int)] ∧ RdrStep w w' g lo hi (l.drop (vget l).2.1))  := by
 have hG := (ext_refl w).row (some g)
 have hgl := hb_g.lt
 have hs := vget_size l
 have hn := vget_lt l
 have hcap := RdB.cap hr
 refine fn_enter (args := [(.pointer (some ⟨g, 0, none⟩)), (.func (.func 102) #[] #[])]) Tryz.func147 rfl rfl rfl ?_
 show WC _ _ _ _ [(0, (.pointer (some ⟨g, 0, none⟩))), (1, (.func (.func 102) #[] #[]))] _
 refine wc_seq (wc_regionL ?_)
 iterate 2 refine va rfl rfl ?_
 refine q_nil (k_then (wc_seq (wc_regionL ?_)))
 refine va rfl rfl ?_
 refine q_nil (k_then (wc_seq (wc_seq (wc_regionL ?_))))
 refine vm rfl rfl ?_
 refine wl_val (ov_nilptr Tryz.underlying150 rfl) rfl rfl rfl ?_
 refine vm rfl rfl ?_
 refine wl_gval (ov_move rfl) rfl rfl rfl rfl rfl ?_
 refine wl_gval (ov_nilCheck rfl) rfl rfl rfl rfl rfl ?_
 refine wl_gval (ov_field0 (off := 0) fo178_0 rfl) rfl rfl rfl rfl rfl ?_
 refine wl_gval (ov_loadAt oc4 rfl hb_g rfl) rfl rfl rfl rfl rfl ?_
 refine wl_gval (ov_not (b := true) rfl) rfl rfl rfl rfl rfl ?_
 refine wl_val (ov_pick_f rfl rfl) rfl rfl rfl ?_
 refine q_nil (k_then ?_)
 refine wc_cond_f rfl ?_
 refine q_skip (k_then (wc_seq (wc_regionL ?_)))
 iterate 2 refine vm rfl rfl ?_
 refine vn rfl rfl ?_
 refine wl_val (ov_field0 (off := 1) fo178_1 rfl) rfl rfl rfl ?_
 refine wl_val (ov_loadAt oc32 rfl hb_g rfl) rfl rfl rfl ?_
 refine wl_val (or_call0 cl102 rfl rfl (get_any _ _ _ _ _ l hr)) rfl rfl rfl ?_
 refine vm rfl rfl ?_
 iterate 3 refine vx rfl rfl rfl ?_
 iterate 3 refine va rfl rfl ?_
 refine q_nil (k_then (wc_seq (wc_seq (wc_regionL ?_))))
 refine vm rfl rfl ?_
 refine wl_val (ov_neq rfl rfl) rfl rfl rfl ?_
 refine q_nil (k_then ?_)
 refine wc_cond_d rfl (fun hc2 => ?_) (fun hc2 => ?_)
 ·refine wc_seq (wc_regionL ?_)
  iterate 2 refine vm rfl rfl ?_
  iterate 2 refine va rfl rfl ?_
  refine q_nil (k_then (q_ret (k_thenR ?_)))
  refine e_ret2 rfl rfl rfl ?_
  have hbad := vget_bad l (by omega)
  refine ⟨by rw [hbad.1]; rfl, ?_⟩
  rw [hbad.2]
  exact ⟨hG, A, c, hb_g, hr⟩
 ·refine q_skip (k_then (wc_seq (wc_regionL ?_)))
  iterate 2 refine vm rfl rfl ?_
  refine vn rfl rfl ?_
  refine wl_val (ov_field0 (off := 1) fo178_1 rfl) rfl rfl rfl ?_
  refine wl_val (ov_loadAt oc32 rfl hb_g rfl) rfl rfl rfl ?_
  refine vm rfl rfl ?_
  have hcap40 := RdB.cap hr
  refine wl_step (or_bslice bt32 rfl hr (bounds_l rfl (by omega) (by omega)) (by omega) (by omega) (by omega) (by omega)) rfl rfl rfl ?_
  rintro v _ ⟨rfl, A40, c40, rfl, hr40, hl40⟩
  have hs40 : (l.drop (Int.toNat (↑(vget l).2.1 : Int))).take (l.length - (Int.toNat (↑(vget l).2.1 : Int))) = (l.drop (vget l).2.1) := cut_l l (by omega)
  rw [hs40] at hr40 hl40; rw [hs40]; clear hs40
  refine vn rfl rfl ?_
  refine wl_val (ov_field0 (off := 1) fo178_1 rfl) rfl rfl rfl ?_
  refine wl_step0 (or_storeAt (cs' := [(.bool true), (.slice A40 (l.drop (vget l).2.1).length c40)]) sz32 rfl rfl rfl hb_g rfl rfl) rfl rfl ?_
  rintro _ w201 ⟨hN201, hg201⟩
  have hz_hg201 := hg201.size
  replace hG := hG.gr hg201 (fun _ e => by first | exact .inl e | (cases e; right; omega))
  replace hr40 := hr40.gr hg201 (fun _ e => by cases e; omega)
  replace hb_g := hN201
  refine q_nil (k_then (wc_seq (wc_regionL ?_)))
  refine vm rfl rfl ?_
  iterate 2 refine va rfl rfl ?_
  refine q_nil (k_then (q_ret ?_))
  refine e_ret2 rfl rfl rfl ?_
  exact ⟨by rw [show (vget l).2.2 = 0 by omega]; rfl, hG, A40, c40, hb_g, hr40⟩
theorem number_ok (w : World) (g lo hi : Nat) (A : Option Addr) (c : Nat) (l : List UInt8) (hb_g : Blk w g 178 [.bool true, .slice A l.length c]) (hr : RdB w lo hi A c l) (hne : g < lo ∨ hi ≤ g) (hlen : l.length ≤ 140737488355328) :
  Fn Tryz.prog 129 #[(.pointer (some ⟨g, 0, none⟩))] w (fun v w' => v = .tuple #[.int .u64 ((vget l).1 : Int), .int .i64 ((vget l).2.2 : Int)] ∧ RdrStep w w' g lo hi (l.drop (vget l).2.1))  := by
 have hG := (ext_refl w).row (some g)
 have hgl := hb_g.lt
 have hs := vget_size l
 have hn := vget_lt l
 have hcap := RdB.cap hr
 refine fn_enter (args := [(.pointer (some ⟨g, 0, none⟩))]) Tryz.func129 rfl rfl rfl ?_
 show WC _ _ _ _ [(0, (.pointer (some ⟨g, 0, none⟩)))] _
 refine wc_seq (wc_regionL ?_)
 iterate 2 refine va rfl rfl ?_
 refine q_nil (k_then (wc_seq (wc_regionL ?_)))
 refine vm rfl rfl ?_
 refine wl_step (or_call0 cl147 rfl rfl (takenum_ok _ g lo hi A c l hb_g hr hne hlen)) rfl rfl rfl ?_
 rintro v w1 ⟨rfl, hst⟩
 iterate 2 refine vx rfl rfl rfl ?_
 iterate 2 refine va rfl rfl ?_
 refine q_nil (k_then (q_ret ?_))
 refine e_ret2 rfl rfl rfl ?_
 exact ⟨rfl, hst⟩
theorem bytes1_any (w : World) (lo hi : Nat) (A : Option Addr) (c : Nat) (l : List UInt8) (most : Int) (hm : most ≤ 9223372036854775807) (gm : Nat) (hb_gm : Blk w gm 3 [.int .i64 most]) (hr : RdB w lo hi A c l) (hlen : l.length ≤ 140737488355328) :
  Fn Tryz.prog 145 #[(.slice A l.length c), (.pointer (some ⟨gm, 0, none⟩))] w (VPart w l most)  := by
 refine fn_enter (args := [(.slice A l.length c), (.pointer (some ⟨gm, 0, none⟩))]) Tryz.func145 rfl rfl rfl ?_
 show WC _ _ _ _ [(0, (.slice A l.length c)), (1, (.pointer (some ⟨gm, 0, none⟩)))] _
 refine wc_seq (wc_regionL ?_)
 iterate 3 refine va rfl rfl ?_
 refine q_nil (k_then (wc_seq (wc_regionL ?_)))
 refine vm rfl rfl ?_
 refine wl_val (ov_loadAt oc3 rfl hb_gm rfl) rfl rfl rfl ?_
 refine wl_step (or_call0 cl146 rfl rfl (getbytes_any _ _ _ _ _ l most hm hr hlen)) rfl rfl rfl ?_
 rintro v w1 ⟨A8, c8, rfl, ho8, he8⟩
 have hz_he8 := he8.size
 iterate 3 refine vx rfl rfl rfl ?_
 iterate 3 refine va rfl rfl ?_
 refine q_nil (k_then (q_ret ?_))
 refine e_ret3 rfl rfl rfl rfl ?_
 exact ⟨A8, c8, rfl, ho8, he8⟩
theorem takebytes_ok (w : World) (g lo hi : Nat) (A : Option Addr) (c : Nat) (l : List UInt8) (hb_g : Blk w g 178 [.bool true, .slice A l.length c]) (hr : RdB w lo hi A c l) (hne : g < lo ∨ hi ≤ g) (hlen : l.length ≤ 140737488355328) (most : Int) (hm : most ≤ 9223372036854775807) (gm : Nat) (hb_gm : Blk w gm 3 [.int .i64 most]) (hgm : gm ≠ g) :
  Fn Tryz.prog 144 #[(.pointer (some ⟨g, 0, none⟩)), (.func (.func 145) #[] #[(.pointer (some ⟨gm, 0, none⟩))])] w (fun v w' => (∃ B c2, v = .tuple #[.slice B (vpart l most).1.length c2, .int .i64 ((vpart l most).2.2 : Int)] ∧ OwnB w' w.heap.size 5 B c2 (vpart l most).1) ∧ RdrStep w w' g lo hi (l.drop (vpart l most).2.1))  := by
 have hG := (ext_refl w).row (some g)
 have hgl := hb_g.lt
 have hs := vget_size l
 have hn := vget_lt l
 have hcap := RdB.cap hr
 refine fn_enter (args := [(.pointer (some ⟨g, 0, none⟩)), (.func (.func 145) #[] #[(.pointer (some ⟨gm, 0, none⟩))])]) Tryz.func144 rfl rfl rfl ?_
 show WC _ _ _ _ [(0, (.pointer (some ⟨g, 0, none⟩))), (1, (.func (.func 145) #[] #[(.pointer (some ⟨gm, 0, none⟩))]))] _
 refine wc_seq (wc_regionL ?_)
 iterate 2 refine va rfl rfl ?_
 refine q_nil (k_then (wc_seq (wc_regionL ?_)))
 refine va rfl rfl ?_
 refine q_nil (k_then (wc_seq (wc_seq (wc_regionL ?_))))
 refine vm rfl rfl ?_
 refine wl_val (ov_nilptr Tryz.underlying150 rfl) rfl rfl rfl ?_
 refine vm rfl rfl ?_
 refine wl_gval (ov_move rfl) rfl rfl rfl rfl rfl ?_
 refine wl_gval (ov_nilCheck rfl) rfl rfl rfl rfl rfl ?_
 refine wl_gval (ov_field0 (off := 0) fo178_0 rfl) rfl rfl rfl rfl rfl ?_
 refine wl_gval (ov_loadAt oc4 rfl hb_g rfl) rfl rfl rfl rfl rfl ?_
 refine wl_gval (ov_not (b := true) rfl) rfl rfl rfl rfl rfl ?_
 refine wl_val (ov_pick_f rfl rfl) rfl rfl rfl ?_
 refine q_nil (k_then ?_)
 refine wc_cond_f rfl ?_
 refine q_skip (k_then (wc_seq (wc_regionL ?_)))
 iterate 2 refine vm rfl rfl ?_
 refine vn rfl rfl ?_
 refine wl_val (ov_field0 (off := 1) fo178_1 rfl) rfl rfl rfl ?_
 refine wl_val (ov_loadAt oc32 rfl hb_g rfl) rfl rfl rfl ?_
 refine wl_step (or_call cl145 rfl rfl (bytes1_any _ _ _ _ _ l most hm gm hb_gm hr hlen)) rfl rfl rfl ?_
 rintro v w1 ⟨A26, c26, rfl, ho26, he26⟩
 replace hb_g := hb_g.ext he26
 replace hr := hr.ext he26
 replace hG := hG.gr he26 (fun _ e => by cases e)
 have hz_he26 := he26.size
 have hq_ho26 := fun g e => Own.lt ho26 (g := g) e
 have hvp := vpart_props l most
 refine vm rfl rfl ?_
 iterate 3 refine vx rfl rfl rfl ?_
 iterate 3 refine va rfl rfl ?_
 refine q_nil (k_then (wc_seq (wc_seq (wc_regionL ?_))))
 refine vm rfl rfl ?_
 refine wl_val (ov_neq rfl rfl) rfl rfl rfl ?_
 refine q_nil (k_then ?_)
 refine wc_cond_d rfl (fun hc2 => ?_) (fun hc2 => ?_)
 ·refine wc_seq (wc_regionL ?_)
  iterate 2 refine vm rfl rfl ?_
  iterate 2 refine va rfl rfl ?_
  refine q_nil (k_then (q_ret (k_thenR ?_)))
  refine e_ret2 rfl rfl rfl ?_
  have hbad := vpart_bad0 l most (by omega)
  refine ⟨⟨none, 0, by rw [hbad.1]; rfl, by rw [hbad.1]; exact Own.nil_ _ _ _ _⟩, ?_⟩
  rw [hbad.2]
  exact ⟨hG, A, c, hb_g, hr⟩
 ·refine q_skip (k_then (wc_seq (wc_regionL ?_)))
  iterate 2 refine vm rfl rfl ?_
  refine vn rfl rfl ?_
  refine wl_val (ov_field0 (off := 1) fo178_1 rfl) rfl rfl rfl ?_
  refine wl_val (ov_loadAt oc32 rfl hb_g rfl) rfl rfl rfl ?_
  refine vm rfl rfl ?_
  have hcap40 := RdB.cap hr
  refine wl_step (or_bslice bt32 rfl hr (bounds_l rfl (by omega) (by omega)) (by omega) (by omega) (by omega) (by omega)) rfl rfl rfl ?_
  rintro v _ ⟨rfl, A40, c40, rfl, hr40, hl40⟩
  have hs40 : (l.drop (Int.toNat (↑(vpart l most).2.1 : Int))).take (l.length - (Int.toNat (↑(vpart l most).2.1 : Int))) = (l.drop (vpart l most).2.1) := cut_l l (by omega)
  rw [hs40] at hr40 hl40; rw [hs40]; clear hs40
  refine vn rfl rfl ?_
  refine wl_val (ov_field0 (off := 1) fo178_1 rfl) rfl rfl rfl ?_
  refine wl_step0 (or_storeAt (cs' := [(.bool true), (.slice A40 (l.drop (vpart l most).2.1).length c40)]) sz32 rfl rfl rfl hb_g rfl rfl) rfl rfl ?_
  rintro _ w202 ⟨hN202, hg202⟩
  have hz_hg202 := hg202.size
  replace hG := hG.gr hg202 (fun _ e => by first | exact .inl e | (cases e; right; omega))
  replace ho26 := Own.gr ho26 hg202 (by first | exact .inl rfl | (right; intro e; first | (have := hq_ho26 _ e; omega) | (have := Own.lt ho26 e; omega) | exact own_blk_ne ho26 hb_g (by decide) e))
  replace hr40 := hr40.gr hg202 (fun _ e => by cases e; omega)
  replace hb_g := hN202
  refine q_nil (k_then (wc_seq (wc_regionL ?_)))
  refine vm rfl rfl ?_
  iterate 2 refine va rfl rfl ?_
  refine q_nil (k_then (q_ret ?_))
  refine e_ret2 rfl rfl rfl ?_
  exact ⟨⟨A26, c26, by rw [show (vpart l most).2.2 = 0 by omega]; rfl, ho26⟩, hG, A40, c40, hb_g, hr40⟩
theorem rbytes_ok (w : World) (g lo hi : Nat) (A : Option Addr) (c : Nat) (l : List UInt8) (hb_g : Blk w g 178 [.bool true, .slice A l.length c]) (hr : RdB w lo hi A c l) (hne : g < lo ∨ hi ≤ g) (hlen : l.length ≤ 140737488355328) (most : Int) (hm : most ≤ 9223372036854775807) :
  Fn Tryz.prog 127 #[(.pointer (some ⟨g, 0, none⟩)), (.int .i64 most)] w (fun v w' => (∃ B c2, v = .tuple #[.slice B (vpart l most).1.length c2, .int .i64 ((vpart l most).2.2 : Int)] ∧ OwnB w' w.heap.size 5 B c2 (vpart l most).1) ∧ RdrStep w w' g lo hi (l.drop (vpart l most).2.1))  := by
 have hG := (ext_refl w).row (some g)
 have hgl := hb_g.lt
 have hs := vget_size l
 have hn := vget_lt l
 have hcap := RdB.cap hr
 refine fn_enter (args := [(.pointer (some ⟨g, 0, none⟩)), (.int .i64 most)]) Tryz.func127 rfl rfl rfl ?_
 show WC _ _ _ _ [(0, (.pointer (some ⟨g, 0, none⟩))), (1, (.int .i64 most))] _
 refine wc_seq (wc_regionL ?_)
 refine wl_step (or_box (cs := [(.int .i64 most)]) rfl rfl) rfl rfl rfl ?_
 rintro v w1 ⟨g3, rfl, hb_g3, he3, hl3, hu3⟩
 replace hb_g := hb_g.ext he3
 replace hr := hr.ext he3
 replace hG := hG.gr he3 (fun _ e => by cases e)
 have hz_he3 := he3.size
 iterate 2 refine va rfl rfl ?_
 refine q_nil (k_then (wc_seq (wc_regionL ?_)))
 refine vm rfl rfl ?_
 refine wl_val (ov_makeFunc (fi := []) (ca := [.tmp 3]) rfl rfl) rfl rfl rfl ?_
 refine wl_step (or_call cl144 rfl rfl (takebytes_ok _ g lo hi A c l hb_g hr hne hlen most hm g3 hb_g3 (by omega))) rfl rfl rfl ?_
 rintro v w2 ⟨⟨B, c2, rfl, ho⟩, hst⟩
 iterate 2 refine vx rfl rfl rfl ?_
 iterate 2 refine va rfl rfl ?_
 refine q_nil (k_then (q_ret ?_))
 refine e_ret2 rfl rfl rfl ?_
 exact ⟨⟨B, c2, rfl, Own.mono ho (by omega)⟩, hG.trans hst.1, hst.2⟩
theorem left_ok (w : World) (g lo hi : Nat) (A : Option Addr) (c : Nat) (l : List UInt8) (hb_g : Blk w g 178 [.bool true, .slice A l.length c]) (hr : RdB w lo hi A c l) (hne : g < lo ∨ hi ≤ g) (hlen : l.length ≤ 140737488355328) :
  Fn Tryz.prog 88 #[(.pointer (some ⟨g, 0, none⟩))] w (fun v w' => v = .int .i64 (l.length : Int) ∧ w' = w)  := by
 have hG := (ext_refl w).row (some g)
 have hgl := hb_g.lt
 have hs := vget_size l
 have hn := vget_lt l
 have hcap := RdB.cap hr
 refine fn_enter (args := [(.pointer (some ⟨g, 0, none⟩))]) Tryz.func88 rfl rfl rfl ?_
 show WC _ _ _ _ [(0, (.pointer (some ⟨g, 0, none⟩)))] _
 refine wc_seq (wc_regionL ?_)
 refine va rfl rfl ?_
 refine q_nil (k_then (wc_seq (wc_seq (wc_regionL ?_))))
 refine vm rfl rfl ?_
 refine wl_val (ov_nilptr Tryz.underlying150 rfl) rfl rfl rfl ?_
 refine q_nil (k_then ?_)
 refine wc_cond_f rfl ?_
 refine q_skip (k_then (wc_seq (wc_regionL ?_)))
 refine vm rfl rfl ?_
 refine vn rfl rfl ?_
 refine wl_val (ov_field0 (off := 1) fo178_1 rfl) rfl rfl rfl ?_
 refine wl_val (ov_loadAt oc32 rfl hb_g rfl) rfl rfl rfl ?_
 refine wl_val (ov_len Tryz.underlying32 rfl) rfl rfl rfl ?_
 refine va rfl rfl ?_
 refine q_nil (k_then (q_ret ?_))
 refine e_ret rfl rfl ?_
 exact ⟨rfl, rfl⟩
theorem rnew_any (w : World) (lo hi : Nat) (A : Option Addr) (c : Nat) (l : List UInt8) (hr : RdB w lo hi A c l) (hlen : l.length ≤ 140737488355328) :
  Fn Tryz.prog 86 #[(.slice A l.length c)] w (fun v w' => ∃ g A' c' h2, v = .pointer (some ⟨g, 0, none⟩) ∧ Blk w' g 178 [.bool true, .slice A' l.length c'] ∧ RdB w' w.heap.size h2 A' c' l ∧ h2 ≤ g ∧ Ext w w' ∧ w.heap.size ≤ g ∧ g < w'.heap.size)  := by
 replace hr := hr.top
 have hE := ext_refl w
 refine fn_enter (args := [(.slice A l.length c)]) Tryz.func86 rfl rfl rfl ?_
 show WC _ _ _ _ [(0, (.slice A l.length c))] _
 refine wc_seq (wc_regionL ?_)
 refine va rfl rfl ?_
 refine q_nil (k_then (wc_seq (wc_regionL ?_)))
 refine vm rfl rfl ?_
 refine wl_step (or_call0 cl47 rfl rfl (slclone_any _ _ _ _ _ _ hr (by omega))) rfl rfl rfl ?_
 rintro v w1 ⟨A4, c4, rfl, ho4, he4⟩
 replace hE := hE.tr he4
 have hz_he4 := he4.size
 have hrr := OwnB.rd ho4
 refine wl_val (ov_build (cs := [(.bool true), (.slice A4 l.length c4)]) ze178 pl178 rfl rfl) rfl rfl rfl ?_
 refine wl_step (or_box (cs := [(.bool true), (.slice A4 l.length c4)]) rfl rfl) rfl rfl rfl ?_
 rintro v w2 ⟨g6, rfl, hb_g6, he6, hl6, hu6⟩
 replace hE := hE.tr he6
 have hz_he6 := he6.size
 refine va rfl rfl ?_
 refine q_nil (k_then (q_ret ?_))
 refine e_ret rfl rfl ?_
 exact ⟨g6, A4, c4, _, rfl, hb_g6, hrr.ext he6, by omega, hE, by omega, by omega⟩
end Go.Proofs.YtiighkbehiddkaaGreat