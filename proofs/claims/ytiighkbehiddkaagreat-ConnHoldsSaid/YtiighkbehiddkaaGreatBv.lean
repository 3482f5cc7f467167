/-
 The contracts of the buffer that write.
-/
import Derived.Test.YtiighkbehiddkaaGreatBu
namespace Go.Proofs.YtiighkbehiddkaaGreat
open Go.RowKit
set_option linter.unusedVariables false
set_option maxRecDepth 4000
theorem cl68 : callable Tryz.prog 68 = true := by kernel_rfl
theorem cl69 : callable Tryz.prog 69 = true := by kernel_rfl
theorem cl72 : callable Tryz.prog 72 = true := by kernel_rfl
theorem cl73 : callable Tryz.prog 73 = true := by kernel_rfl
theorem cl90 : callable Tryz.prog 90 = true := by kernel_rfl
theorem fo120_3 : fieldOff Tryz.prog 120 3 = some 3 := by kernel_rfl
theorem fo120_4 : fieldOff Tryz.prog 120 4 = some 4 := by kernel_rfl
theorem oc36 : oneCellTy Tryz.prog 36 = true := by kernel_rfl
theorem sz3 : (Tryz.prog.info? 3).map (·.size) = some 1 := by kernel_rfl
theorem sz36 : (Tryz.prog.info? 36).map (·.size) = some 1 := by kernel_rfl
theorem delete_any (w : World) (lo : Nat) (A : Option Addr) (c : Nat) (d : List UInt8) (k : Nat) (hot : OwnT w lo 5 A c d) (hk : k ≤ d.length) (hlo : lo ≤ w.heap.size) (hlen : d.length ≤ 140737488355328) :
  Fn Tryz.prog 90 #[(.slice A d.length c), (.int .i64 0), (.int .i64 (↑k : Int))] w (fun v w' => v = .slice A (d.drop k).length c ∧ OwnT w' lo 5 A c (d.drop k) ∧ Gr w w' (blk A))  := by
 have hG := (ext_refl w).row (blk A)
 have hcd := hot.1
 have hcm := hot.2.1
 simp only [maxLen] at hcm
 refine fn_enter (args := [(.slice A d.length c), (.int .i64 0), (.int .i64 (↑k : Int))]) Tryz.func90 rfl rfl rfl ?_
 show WC _ _ _ _ [(0, (.slice A d.length c)), (1, (.int .i64 0)), (2, (.int .i64 (↑k : Int)))] _
 refine wc_seq (wc_regionL ?_)
 refine va rfl rfl ?_
 refine q_nil (k_then (wc_seq (wc_regionL ?_)))
 iterate 4 refine vm rfl rfl ?_
 refine wl_val (ov_len Tryz.underlying32 rfl) rfl rfl rfl ?_
 refine wl_val (ov_slice bt32 rfl (bounds_lhm rfl rfl rfl (by omega) (by omega) (by omega) (by omega))) rfl rfl rfl ?_
 refine q_nil (k_then (wc_seq (wc_seq (wc_regionL ?_))))
 iterate 2 refine vm rfl rfl ?_
 refine ve rfl rfl rfl ?_
 refine wl_case_d (d := 16) rfl (fun h0 => ?_) (fun h0 => ?_)
 ·refine q_nil (k_then ?_)
  refine wc_cond_t rfl ?_
  refine wc_seq (wc_regionL ?_)
  refine vm rfl rfl ?_
  refine va rfl rfl ?_
  refine q_nil (k_then (q_ret (k_thenR ?_)))
  refine e_ret rfl rfl ?_
  have hk0 : k = 0 := by omega
  subst hk0
  exact ⟨rfl, hot, (ext_refl w).row _⟩
 ·refine q_nil (k_then ?_)
  refine wc_cond_f rfl ?_
  refine q_skip (k_then (wc_seq (wc_regionL ?_)))
  refine vm rfl rfl ?_
  refine wl_val (ov_len Tryz.underlying32 rfl) rfl rfl rfl ?_
  refine va rfl rfl ?_
  refine q_nil (k_then (wc_seq ?_))
  refine wc_draw mixed 6 [(20, eqv (.slice A d.length c)), (21, eqv (.int .i64 0)), (22, eqv (.slice A (d.take 0).length c)), (23, eqv (.slice A d.length c)), (24, eqv (.int .i64 (↑k : Int))), (25, isB 0 (d.drop k))] [[], [], [0, 1], [], [], [3, 4]] _ [] [] (fun _ _ h => h) trivial (by kernel_rfl) rfl ⟨⟨stb_eqv _, fun _ he => by cases he⟩, ⟨stb_eqv _, fun _ he => by cases he⟩, ⟨stb_eqv _, fun _ he => by cases he⟩, ⟨stb_eqv _, fun _ he => by cases he⟩, ⟨stb_eqv _, fun _ he => by cases he⟩, ⟨stb_isB _ _, fun _ he => by cases he⟩, trivial⟩ ⟨?_, ?_, ?_, ?_, ?_, ?_, trivial⟩ ?_
  ·intro wd hxE
   have hz_hxE := hxE.size
   show OpG _ _ _ _ _ _
   exact og_plain rfl (ox_val (ov_move rfl))
  ·intro wd hxE
   have hz_hxE := hxE.size
   show OpG _ _ _ _ _ _
   exact og_plain rfl (ox_val (ov_move rfl))
  ·intro wd hxE
   replace hot := OwnT.ext hot hxE
   have hz_hxE := hxE.size
   rintro _ rfl
   rintro _ rfl
   show OpG _ _ _ _ _ _
   exact og_plain rfl (ox_val (ov_ttake bt32 0 rfl hot rfl rfl (by omega)))
  ·intro wd hxE
   have hz_hxE := hxE.size
   show OpG _ _ _ _ _ _
   exact og_plain rfl (ox_val (ov_move rfl))
  ·intro wd hxE
   have hz_hxE := hxE.size
   show OpG _ _ _ _ _ _
   exact og_plain rfl (ox_val (ov_move rfl))
  ·intro wd hxE
   replace hot := OwnT.ext hot hxE
   have hz_hxE := hxE.size
   rintro _ rfl
   rintro _ rfl
   show OpG _ _ _ _ _ _
   have hcap25 := RdB.cap (OwnT.rd hot)
   refine og_plain rfl (OpRun.mono (or_bslice bt32 rfl (OwnT.rd hot) (bounds_l rfl (by omega) (by omega)) (by omega) (by omega) (by omega) (by omega)) ?_)
   rintro v _ ⟨rfl, A25, c25, rfl, hr25, hl25⟩
   have hs25 : (d.drop (Int.toNat (↑k : Int))).take (d.length - (Int.toNat (↑k : Int))) = (d.drop k) := (by rw [Int.toNat_natCast, List.take_of_length_le (by simp)])
   rw [hs25] at hr25 hl25; rw [hs25]; clear hs25
   exact ⟨⟨A25, c25, rfl, (Rd.top hr25).mono (Nat.zero_le _) (Nat.le_refl _)⟩, ext_refl _⟩
  ·intro wf5 hf5
   replace hot := OwnT.ext hot hf5
   replace hG := hG.gr hf5 (fun _ e => by cases e)
   have hz_hf5 := hf5.size
   rintro _ rfl
   rintro _ rfl
   rintro _ rfl
   rintro _ rfl
   rintro _ rfl
   rintro _ ⟨A25, c25, rfl, hr25⟩
   show WL _ _ _ [_, _] _ _ _
   refine wl_step (or_tappend bt32 rfl (hot.take 0) rfl hr25 (by simp; omega) (by omega)) rfl rfl rfl ?_
   rintro v w201 ⟨A26, c26, rfl, hot26, hg26, _, hroom⟩
   obtain ⟨hA26, hc26⟩ := hroom (by simp; omega)
   subst hA26 hc26
   simp only [List.take_zero, List.nil_append] at hot26
   have hz26 := hg26.size
   replace hG := hG.gr hg26 (fun x e => .inl e)
   refine wl_spell (d := 26) rfl (v' := .slice A26 (d.drop k).length c26) (by simp) ?_
   refine va rfl rfl ?_
   refine q_nil (k_then (wc_seq (wc_regionL ?_)))
   iterate 2 refine vm rfl rfl ?_
   refine wl_val (ov_len Tryz.underlying32 rfl) rfl rfl rfl ?_
   refine vm rfl rfl ?_
   refine wl_val (ov_slice (ol := some (.tmp 29)) (oh := some (.tmp 30)) (om := none) (a := (d.drop k).length) (b := d.length) (m := c26) bt32 rfl (fun ρ hρ => (bounds_lh (i := ((d.drop k).length : Int)) (j := (d.length : Int)) rfl rfl (by omega) (by simp only [List.length_drop]; omega) (by omega) ρ hρ).trans (by rw [Int.toNat_natCast, Int.toNat_natCast]))) rfl rfl rfl ?_
   refine wl_spell (d := 31) rfl (v' := .slice (if c26 = (d.drop k).length then A26 else A26.map (·.add ((d.drop k).length * 1))) k (c26 - (d.drop k).length)) (by rw [show d.length - (d.drop k).length = k by simp only [List.length_drop]; omega]) ?_
   refine wl_step0 (or_tclear (a := (d.drop k).length) (n := k) bt32 rfl hot26 (Nat.le_refl _) (by omega) (by simp only [List.length_drop]; omega)) rfl rfl ?_
   rintro _ w202 ⟨hot31, hgc⟩
   refine q_nil (k_then (wc_seq (wc_regionL ?_)))
   refine vm rfl rfl ?_
   refine va rfl rfl ?_
   refine q_nil (k_then (q_ret ?_))
   refine e_ret rfl rfl ?_
   exact ⟨rfl, hot31, hG.gr hgc (fun x e => .inl e)⟩
theorem bput_ok (w : World) (lo g : Nat) (D : Option Nat) (m : Nat) (l : List UInt8) (p t : Nat) (hbuf : Buf w lo g D m l p t) (lo2 hi2 : Nat) (B : Option Addr) (c2 : Nat) (q : List UInt8) (hr2 : RdB w lo2 hi2 B c2 q) (hgq : g < lo2 ∨ hi2 ≤ g) (hDq : ∀ x, D = some x → x < lo2 ∨ hi2 ≤ x) (hp : p ≤ 4611686018427387904) (hlo : lo ≤ w.heap.size) :
  Fn Tryz.prog 69 #[(.pointer (some ⟨g, 0, none⟩)), (.slice B q.length c2)] w (fun v w' => v = .tuple #[.int .i64 ((min q.length (m - l.length) : Nat) : Int), .int .i64 0] ∧ (∃ D', Buf w' lo g D' m (l ++ (q.take (min q.length (m - l.length)))) (p + min q.length (m - l.length)) t ∧ Nx w D D') ∧ Ch g D w w')  := by
 obtain ⟨A, c, d, k, rfl, hb_g, hot, hkl, hdk, hkm, hlm, hm1, hm2⟩ := hbuf
 have hgl := hb_g.lt
 have hcd := hot.1
 have hcm := hot.2.1
 simp only [maxLen] at hcm
 have hC := Ch.refl g (blk A) w
 have hDlt : ∀ x, blk A = some x → lo ≤ x ∧ x < w.heap.size := fun x e => hot.lt e
 have hE := ext_refl w
 refine fn_enter (args := [(.pointer (some ⟨g, 0, none⟩)), (.slice B q.length c2)]) Tryz.func69 rfl rfl rfl ?_
 show WC _ _ _ _ [(0, (.pointer (some ⟨g, 0, none⟩))), (1, (.slice B q.length c2))] _
 refine wc_seq (wc_regionL ?_)
 iterate 2 refine va rfl rfl ?_
 refine q_nil (k_then (wc_seq (wc_seq (wc_regionL ?_))))
 refine vm rfl rfl ?_
 refine wl_val (or_call0 cl67 rfl rfl (bzero_ok _ _ _ _ _ _ _ _ _ hm1 hb_g)) rfl rfl rfl ?_
 refine q_nil (k_then ?_)
 refine wc_cond_f rfl ?_
 refine q_skip (k_then (wc_seq (wc_regionL ?_)))
 refine vm rfl rfl ?_
 refine wl_val (ov_len Tryz.underlying32 rfl) rfl rfl rfl ?_
 refine vm rfl rfl ?_
 refine wl_step (or_call0 cl68 rfl rfl (broom_ok _ _ _ _ _ _ _ _ ⟨_, _, _, _, rfl, hb_g, hot, hkl, hdk, hkm, hlm, hm1, hm2⟩)) rfl rfl rfl ?_
 rintro v w1 ⟨rfl, he12⟩
 replace hb_g := hb_g.ext he12
 replace hot := OwnT.ext hot he12
 replace hr2 := hr2.ext he12
 replace hC := hC.ext he12
 have hz_he12 := he12.size
 refine wl_val (ov_min rfl rfl (m := ((min q.length (m - l.length) : Nat) : Int)) (by omega)) rfl rfl rfl ?_
 refine va rfl rfl ?_
 refine q_nil (k_then (wc_seq ?_))
 refine wc_drawA mixed ?_
 intro w2 hx4
 replace hb_g := hb_g.ext hx4
 replace hot := OwnT.ext hot hx4
 replace hr2 := hr2.ext hx4
 replace hC := hC.ext hx4
 have hz_hx4 := hx4.size
 refine wa_main (Fam ((fun a b => Gr a b (blk A)))) (fam1 ((fun _ _ h => Ext.row h _))) (fam2 ((fun _ _ _ h k => Gr.gr h k (fun g e => .inl e)))) (fam3 ((fun _ _ h => Ext.row h _)) ((fun _ _ _ h k => Gr.gr h k (fun g e => .inl e)))) 0 9 [(14, eqv (.pointer (some ⟨g, 0, none⟩))), (15, eqv (.pointer (some ⟨g, 0, none⟩))), (16, eqv (.pointer (some ⟨g, 0, none⟩))), (17, eqv (.pointer (some ⟨g, 1, none⟩))), (18, eqv (.slice A d.length c)), (19, eqv (.slice B q.length c2)), (20, eqv (.int .i64 ((min q.length (m - l.length) : Nat) : Int))), (21, isB 0 (q.take (min q.length (m - l.length)))), (22, (fun v w' => ∃ A22 c22, v = .slice A22 (d ++ (q.take (min q.length (m - l.length)))).length c22 ∧ OwnT w' lo 5 A22 c22 (d ++ (q.take (min q.length (m - l.length)))) ∧ Nx w (blk A) (blk A22)))] [[], [], [1], [2], [3], [], [], [5, 6], [4, 7]] [[0], [0], [0], [0], [0], [0], [0], [], []] [[0], [0], [0], [0], [0], [0], [0], [0], []] [none, none, none, none, none, none, none, none, some 0] [true, true, true, true, true, true, true, false, true] [0] _ [] [] (fun _ _ h => h) trivial (by kernel_rfl) rfl ⟨stbA (fun _ => stb_eqv _) _, stbA (fun _ => stb_eqv _) _, stbA (fun _ => stb_eqv _) _, stbA (fun _ => stb_eqv _) _, stbA (fun _ => stb_eqv _) _, stbA (fun _ => stb_eqv _) _, stbA (fun _ => stb_eqv _) _, stb0 (stb_isB _ _), stb0 ((fun v w w' ⟨A, c, hv, ho, hN⟩ he => ⟨A, c, hv, OwnT.ext ho he, hN⟩)), trivial⟩ ⟨?_, ?_, ?_, ?_, ?_, ?_, ?_, ?_, ?_, trivial⟩ ?_
 ·intro wd hxE
  have hz_hxE := hxE.size
  have hneA := OwnT.ne hot hb_g (by decide)
  show OpG _ _ _ _ _ _
  exact og_plain rfl (ox_val (ov_move rfl))
 ·intro wd hxE
  have hz_hxE := hxE.size
  have hneA := OwnT.ne hot hb_g (by decide)
  show OpG _ _ _ _ _ _
  exact og_plain rfl (ox_val (ov_move rfl))
 ·intro wd hxE
  have hz_hxE := hxE.size
  have hneA := OwnT.ne hot hb_g (by decide)
  rintro _ rfl
  show OpG _ _ _ _ _ _
  exact og_plain rfl (ox_val (ov_nilCheck rfl))
 ·intro wd hxE
  have hz_hxE := hxE.size
  have hneA := OwnT.ne hot hb_g (by decide)
  rintro _ rfl
  show OpG _ _ _ _ _ _
  exact og_plain rfl (ox_val (ov_field0 (off := 1) fo120_1 rfl))
 ·intro wd hxE
  have hz_hxE := hxE.size
  have hneA := OwnT.ne hot hb_g (by decide)
  replace hb_g := hb_g.gr hxE hneA
  rintro _ rfl
  show OpG _ _ _ _ _ _
  exact og_plain rfl (ox_val (ov_loadAt oc32 rfl hb_g rfl))
 ·intro wd hxE
  have hz_hxE := hxE.size
  have hneA := OwnT.ne hot hb_g (by decide)
  show OpG _ _ _ _ _ _
  exact og_plain rfl (ox_val (ov_move rfl))
 ·intro wd hxE
  have hz_hxE := hxE.size
  have hneA := OwnT.ne hot hb_g (by decide)
  show OpG _ _ _ _ _ _
  exact og_plain rfl (ox_val (ov_move rfl))
 ·intro wd hxE
  have hz_hxE := hxE.size
  have hneA := OwnT.ne hot hb_g (by decide)
  replace hr2 := hr2.gr hxE (fun x e => hDq x e)
  rintro _ rfl
  rintro _ rfl
  show OpG _ _ _ _ _ _
  have hcap21 := RdB.cap hr2
  refine og_plain rfl (OpRun.mono (or_bslice bt32 rfl hr2 (bounds_h rfl (by omega) (by omega)) (by omega) (by omega) (by omega) (by omega)) ?_)
  rintro v _ ⟨rfl, A21, c21, rfl, hr21, hl21⟩
  have hs21 : (q.drop 0).take ((Int.toNat ((min q.length (m - l.length) : Nat) : Int)) - 0) = (q.take (min q.length (m - l.length))) := (by rw [List.drop_zero, Nat.sub_zero, Int.toNat_natCast])
  rw [hs21] at hr21 hl21; rw [hs21]; clear hs21
  exact ⟨⟨A21, c21, rfl, (Rd.top hr21).mono (Nat.zero_le _) (Nat.le_refl _)⟩, ext_refl _⟩
 ·intro wd hxE
  replace hot := OwnT.ext hot hxE
  have hz_hxE := hxE.size
  rintro _ rfl
  rintro _ ⟨A21, c21, rfl, hr21⟩
  show OpG _ _ _ _ _ _
  refine og_plain rfl (OpRun.mono (or_tappend bt32 rfl hot rfl hr21 (by simp; omega) (by omega)) ?_)
  rintro v w3 ⟨A22, c22, rfl, hot22, hg22, hN22, _⟩
  exact ⟨⟨A22, c22, rfl, hot22, hN22.mono (by omega)⟩, hg22⟩
 ·intro wf4 hf4
  have hz_hf4 := hf4.size
  have hneA := OwnT.ne hot hb_g (by decide)
  replace hb_g := hb_g.gr hf4 hneA
  replace hC := hC.tr (Ch.of_row hf4) (fun x e => .inl e)
  rintro _ rfl
  rintro _ rfl
  rintro _ rfl
  rintro _ rfl
  rintro _ rfl
  rintro _ rfl
  rintro _ rfl
  intro v21
  rintro _ ⟨A22, c22, rfl, hot22, hN22⟩
  refine wa_tail (by kernel_rfl) ?_
  show WL _ _ _ [_, _, _] _ _ _
  refine vn rfl rfl ?_
  refine wl_val (ov_field0 (off := 1) fo120_1 rfl) rfl rfl rfl ?_
  refine wl_step0 (or_storeAt (cs' := [(.int .i64 (↑m : Int)), (.slice A22 (d ++ (q.take (min q.length (m - l.length)))).length c22), (.int .i64 (↑k : Int)), (.int .u64 (↑p : Int)), (.int .u64 (↑t : Int))]) sz32 rfl rfl rfl hb_g rfl rfl) rfl rfl ?_
  rintro _ w3 ⟨hN3, hg3⟩
  have hz_hg3 := hg3.size
  replace hC := hC.gr2 hg3 (fun x e => by cases e; first | exact .inl rfl | (right; right; omega))
  replace hot22 := OwnT.gr hot22 hg3 (by first | exact .inl rfl | (right; intro e; first | (have := hq_hot22 _ e; omega) | exact OwnT.ne hot22 hb_g (by decide) e))
  replace hb_g := hN3
  refine q_nil (k_then (wc_seq (wc_regionL ?_)))
  refine vm rfl rfl ?_
  refine vn rfl rfl ?_
  refine wl_val (ov_field0 (off := 3) fo120_3 rfl) rfl rfl rfl ?_
  refine wl_val (ov_loadAt oc36 rfl hb_g rfl) rfl rfl rfl ?_
  refine vm rfl rfl ?_
  refine wl_val (ov_conv Tryz.underlying3 Tryz.underlying36 rfl (wu64 (by omega) (by omega))) rfl rfl rfl ?_
  refine wl_val (ov_add rfl rfl (wu64 (by omega) (by omega))) rfl rfl rfl ?_
  refine vn rfl rfl ?_
  refine wl_val (ov_field0 (off := 3) fo120_3 rfl) rfl rfl rfl ?_
  refine wl_step0 (or_storeAt (cs' := [(.int .i64 (↑m : Int)), (.slice A22 (d ++ (q.take (min q.length (m - l.length)))).length c22), (.int .i64 (↑k : Int)), (.int .u64 ((↑p : Int) + ((min q.length (m - l.length) : Nat) : Int))), (.int .u64 (↑t : Int))]) sz36 rfl rfl rfl hb_g rfl rfl) rfl rfl ?_
  rintro _ w4 ⟨hN4, hg4⟩
  have hz_hg4 := hg4.size
  replace hC := hC.gr2 hg4 (fun x e => by cases e; first | exact .inl rfl | (right; right; omega))
  replace hot22 := OwnT.gr hot22 hg4 (by first | exact .inl rfl | (right; intro e; first | (have := hq_hot22 _ e; omega) | exact OwnT.ne hot22 hb_g (by decide) e))
  replace hb_g := hN4
  refine q_nil (k_then (wc_seq (wc_regionL ?_)))
  refine vm rfl rfl ?_
  iterate 2 refine va rfl rfl ?_
  refine q_nil (k_then (q_ret ?_))
  refine e_ret2 rfl rfl rfl ?_
  exact ⟨rfl, ⟨_, ⟨_, _, _, k, rfl, hb_g, hot22, by simp; omega, drop_snoc hdk (by omega), by omega, by simp; omega, hm1, hm2⟩, hN22⟩, hC⟩
theorem bputall_ok (w : World) (lo g : Nat) (D : Option Nat) (m : Nat) (l : List UInt8) (p t : Nat) (hbuf : Buf w lo g D m l p t) (lo2 hi2 : Nat) (B : Option Addr) (c2 : Nat) (q : List UInt8) (hr2 : RdB w lo2 hi2 B c2 q) (hgq : g < lo2 ∨ hi2 ≤ g) (hDq : ∀ x, D = some x → x < lo2 ∨ hi2 ≤ x) (hp : p ≤ 4611686018427387904) (hlo : lo ≤ w.heap.size) :
  Fn Tryz.prog 44 #[(.pointer (some ⟨g, 0, none⟩)), (.slice B q.length c2)] w (fun v w' => v = .int .i64 ((ball m l q).2.2 : Int) ∧ (∃ D', Buf w' lo g D' m (ball m l q).1 (p + (ball m l q).2.1) t ∧ Nx w D D') ∧ Ch g D w w')  := by
 obtain ⟨A, c, d, k, rfl, hb_g, hot, hkl, hdk, hkm, hlm, hm1, hm2⟩ := hbuf
 have hgl := hb_g.lt
 have hcd := hot.1
 have hcm := hot.2.1
 simp only [maxLen] at hcm
 have hC := Ch.refl g (blk A) w
 have hDlt : ∀ x, blk A = some x → lo ≤ x ∧ x < w.heap.size := fun x e => hot.lt e
 have hE := ext_refl w
 refine fn_enter (args := [(.pointer (some ⟨g, 0, none⟩)), (.slice B q.length c2)]) Tryz.func44 rfl rfl rfl ?_
 show WC _ _ _ _ [(0, (.pointer (some ⟨g, 0, none⟩))), (1, (.slice B q.length c2))] _
 refine wc_seq (wc_regionL ?_)
 refine va rfl rfl ?_
 refine q_nil (k_then (wc_seq (wc_seq (wc_regionL ?_))))
 refine vm rfl rfl ?_
 refine wl_val (or_call0 cl67 rfl rfl (bzero_ok _ _ _ _ _ _ _ _ _ hm1 hb_g)) rfl rfl rfl ?_
 refine q_nil (k_then ?_)
 refine wc_cond_f rfl ?_
 refine q_skip (k_then (wc_seq (wc_seq (wc_regionL ?_))))
 refine vm rfl rfl ?_
 refine wl_val (ov_len Tryz.underlying32 rfl) rfl rfl rfl ?_
 refine vm rfl rfl ?_
 refine wl_step (or_call0 cl68 rfl rfl (broom_ok _ _ _ _ _ _ _ _ ⟨_, _, _, _, rfl, hb_g, hot, hkl, hdk, hkm, hlm, hm1, hm2⟩)) rfl rfl rfl ?_
 rintro v w1 ⟨rfl, he12⟩
 replace hb_g := hb_g.ext he12
 replace hot := OwnT.ext hot he12
 replace hr2 := hr2.ext he12
 replace hC := hC.ext he12
 have hz_he12 := he12.size
 refine wl_val (ov_gtr rfl rfl) rfl rfl rfl ?_
 refine q_nil (k_then ?_)
 refine wc_cond_d rfl (fun hc2 => ?_) (fun hc2 => ?_)
 ·refine wc_seq (wc_regionL ?_)
  refine va rfl rfl ?_
  refine q_nil (k_then (q_ret (k_thenR ?_)))
  refine e_ret rfl rfl ?_
  rw [bal_full (by omega)]
  exact ⟨rfl, ⟨_, ⟨_, _, _, _, rfl, hb_g, hot, hkl, hdk, hkm, hlm, hm1, hm2⟩, Nx.refl _ _⟩, hC⟩
 ·refine q_skip (k_then (wc_seq (wc_regionL ?_)))
  iterate 2 refine vm rfl rfl ?_
  refine wl_step (or_call0 cl69 rfl rfl (bput_ok _ lo g (blk A) m l p t ⟨_, _, _, _, rfl, hb_g, hot, hkl, hdk, hkm, hlm, hm1, hm2⟩ _ _ _ _ q hr2 hgq hDq hp (by omega))) rfl rfl rfl ?_
  rintro v w202 ⟨rfl, ⟨D17, hbuf17, hN17⟩, hC17⟩
  refine vm rfl rfl ?_
  iterate 2 refine vx rfl rfl rfl ?_
  iterate 2 refine va rfl rfl ?_
  refine q_nil (k_then (wc_seq (wc_regionL ?_)))
  refine vm rfl rfl ?_
  refine va rfl rfl ?_
  refine q_nil (k_then (q_ret ?_))
  refine e_ret rfl rfl ?_
  rw [bal_ok (by omega)]
  rw [Nat.min_eq_left (by omega), List.take_of_length_le (Nat.le_refl _)] at hbuf17
  exact ⟨rfl, ⟨_, hbuf17, hN17.mono (by omega)⟩, hC.tr hC17 (fun x e => .inl e)⟩
theorem bskipm_ok (w : World) (lo g : Nat) (D : Option Nat) (m : Nat) (l : List UInt8) (p t : Nat) (hbuf : Buf w lo g D m l p t) (n : Int) (hn1 : -9223372036854775808 ≤ n) (hn : n ≤ 9223372036854775807) (ht : t ≤ 4611686018427387904) (hlo : lo ≤ w.heap.size) :
  Fn Tryz.prog 73 #[(.pointer (some ⟨g, 0, none⟩)), (.int .i64 n)] w (fun v w' => v = .int .i64 ((bskip l n).2.2 : Int) ∧ Buf w' lo g D m (bskip l n).1 p (t + (bskip l n).2.1) ∧ Ch g D w w')  := by
 obtain ⟨A, c, d, k, rfl, hb_g, hot, hkl, hdk, hkm, hlm, hm1, hm2⟩ := hbuf
 have hq_hot := fun g e => OwnT.lt hot (g := g) e
 have hgl := hb_g.lt
 have hcd := hot.1
 have hcm := hot.2.1
 simp only [maxLen] at hcm
 have hC := Ch.refl g (blk A) w
 have hDlt : ∀ x, blk A = some x → lo ≤ x ∧ x < w.heap.size := fun x e => hot.lt e
 have hE := ext_refl w
 refine fn_enter (args := [(.pointer (some ⟨g, 0, none⟩)), (.int .i64 n)]) Tryz.func73 rfl rfl rfl ?_
 show WC _ _ _ _ [(0, (.pointer (some ⟨g, 0, none⟩))), (1, (.int .i64 n))] _
 refine wc_seq (wc_regionL ?_)
 refine va rfl rfl ?_
 refine q_nil (k_then (wc_seq (wc_block (wc_seq (wc_regionL ?_)))))
 refine vm rfl rfl ?_
 refine wl_val (or_call0 cl67 rfl rfl (bzero_ok _ _ _ _ _ _ _ _ _ hm1 hb_g)) rfl rfl rfl ?_
 refine va rfl rfl ?_
 refine q_nil (k_then ?_)
 refine wc_cond_f rfl ?_
 refine wc_seq (wc_regionL ?_)
 refine vm rfl rfl ?_
 refine wl_val (ov_lss rfl rfl) rfl rfl rfl ?_
 refine va rfl rfl ?_
 refine q_nil (k_then ?_)
 refine wc_cond_d rfl (fun hc2 => ?_) (fun hc2 => ?_)
 ·refine wc_seq (wc_regionL ?_)
  refine va rfl rfl ?_
  refine q_nil (k_then (q_ret (k_blockR (k_thenR ?_))))
  refine e_ret rfl rfl ?_
  rw [bsk_neg hc2]
  exact ⟨rfl, ⟨_, _, _, _, rfl, hb_g, hot, hkl, hdk, hkm, hlm, hm1, hm2⟩, hC⟩
 ·refine wc_seq (wc_regionL ?_)
  iterate 2 refine vm rfl rfl ?_
  refine wl_step (or_call0 cl50 rfl rfl (blen_ok _ _ _ _ _ _ _ _ ⟨_, _, _, _, rfl, hb_g, hot, hkl, hdk, hkm, hlm, hm1, hm2⟩)) rfl rfl rfl ?_
  rintro v w201 ⟨rfl, he14⟩
  replace hb_g := hb_g.ext he14
  replace hot := OwnT.ext hot he14
  replace hC := hC.ext he14
  have hz_he14 := he14.size
  refine wl_val (ov_gtr rfl rfl) rfl rfl rfl ?_
  refine va rfl rfl ?_
  refine q_nil (k_then ?_)
  refine wc_cond_d rfl (fun hc3 => ?_) (fun hc3 => ?_)
  ·refine wc_seq (wc_regionL ?_)
   refine va rfl rfl ?_
   refine q_nil (k_then (q_ret (k_blockR (k_thenR ?_))))
   refine e_ret rfl rfl ?_
   rw [bsk_far hc2 hc3]
   exact ⟨rfl, ⟨_, _, _, _, rfl, hb_g, hot, hkl, hdk, hkm, hlm, hm1, hm2⟩, hC⟩
  ·obtain ⟨j, rfl⟩ : ∃ j : Nat, n = (j : Int) := ⟨n.toNat, by omega⟩
   refine q_skip (k_block (k_then (wc_seq (wc_regionL ?_))))
   refine vm rfl rfl ?_
   refine vn rfl rfl ?_
   refine wl_val (ov_field0 (off := 2) fo120_2 rfl) rfl rfl rfl ?_
   refine wl_val (ov_loadAt oc3 rfl hb_g rfl) rfl rfl rfl ?_
   refine vm rfl rfl ?_
   refine wl_val (ov_add rfl rfl (m := ((k + j : Nat) : Int)) (by rw [← Int.natCast_add]; exact wi64 (by omega) (by omega))) rfl rfl rfl ?_
   refine vn rfl rfl ?_
   refine wl_val (ov_field0 (off := 2) fo120_2 rfl) rfl rfl rfl ?_
   refine wl_step0 (or_storeAt (cs' := [(.int .i64 (↑m : Int)), (.slice A d.length c), (.int .i64 ((k + j : Nat) : Int)), (.int .u64 (↑p : Int)), (.int .u64 (↑t : Int))]) sz3 rfl rfl rfl hb_g rfl rfl) rfl rfl ?_
   rintro _ w202 ⟨hN202, hg202⟩
   have hz_hg202 := hg202.size
   replace hot := OwnT.gr hot hg202 (by first | exact .inl rfl | (right; intro e; first | (have := hq_hot _ e; omega) | exact OwnT.ne hot hb_g (by decide) e))
   replace hC := hC.gr2 hg202 (fun x e => by cases e; first | exact .inl rfl | (right; right; omega))
   replace hb_g := hN202
   refine q_nil (k_then (wc_seq (wc_regionL ?_)))
   refine vm rfl rfl ?_
   refine vn rfl rfl ?_
   refine wl_val (ov_field0 (off := 4) fo120_4 rfl) rfl rfl rfl ?_
   refine wl_val (ov_loadAt oc36 rfl hb_g rfl) rfl rfl rfl ?_
   refine vm rfl rfl ?_
   refine wl_val (ov_conv Tryz.underlying3 Tryz.underlying36 rfl (wu64 (by omega) (by omega))) rfl rfl rfl ?_
   refine wl_val (ov_add rfl rfl (addN t j (by omega))) rfl rfl rfl ?_
   refine vn rfl rfl ?_
   refine wl_val (ov_field0 (off := 4) fo120_4 rfl) rfl rfl rfl ?_
   refine wl_step0 (or_storeAt (cs' := [(.int .i64 (↑m : Int)), (.slice A d.length c), (.int .i64 ((k + j : Nat) : Int)), (.int .u64 (↑p : Int)), (.int .u64 ((t + j : Nat) : Int))]) sz36 rfl rfl rfl hb_g rfl rfl) rfl rfl ?_
   rintro _ w203 ⟨hN203, hg203⟩
   have hz_hg203 := hg203.size
   replace hot := OwnT.gr hot hg203 (by first | exact .inl rfl | (right; intro e; first | (have := hq_hot _ e; omega) | exact OwnT.ne hot hb_g (by decide) e))
   replace hC := hC.gr2 hg203 (fun x e => by cases e; first | exact .inl rfl | (right; right; omega))
   replace hb_g := hN203
   refine q_nil (k_then (wc_seq (wc_seq ?_)))
   refine wc_draw mixed 10 [(33, eqv (.pointer (some ⟨g, 0, none⟩))), (34, eqv (.pointer (some ⟨g, 0, none⟩))), (35, eqv (.pointer (some ⟨g, 2, none⟩))), (36, eqv (.int .i64 ((k + j : Nat) : Int))), (37, eqv (.int .i64 (2 * ((k + j : Nat) : Int)))), (38, eqv (.pointer (some ⟨g, 0, none⟩))), (39, eqv (.pointer (some ⟨g, 0, none⟩))), (40, eqv (.pointer (some ⟨g, 1, none⟩))), (41, eqv (.slice A d.length c)), (42, eqv (.int .i64 (↑d.length : Int)))] [[], [0], [1], [2], [3], [], [5], [6], [7], [8]] _ [] [] (fun _ _ h => h) trivial (by kernel_rfl) rfl ⟨⟨stb_eqv _, fun _ he => by cases he⟩, ⟨stb_eqv _, fun _ he => by cases he⟩, ⟨stb_eqv _, fun _ he => by cases he⟩, ⟨stb_eqv _, fun _ he => by cases he⟩, ⟨stb_eqv _, fun _ he => by cases he⟩, ⟨stb_eqv _, fun _ he => by cases he⟩, ⟨stb_eqv _, fun _ he => by cases he⟩, ⟨stb_eqv _, fun _ he => by cases he⟩, ⟨stb_eqv _, fun _ he => by cases he⟩, ⟨stb_eqv _, fun _ he => by cases he⟩, trivial⟩ ⟨?_, ?_, ?_, ?_, ?_, ?_, ?_, ?_, ?_, ?_, trivial⟩ ?_
   ·intro wd hxE
    have hz_hxE := hxE.size
    show OpG _ _ _ _ _ _
    exact og_plain rfl (ox_val (ov_move rfl))
   ·intro wd hxE
    have hz_hxE := hxE.size
    rintro _ rfl
    show OpG _ _ _ _ _ _
    exact og_plain rfl (ox_val (ov_nilCheck rfl))
   ·intro wd hxE
    have hz_hxE := hxE.size
    rintro _ rfl
    show OpG _ _ _ _ _ _
    exact og_plain rfl (ox_val (ov_field0 (off := 2) fo120_2 rfl))
   ·intro wd hxE
    replace hb_g := hb_g.ext hxE
    have hz_hxE := hxE.size
    rintro _ rfl
    show OpG _ _ _ _ _ _
    exact og_plain rfl (ox_val (ov_loadAt oc3 rfl hb_g rfl))
   ·intro wd hxE
    have hz_hxE := hxE.size
    rintro _ rfl
    show OpG _ _ _ _ _ _
    exact og_plain rfl (ox_val (ov_mul rfl rfl (wi64 (by omega) (by omega))))
   ·intro wd hxE
    have hz_hxE := hxE.size
    show OpG _ _ _ _ _ _
    exact og_plain rfl (ox_val (ov_move rfl))
   ·intro wd hxE
    have hz_hxE := hxE.size
    rintro _ rfl
    show OpG _ _ _ _ _ _
    exact og_plain rfl (ox_val (ov_nilCheck rfl))
   ·intro wd hxE
    have hz_hxE := hxE.size
    rintro _ rfl
    show OpG _ _ _ _ _ _
    exact og_plain rfl (ox_val (ov_field0 (off := 1) fo120_1 rfl))
   ·intro wd hxE
    replace hb_g := hb_g.ext hxE
    have hz_hxE := hxE.size
    rintro _ rfl
    show OpG _ _ _ _ _ _
    exact og_plain rfl (ox_val (ov_loadAt oc32 rfl hb_g rfl))
   ·intro wd hxE
    have hz_hxE := hxE.size
    rintro _ rfl
    show OpG _ _ _ _ _ _
    exact og_plain rfl (ox_val (ov_len Tryz.underlying32 rfl))
   ·intro wf9 hf9
    replace hb_g := hb_g.ext hf9
    replace hot := OwnT.ext hot hf9
    replace hC := hC.ext hf9
    have hz_hf9 := hf9.size
    rintro _ rfl
    rintro _ rfl
    rintro _ rfl
    rintro _ rfl
    rintro _ rfl
    rintro _ rfl
    rintro _ rfl
    rintro _ rfl
    rintro _ rfl
    rintro _ rfl
    show WL _ _ _ [_] _ _ _
    refine wl_val (ov_geq rfl rfl) rfl rfl rfl ?_
    refine q_nil (k_then ?_)
    refine wc_cond_d rfl (fun hc4 => ?_) (fun hc4 => ?_)
    ·refine wc_seq ?_
     refine wc_drawA mixed ?_
     intro w204 hx10
     replace hb_g := hb_g.ext hx10
     replace hot := OwnT.ext hot hx10
     replace hC := hC.ext hx10
     have hz_hx10 := hx10.size
     refine wa_main (Fam ((fun a b => Gr a b (blk A)))) (fam1 ((fun _ _ h => Ext.row h _))) (fam2 ((fun _ _ _ h k => Gr.gr h k (fun g e => .inl e)))) (fam3 ((fun _ _ h => Ext.row h _)) ((fun _ _ _ h k => Gr.gr h k (fun g e => .inl e)))) 0 10 [(44, eqv (.pointer (some ⟨g, 0, none⟩))), (45, eqv (.pointer (some ⟨g, 0, none⟩))), (46, eqv (.pointer (some ⟨g, 0, none⟩))), (47, eqv (.pointer (some ⟨g, 1, none⟩))), (48, eqv (.slice A d.length c)), (49, eqv (.pointer (some ⟨g, 0, none⟩))), (50, eqv (.pointer (some ⟨g, 0, none⟩))), (51, eqv (.pointer (some ⟨g, 2, none⟩))), (52, eqv (.int .i64 ((k + j : Nat) : Int))), (53, (fun v w' => v = .slice A (d.drop (k + j)).length c ∧ OwnT w' lo 5 A c (d.drop (k + j))))] [[], [], [1], [2], [3], [], [5], [6], [7], [4, 8]] [[0], [0], [0], [0], [0], [0], [0], [0], [0], []] [[0], [0], [0], [0], [0], [0], [0], [0], [0], []] [none, none, none, none, none, none, none, none, none, some 0] [true, true, true, true, true, true, true, true, true, true] [0] _ [] [] (fun _ _ h => h) trivial (by kernel_rfl) rfl ⟨stbA (fun _ => stb_eqv _) _, stbA (fun _ => stb_eqv _) _, stbA (fun _ => stb_eqv _) _, stbA (fun _ => stb_eqv _) _, stbA (fun _ => stb_eqv _) _, stbA (fun _ => stb_eqv _) _, stbA (fun _ => stb_eqv _) _, stbA (fun _ => stb_eqv _) _, stbA (fun _ => stb_eqv _) _, stb0 ((fun v w w' ⟨hv, ho⟩ he => ⟨hv, OwnT.ext ho he⟩)), trivial⟩ ⟨?_, ?_, ?_, ?_, ?_, ?_, ?_, ?_, ?_, ?_, trivial⟩ ?_
     ·intro wd hxE
      have hz_hxE := hxE.size
      have hneA := OwnT.ne hot hb_g (by decide)
      show OpG _ _ _ _ _ _
      exact og_plain rfl (ox_val (ov_move rfl))
     ·intro wd hxE
      have hz_hxE := hxE.size
      have hneA := OwnT.ne hot hb_g (by decide)
      show OpG _ _ _ _ _ _
      exact og_plain rfl (ox_val (ov_move rfl))
     ·intro wd hxE
      have hz_hxE := hxE.size
      have hneA := OwnT.ne hot hb_g (by decide)
      rintro _ rfl
      show OpG _ _ _ _ _ _
      exact og_plain rfl (ox_val (ov_nilCheck rfl))
     ·intro wd hxE
      have hz_hxE := hxE.size
      have hneA := OwnT.ne hot hb_g (by decide)
      rintro _ rfl
      show OpG _ _ _ _ _ _
      exact og_plain rfl (ox_val (ov_field0 (off := 1) fo120_1 rfl))
     ·intro wd hxE
      have hz_hxE := hxE.size
      have hneA := OwnT.ne hot hb_g (by decide)
      replace hb_g := hb_g.gr hxE hneA
      rintro _ rfl
      show OpG _ _ _ _ _ _
      exact og_plain rfl (ox_val (ov_loadAt oc32 rfl hb_g rfl))
     ·intro wd hxE
      have hz_hxE := hxE.size
      have hneA := OwnT.ne hot hb_g (by decide)
      show OpG _ _ _ _ _ _
      exact og_plain rfl (ox_val (ov_move rfl))
     ·intro wd hxE
      have hz_hxE := hxE.size
      have hneA := OwnT.ne hot hb_g (by decide)
      rintro _ rfl
      show OpG _ _ _ _ _ _
      exact og_plain rfl (ox_val (ov_nilCheck rfl))
     ·intro wd hxE
      have hz_hxE := hxE.size
      have hneA := OwnT.ne hot hb_g (by decide)
      rintro _ rfl
      show OpG _ _ _ _ _ _
      exact og_plain rfl (ox_val (ov_field0 (off := 2) fo120_2 rfl))
     ·intro wd hxE
      have hz_hxE := hxE.size
      have hneA := OwnT.ne hot hb_g (by decide)
      replace hb_g := hb_g.gr hxE hneA
      rintro _ rfl
      show OpG _ _ _ _ _ _
      exact og_plain rfl (ox_val (ov_loadAt oc3 rfl hb_g rfl))
     ·intro wd hxE
      replace hot := OwnT.ext hot hxE
      have hz_hxE := hxE.size
      rintro _ rfl
      rintro _ rfl
      show OpG _ _ _ _ _ _
      refine og_plain rfl (OpRun.mono (or_call0 cl90 rfl rfl (delete_any _ lo A c d (k + j) hot (by omega) (by omega) (by omega))) ?_)
      rintro v w205 ⟨rfl, hot53, hg53⟩
      exact ⟨⟨rfl, hot53⟩, hg53⟩
     ·intro wf10 hf10
      have hz_hf10 := hf10.size
      have hneA := OwnT.ne hot hb_g (by decide)
      replace hb_g := hb_g.gr hf10 hneA
      replace hC := hC.tr (Ch.of_row hf10) (fun x e => .inl e)
      rintro _ rfl
      rintro _ rfl
      rintro _ rfl
      rintro _ rfl
      rintro _ rfl
      rintro _ rfl
      rintro _ rfl
      rintro _ rfl
      rintro _ rfl
      rintro _ ⟨rfl, hot53⟩
      refine wa_tail (by kernel_rfl) ?_
      show WL _ _ _ [_, _, _] _ _ _
      refine vn rfl rfl ?_
      refine wl_val (ov_field0 (off := 1) fo120_1 rfl) rfl rfl rfl ?_
      refine wl_step0 (or_storeAt (cs' := [(.int .i64 (↑m : Int)), (.slice A (d.drop (k + j)).length c), (.int .i64 ((k + j : Nat) : Int)), (.int .u64 (↑p : Int)), (.int .u64 ((t + j : Nat) : Int))]) sz32 rfl rfl rfl hb_g rfl rfl) rfl rfl ?_
      rintro _ w205 ⟨hN205, hg205⟩
      have hz_hg205 := hg205.size
      replace hC := hC.gr2 hg205 (fun x e => by cases e; first | exact .inl rfl | (right; right; omega))
      replace hot53 := OwnT.gr hot53 hg205 (by first | exact .inl rfl | (right; intro e; first | (have := hq_hot53 _ e; omega) | exact OwnT.ne hot53 hb_g (by decide) e))
      replace hb_g := hN205
      refine q_nil (k_then (wc_regionL ?_))
      refine vm rfl rfl ?_
      refine vn rfl rfl ?_
      refine wl_val (ov_field0 (off := 2) fo120_2 rfl) rfl rfl rfl ?_
      refine wl_step0 (or_storeAt (cs' := [(.int .i64 (↑m : Int)), (.slice A (d.drop (k + j)).length c), (.int .i64 0), (.int .u64 (↑p : Int)), (.int .u64 ((t + j : Nat) : Int))]) sz3 rfl rfl rfl hb_g rfl rfl) rfl rfl ?_
      rintro _ w206 ⟨hN206, hg206⟩
      have hz_hg206 := hg206.size
      replace hC := hC.gr2 hg206 (fun x e => by cases e; first | exact .inl rfl | (right; right; omega))
      replace hot53 := OwnT.gr hot53 hg206 (by first | exact .inl rfl | (right; intro e; first | (have := hq_hot53 _ e; omega) | exact OwnT.ne hot53 hb_g (by decide) e))
      replace hb_g := hN206
      refine q_nil (k_then (wc_seq (wc_regionL ?_)))
      refine va rfl rfl ?_
      refine q_nil (k_then (q_ret ?_))
      refine e_ret rfl rfl ?_
      rw [bsk_nat (by omega)]
      exact ⟨rfl, ⟨A, c, _, 0, rfl, hb_g, hot53, by simp; omega, by rw [List.drop_zero, ← hdk, List.drop_drop], by omega, by simp; omega, hm1, hm2⟩, hC⟩
    ·refine q_skip (k_then (wc_seq (wc_regionL ?_)))
     refine va rfl rfl ?_
     refine q_nil (k_then (q_ret ?_))
     refine e_ret rfl rfl ?_
     rw [bsk_nat (by omega)]
     exact ⟨rfl, ⟨A, c, d, k + j, rfl, hb_g, hot, by simp; omega, by rw [← hdk, List.drop_drop], by omega, by simp; omega, hm1, hm2⟩, hC⟩
theorem btake_ok (w : World) (lo g : Nat) (D : Option Nat) (m : Nat) (l : List UInt8) (p t : Nat) (hbuf : Buf w lo g D m l p t) (n : Int) (hn1 : -9223372036854775808 ≤ n) (hn : n ≤ 9223372036854775807) (ht : t ≤ 4611686018427387904) (hlo : lo ≤ w.heap.size) :
  Fn Tryz.prog 49 #[(.pointer (some ⟨g, 0, none⟩)), (.int .i64 n)] w (fun v w' => ∃ B c2, v = .tuple #[.slice B (bpeek l n).1.length c2, .int .i64 ((bpeek l n).2 : Int)] ∧ OwnB w' w.heap.size 5 B c2 (bpeek l n).1 ∧ Buf w' lo g D m (l.drop (bpeek l n).1.length) p (t + (bpeek l n).1.length) ∧ Ch g D w w')  := by
 obtain ⟨A, c, d, k, rfl, hb_g, hot, hkl, hdk, hkm, hlm, hm1, hm2⟩ := hbuf
 have hgl := hb_g.lt
 have hcd := hot.1
 have hcm := hot.2.1
 simp only [maxLen] at hcm
 have hC := Ch.refl g (blk A) w
 have hDlt : ∀ x, blk A = some x → lo ≤ x ∧ x < w.heap.size := fun x e => hot.lt e
 have hE := ext_refl w
 refine fn_enter (args := [(.pointer (some ⟨g, 0, none⟩)), (.int .i64 n)]) Tryz.func49 rfl rfl rfl ?_
 show WC _ _ _ _ [(0, (.pointer (some ⟨g, 0, none⟩))), (1, (.int .i64 n))] _
 refine wc_seq (wc_regionL ?_)
 iterate 2 refine va rfl rfl ?_
 refine q_nil (k_then (wc_seq (wc_regionL ?_)))
 iterate 2 refine vm rfl rfl ?_
 refine wl_step (or_call0 cl72 rfl rfl (bpeek_ok _ lo g _ m l p t ⟨_, _, _, _, rfl, hb_g, hot, hkl, hdk, hkm, hlm, hm1, hm2⟩ n hn1 hn)) rfl rfl rfl ?_
 rintro v w1 ⟨A11, c11, rfl, ho11, he11⟩
 replace hb_g := hb_g.ext he11
 replace hot := OwnT.ext hot he11
 replace hC := hC.ext he11
 have hz_he11 := he11.size
 have hq_ho11 := fun g e => Own.lt ho11 (g := g) e
 refine vm rfl rfl ?_
 iterate 2 refine vx rfl rfl rfl ?_
 iterate 2 refine va rfl rfl ?_
 refine q_nil (k_then (wc_seq (wc_seq (wc_regionL ?_))))
 refine vm rfl rfl ?_
 refine ve rfl rfl rfl ?_
 refine q_nil (k_then ?_)
 refine wc_cond_d rfl (fun hc1 => ?_) (fun hc1 => ?_)
 ·refine wc_regionL ?_
  iterate 2 refine vm rfl rfl ?_
  refine wl_val (ov_len Tryz.underlying32 rfl) rfl rfl rfl ?_
  have hpl := bpk_len l n
  refine wl_step (or_call0 cl73 rfl rfl (bskipm_ok _ lo g _ m l p t ⟨_, _, _, _, rfl, hb_g, hot, hkl, hdk, hkm, hlm, hm1, hm2⟩ (↑(bpeek l n).1.length : Int) (by omega) (by omega) ht (by omega))) rfl rfl rfl ?_
  rintro v w2 ⟨rfl, hbuf19, hC19⟩
  rw [bsk_nat hpl] at hbuf19
  refine wl_spell (d := 19) rfl (v' := .int .i64 0) (by rw [bsk_nat hpl]; rfl) ?_
  replace ho11 := hC19.own ho11 (fun x e => by have h1 := hq_ho11 x e; exact ⟨by omega, fun e2 => by have := hDlt x e2; omega⟩)
  have hz19 := hC19.size
  refine va rfl rfl ?_
  refine q_nil (k_then (wc_seq (wc_regionL ?_)))
  iterate 2 refine vm rfl rfl ?_
  iterate 2 refine va rfl rfl ?_
  refine q_nil (k_then (q_ret ?_))
  refine e_ret2 rfl rfl rfl ?_
  exact ⟨A11, c11, by rw [show (bpeek l n).2 = 0 by omega]; rfl, Own.mono ho11 (by omega), hbuf19, hC.tr hC19 (fun x e => .inl e)⟩
 ·refine q_skip (k_then (wc_seq (wc_regionL ?_)))
  iterate 2 refine vm rfl rfl ?_
  iterate 2 refine va rfl rfl ?_
  refine q_nil (k_then (q_ret ?_))
  refine e_ret2 rfl rfl rfl ?_
  rcases bpk_nat l n with h | ⟨h1, h2, _⟩
  ·exact absurd (by rw [h]; rfl) hc1
  ·exact ⟨A11, c11, rfl, Own.mono ho11 (by omega), by rw [h2]; exact ⟨_, _, _, _, rfl, hb_g, hot, hkl, hdk, hkm, hlm, hm1, hm2⟩, hC⟩
end Go.Proofs.YtiighkbehiddkaaGreat